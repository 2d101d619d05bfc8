/- Lnf (printed by program: wip/gen) -/
import Derived.Test.YtnlpibfdobinoaaLnm
import Derived.Test.YtnlpibfdobinoaaKey
namespace Go.Proofs.Ytnlpibfdobinoaa
open Go.RowKit Go.Eng

theorem hop_ext {x y : HOp} (h1 : x.wr = y.wr) (h2 : x.val = y.val) (h3 : x.b = y.b) (h4 : x.e = y.e) : x = y := by
  cases x; cases y; simp_all

theorem same_ok {A B : Option Addr} {c d : Nat} {la lb : List HOp} {S S2 : Nat → Prop} {w : World} (ha : HS S w A c la) (hb : HS S2 w B d lb) : Ret Try.prog 15 #[.slice A la.length c, .slice B lb.length d] w (fun v w' => v = .bool (decide (la = lb)) ∧ Ext w w') := by
  refine ret_of_wk Try.func15 rfl Try.ntmps15 (Nat.le_of_ble_eq_true rfl) ?_
  refine wc_seq ?_
  refine wc_region ?_
  refine wl_assign (by decide) rfl ?_
  refine wl_nil ?_
  refine wk_norm ?_
  refine wc_seq ?_
  refine wc_seq ?_
  refine wc_region ?_
  refine wl_move (by decide) rfl ?_
  refine wl_len (by decide) Try.underlying22 rfl ?_
  refine wl_move (by decide) rfl ?_
  refine wl_len (by decide) Try.underlying22 rfl ?_
  refine wl_neq (by decide) rfl rfl ?_
  refine wl_nil ?_
  refine wk_norm ?_
  refine wc_cond rfl (fun hne => ?_) (fun hne => ?_)
  ·
    try replace hne := of_decide_eq_true hne
    refine wc_seq ?_
    refine wc_region ?_
    refine wl_assign (by decide) rfl ?_
    refine wl_nil ?_
    refine wk_norm ?_
    refine wc_ret ?_
    refine wk_then_ret ?_
    refine wk_post1 (.inl rfl) Try.results15 rfl ?_
    exact ⟨_, rfl, bool_f (fun e => hne (by rw [e])), Chg.refl _ _⟩
  ·
    try replace hne := of_decide_eq_false hne
    have hll : la.length = lb.length := by omega
    refine wc_skip ?_
    refine wk_norm ?_
    refine wc_seq ?_
    refine wc_seq ?_
    refine wc_region ?_
    refine wl_assign (by decide) rfl ?_
    refine wl_nil ?_
    refine wk_norm ?_
    refine wc_block ?_
    refine wc_loop (fun L' w' mes => ∃ (k : Nat), L' = [(0, .slice A la.length c), (1, .slice B lb.length d), (5, .int .i64 (k : Int))] ∧ (k ≤ la.length) ∧ (la.take k = lb.take k) ∧ (Ext w w') ∧ la.length - k = mes) [(0, .slice A la.length c), (1, .slice B lb.length d), (5, .int .i64 (0 : Int))] (la.length - 0) (by
        refine ⟨0, rfl, ?_, ?_, ?_, rfl⟩
        · omega
        · simp
        · exact Chg.refl _ _) ⟨rfl, rfl, rfl, trivial⟩ ?_
    rintro _ wr _ ⟨k, rfl, hk, htk, hE, rfl⟩ KL1 hKL1
    have hmx := ha.mx
    refine wc_seq ?_
    refine wc_seq ?_
    refine wc_region ?_
    refine wl_move (by decide) rfl ?_
    refine wl_move (by decide) rfl ?_
    refine wl_len (by decide) Try.underlying22 rfl ?_
    refine wl_lss (by decide) rfl rfl ?_
    refine wl_nil ?_
    refine wk_norm ?_
    refine wc_cond rfl (fun hlt => ?_) (fun hlt => ?_)
    ·
      try replace hlt := of_decide_eq_true hlt
      obtain ⟨aL, BL, dL, hAL, hatL, hvL⟩ := HS.el (ha.ext hE) k (by omega)
      obtain ⟨aR, BR, dR, hAR, hatR, hvR⟩ := HS.el (hb.ext hE) k (by omega)
      refine wc_skip ?_
      refine wk_norm ?_
      refine wc_seq ?_
      refine wc_block ?_
      refine wc_seq ?_
      by_cases h10 : (hop la k).wr ≠ (hop lb k).wr
      ·
        apply wc_drawL [SP.eq _, SP.eq _, SP.eq _, SP.eq _, SP.eq _, SP.eq _, SP.eq _, SP.eq _, SP.eq _, SP.eq _, SP.eq (.bool true), SP.eq (.bool true), SP.eq undef, SP.eq undef, SP.eq undef, SP.eq undef, SP.eq undef, SP.eq undef, SP.eq undef, SP.eq undef, SP.eq undef, SP.eq undef, SP.eq undef, SP.eq (.bool true), SP.eq (.bool true), SP.eq undef, SP.eq undef, SP.eq undef, SP.eq undef, SP.eq undef, SP.eq undef, SP.eq undef, SP.eq undef, SP.eq undef, SP.eq undef, SP.eq undef, SP.eq (.bool true), SP.eq (.bool true), SP.eq undef, SP.eq undef, SP.eq undef, SP.eq undef, SP.eq undef, SP.eq undef, SP.eq undef, SP.eq undef, SP.eq undef, SP.eq undef, SP.eq undef, SP.eq undef, SP.eq (.bool true)] (by kernel_rfl) (by kernel_rfl)
        · refine ⟨?_, ?_, ?_, ?_, ?_, ?_, ?_, ?_, ?_, ?_, ?_, ?_, ?_, ?_, ?_, ?_, ?_, ?_, ?_, ?_, ?_, ?_, ?_, ?_, ?_, ?_, ?_, ?_, ?_, ?_, ?_, ?_, ?_, ?_, ?_, ?_, ?_, ?_, ?_, ?_, ?_, ?_, ?_, ?_, ?_, ?_, ?_, ?_, ?_, ?_, ?_, trivial⟩
          ·
            intro F wF hER hk
            have e0 := hk.init 0 _ rfl (by kernel_rfl)
            refine wl_move (by decide) e0 ?_
            exact wl_nil (qr_some ⟨Chg.refl _ _, rfl⟩)
          ·
            intro F wF hER hk
            have e5 := hk.init 5 _ rfl (by kernel_rfl)
            refine wl_move (by decide) e5 ?_
            exact wl_nil (qr_some ⟨Chg.refl _ _, rfl⟩)
          ·
            intro F wF hER hk
            obtain ⟨u17, e17, h17⟩ := hk.pred 0 (by kernel_rfl) 17 rfl
            obtain rfl := h17
            obtain ⟨u18, e18, h18⟩ := hk.pred 1 (by kernel_rfl) 18 rfl
            obtain rfl := h18
            refine wl_idx0 (by decide) Try.sl22 e17 e18 hAL k rfl (by omega) ?_
            exact wl_nil (qr_some ⟨Chg.refl _ _, rfl⟩)
          ·
            intro F wF hER hk
            obtain ⟨u19, e19, h19⟩ := hk.pred 2 (by kernel_rfl) 19 rfl
            obtain rfl := h19
            refine wl_fld (by decide) Try.fld45_0 e19 ?_
            exact wl_nil (qr_some ⟨Chg.refl _ _, rfl⟩)
          ·
            intro F wF hER hk
            obtain ⟨u20, e20, h20⟩ := hk.pred 3 (by kernel_rfl) 20 rfl
            obtain rfl := h20
            refine wl_load (by decide) Try.sc4 e20 ((hatL.ext hER).get rfl) ?_
            exact wl_nil (qr_some ⟨Chg.refl _ _, rfl⟩)
          ·
            intro F wF hER hk
            have e1 := hk.init 1 _ rfl (by kernel_rfl)
            refine wl_move (by decide) e1 ?_
            exact wl_nil (qr_some ⟨Chg.refl _ _, rfl⟩)
          ·
            intro F wF hER hk
            have e5 := hk.init 5 _ rfl (by kernel_rfl)
            refine wl_move (by decide) e5 ?_
            exact wl_nil (qr_some ⟨Chg.refl _ _, rfl⟩)
          ·
            intro F wF hER hk
            obtain ⟨u22, e22, h22⟩ := hk.pred 5 (by kernel_rfl) 22 rfl
            obtain rfl := h22
            obtain ⟨u23, e23, h23⟩ := hk.pred 6 (by kernel_rfl) 23 rfl
            obtain rfl := h23
            refine wl_idx0 (by decide) Try.sl22 e22 e23 hAR k rfl (by omega) ?_
            exact wl_nil (qr_some ⟨Chg.refl _ _, rfl⟩)
          ·
            intro F wF hER hk
            obtain ⟨u24, e24, h24⟩ := hk.pred 7 (by kernel_rfl) 24 rfl
            obtain rfl := h24
            refine wl_fld (by decide) Try.fld45_0 e24 ?_
            exact wl_nil (qr_some ⟨Chg.refl _ _, rfl⟩)
          ·
            intro F wF hER hk
            obtain ⟨u25, e25, h25⟩ := hk.pred 8 (by kernel_rfl) 25 rfl
            obtain rfl := h25
            refine wl_load (by decide) Try.sc4 e25 ((hatR.ext hER).get rfl) ?_
            exact wl_nil (qr_some ⟨Chg.refl _ _, rfl⟩)
          ·
            intro F wF hER hk
            obtain ⟨u21, e21, h21⟩ := hk.pred 4 (by kernel_rfl) 21 rfl
            obtain rfl := h21
            obtain ⟨u26, e26, h26⟩ := hk.pred 9 (by kernel_rfl) 26 rfl
            obtain rfl := h26
            refine wl_neqb (by decide) Try.bo4 e21 e26 ?_
            refine wl_re (k := 27) (v := .bool true) rfl (congrArg Value.bool (decide_eq_true (by first | exact h10 | omega | simpa using h10))) ?_
            exact wl_nil (qr_re ⟨Chg.refl _ _, rfl⟩)
          ·
            intro F wF hER hk
            obtain ⟨u27, e27, h27⟩ := hk.pred 10 (by kernel_rfl) 27 rfl
            obtain rfl := h27
            refine wl_move (by decide) e27 ?_
            exact wl_nil (qr_some ⟨Chg.refl _ _, rfl⟩)
          ·
            intro F wF hER hk
            obtain ⟨u28, e28, h28⟩ := hk.pred 11 (by kernel_rfl) 28 rfl
            obtain rfl := h28
            refine wl_gno (by decide) rfl e28 (.inl rfl) ?_
            exact wl_nil (qr_some ⟨Chg.refl _ _, rfl⟩)
          ·
            intro F wF hER hk
            obtain ⟨u28, e28, h28⟩ := hk.pred 11 (by kernel_rfl) 28 rfl
            obtain rfl := h28
            refine wl_gno (by decide) rfl e28 (.inl rfl) ?_
            exact wl_nil (qr_some ⟨Chg.refl _ _, rfl⟩)
          ·
            intro F wF hER hk
            obtain ⟨u28, e28, h28⟩ := hk.pred 11 (by kernel_rfl) 28 rfl
            obtain rfl := h28
            refine wl_gno (by decide) rfl e28 (.inl rfl) ?_
            exact wl_nil (qr_some ⟨Chg.refl _ _, rfl⟩)
          ·
            intro F wF hER hk
            obtain ⟨u28, e28, h28⟩ := hk.pred 11 (by kernel_rfl) 28 rfl
            obtain rfl := h28
            refine wl_gno (by decide) rfl e28 (.inl rfl) ?_
            exact wl_nil (qr_some ⟨Chg.refl _ _, rfl⟩)
          ·
            intro F wF hER hk
            obtain ⟨u28, e28, h28⟩ := hk.pred 11 (by kernel_rfl) 28 rfl
            obtain rfl := h28
            refine wl_gno (by decide) rfl e28 (.inl rfl) ?_
            exact wl_nil (qr_some ⟨Chg.refl _ _, rfl⟩)
          ·
            intro F wF hER hk
            obtain ⟨u28, e28, h28⟩ := hk.pred 11 (by kernel_rfl) 28 rfl
            obtain rfl := h28
            refine wl_gno (by decide) rfl e28 (.inl rfl) ?_
            exact wl_nil (qr_some ⟨Chg.refl _ _, rfl⟩)
          ·
            intro F wF hER hk
            obtain ⟨u28, e28, h28⟩ := hk.pred 11 (by kernel_rfl) 28 rfl
            obtain rfl := h28
            refine wl_gno (by decide) rfl e28 (.inl rfl) ?_
            exact wl_nil (qr_some ⟨Chg.refl _ _, rfl⟩)
          ·
            intro F wF hER hk
            obtain ⟨u28, e28, h28⟩ := hk.pred 11 (by kernel_rfl) 28 rfl
            obtain rfl := h28
            refine wl_gno (by decide) rfl e28 (.inl rfl) ?_
            exact wl_nil (qr_some ⟨Chg.refl _ _, rfl⟩)
          ·
            intro F wF hER hk
            obtain ⟨u28, e28, h28⟩ := hk.pred 11 (by kernel_rfl) 28 rfl
            obtain rfl := h28
            refine wl_gno (by decide) rfl e28 (.inl rfl) ?_
            exact wl_nil (qr_some ⟨Chg.refl _ _, rfl⟩)
          ·
            intro F wF hER hk
            obtain ⟨u28, e28, h28⟩ := hk.pred 11 (by kernel_rfl) 28 rfl
            obtain rfl := h28
            refine wl_gno (by decide) rfl e28 (.inl rfl) ?_
            exact wl_nil (qr_some ⟨Chg.refl _ _, rfl⟩)
          ·
            intro F wF hER hk
            obtain ⟨u28, e28, h28⟩ := hk.pred 11 (by kernel_rfl) 28 rfl
            obtain rfl := h28
            refine wl_gno (by decide) rfl e28 (.inl rfl) ?_
            exact wl_nil (qr_some ⟨Chg.refl _ _, rfl⟩)
          ·
            intro F wF hER hk
            obtain ⟨u28, e28, h28⟩ := hk.pred 11 (by kernel_rfl) 28 rfl
            obtain rfl := h28
            obtain ⟨u39, e39, h39⟩ := hk.pred 22 (by kernel_rfl) 39 rfl
            obtain rfl := h39
            refine wl_pick (by decide) e28 rfl ?_
            exact wl_nil (qr_some ⟨Chg.refl _ _, rfl⟩)
          ·
            intro F wF hER hk
            obtain ⟨u40, e40, h40⟩ := hk.pred 23 (by kernel_rfl) 40 rfl
            obtain rfl := h40
            refine wl_move (by decide) e40 ?_
            exact wl_nil (qr_some ⟨Chg.refl _ _, rfl⟩)
          ·
            intro F wF hER hk
            obtain ⟨u41, e41, h41⟩ := hk.pred 24 (by kernel_rfl) 41 rfl
            obtain rfl := h41
            refine wl_gno (by decide) rfl e41 (.inl rfl) ?_
            exact wl_nil (qr_some ⟨Chg.refl _ _, rfl⟩)
          ·
            intro F wF hER hk
            obtain ⟨u41, e41, h41⟩ := hk.pred 24 (by kernel_rfl) 41 rfl
            obtain rfl := h41
            refine wl_gno (by decide) rfl e41 (.inl rfl) ?_
            exact wl_nil (qr_some ⟨Chg.refl _ _, rfl⟩)
          ·
            intro F wF hER hk
            obtain ⟨u41, e41, h41⟩ := hk.pred 24 (by kernel_rfl) 41 rfl
            obtain rfl := h41
            refine wl_gno (by decide) rfl e41 (.inl rfl) ?_
            exact wl_nil (qr_some ⟨Chg.refl _ _, rfl⟩)
          ·
            intro F wF hER hk
            obtain ⟨u41, e41, h41⟩ := hk.pred 24 (by kernel_rfl) 41 rfl
            obtain rfl := h41
            refine wl_gno (by decide) rfl e41 (.inl rfl) ?_
            exact wl_nil (qr_some ⟨Chg.refl _ _, rfl⟩)
          ·
            intro F wF hER hk
            obtain ⟨u41, e41, h41⟩ := hk.pred 24 (by kernel_rfl) 41 rfl
            obtain rfl := h41
            refine wl_gno (by decide) rfl e41 (.inl rfl) ?_
            exact wl_nil (qr_some ⟨Chg.refl _ _, rfl⟩)
          ·
            intro F wF hER hk
            obtain ⟨u41, e41, h41⟩ := hk.pred 24 (by kernel_rfl) 41 rfl
            obtain rfl := h41
            refine wl_gno (by decide) rfl e41 (.inl rfl) ?_
            exact wl_nil (qr_some ⟨Chg.refl _ _, rfl⟩)
          ·
            intro F wF hER hk
            obtain ⟨u41, e41, h41⟩ := hk.pred 24 (by kernel_rfl) 41 rfl
            obtain rfl := h41
            refine wl_gno (by decide) rfl e41 (.inl rfl) ?_
            exact wl_nil (qr_some ⟨Chg.refl _ _, rfl⟩)
          ·
            intro F wF hER hk
            obtain ⟨u41, e41, h41⟩ := hk.pred 24 (by kernel_rfl) 41 rfl
            obtain rfl := h41
            refine wl_gno (by decide) rfl e41 (.inl rfl) ?_
            exact wl_nil (qr_some ⟨Chg.refl _ _, rfl⟩)
          ·
            intro F wF hER hk
            obtain ⟨u41, e41, h41⟩ := hk.pred 24 (by kernel_rfl) 41 rfl
            obtain rfl := h41
            refine wl_gno (by decide) rfl e41 (.inl rfl) ?_
            exact wl_nil (qr_some ⟨Chg.refl _ _, rfl⟩)
          ·
            intro F wF hER hk
            obtain ⟨u41, e41, h41⟩ := hk.pred 24 (by kernel_rfl) 41 rfl
            obtain rfl := h41
            refine wl_gno (by decide) rfl e41 (.inl rfl) ?_
            exact wl_nil (qr_some ⟨Chg.refl _ _, rfl⟩)
          ·
            intro F wF hER hk
            obtain ⟨u41, e41, h41⟩ := hk.pred 24 (by kernel_rfl) 41 rfl
            obtain rfl := h41
            refine wl_gno (by decide) rfl e41 (.inl rfl) ?_
            exact wl_nil (qr_some ⟨Chg.refl _ _, rfl⟩)
          ·
            intro F wF hER hk
            obtain ⟨u41, e41, h41⟩ := hk.pred 24 (by kernel_rfl) 41 rfl
            obtain rfl := h41
            obtain ⟨u52, e52, h52⟩ := hk.pred 35 (by kernel_rfl) 52 rfl
            obtain rfl := h52
            refine wl_pick (by decide) e41 rfl ?_
            exact wl_nil (qr_some ⟨Chg.refl _ _, rfl⟩)
          ·
            intro F wF hER hk
            obtain ⟨u53, e53, h53⟩ := hk.pred 36 (by kernel_rfl) 53 rfl
            obtain rfl := h53
            refine wl_move (by decide) e53 ?_
            exact wl_nil (qr_some ⟨Chg.refl _ _, rfl⟩)
          ·
            intro F wF hER hk
            obtain ⟨u54, e54, h54⟩ := hk.pred 37 (by kernel_rfl) 54 rfl
            obtain rfl := h54
            refine wl_gno (by decide) rfl e54 (.inl rfl) ?_
            exact wl_nil (qr_some ⟨Chg.refl _ _, rfl⟩)
          ·
            intro F wF hER hk
            obtain ⟨u54, e54, h54⟩ := hk.pred 37 (by kernel_rfl) 54 rfl
            obtain rfl := h54
            refine wl_gno (by decide) rfl e54 (.inl rfl) ?_
            exact wl_nil (qr_some ⟨Chg.refl _ _, rfl⟩)
          ·
            intro F wF hER hk
            obtain ⟨u54, e54, h54⟩ := hk.pred 37 (by kernel_rfl) 54 rfl
            obtain rfl := h54
            refine wl_gno (by decide) rfl e54 (.inl rfl) ?_
            exact wl_nil (qr_some ⟨Chg.refl _ _, rfl⟩)
          ·
            intro F wF hER hk
            obtain ⟨u54, e54, h54⟩ := hk.pred 37 (by kernel_rfl) 54 rfl
            obtain rfl := h54
            refine wl_gno (by decide) rfl e54 (.inl rfl) ?_
            exact wl_nil (qr_some ⟨Chg.refl _ _, rfl⟩)
          ·
            intro F wF hER hk
            obtain ⟨u54, e54, h54⟩ := hk.pred 37 (by kernel_rfl) 54 rfl
            obtain rfl := h54
            refine wl_gno (by decide) rfl e54 (.inl rfl) ?_
            exact wl_nil (qr_some ⟨Chg.refl _ _, rfl⟩)
          ·
            intro F wF hER hk
            obtain ⟨u54, e54, h54⟩ := hk.pred 37 (by kernel_rfl) 54 rfl
            obtain rfl := h54
            refine wl_gno (by decide) rfl e54 (.inl rfl) ?_
            exact wl_nil (qr_some ⟨Chg.refl _ _, rfl⟩)
          ·
            intro F wF hER hk
            obtain ⟨u54, e54, h54⟩ := hk.pred 37 (by kernel_rfl) 54 rfl
            obtain rfl := h54
            refine wl_gno (by decide) rfl e54 (.inl rfl) ?_
            exact wl_nil (qr_some ⟨Chg.refl _ _, rfl⟩)
          ·
            intro F wF hER hk
            obtain ⟨u54, e54, h54⟩ := hk.pred 37 (by kernel_rfl) 54 rfl
            obtain rfl := h54
            refine wl_gno (by decide) rfl e54 (.inl rfl) ?_
            exact wl_nil (qr_some ⟨Chg.refl _ _, rfl⟩)
          ·
            intro F wF hER hk
            obtain ⟨u54, e54, h54⟩ := hk.pred 37 (by kernel_rfl) 54 rfl
            obtain rfl := h54
            refine wl_gno (by decide) rfl e54 (.inl rfl) ?_
            exact wl_nil (qr_some ⟨Chg.refl _ _, rfl⟩)
          ·
            intro F wF hER hk
            obtain ⟨u54, e54, h54⟩ := hk.pred 37 (by kernel_rfl) 54 rfl
            obtain rfl := h54
            refine wl_gno (by decide) rfl e54 (.inl rfl) ?_
            exact wl_nil (qr_some ⟨Chg.refl _ _, rfl⟩)
          ·
            intro F wF hER hk
            obtain ⟨u54, e54, h54⟩ := hk.pred 37 (by kernel_rfl) 54 rfl
            obtain rfl := h54
            refine wl_gno (by decide) rfl e54 (.inl rfl) ?_
            exact wl_nil (qr_some ⟨Chg.refl _ _, rfl⟩)
          ·
            intro F wF hER hk
            obtain ⟨u54, e54, h54⟩ := hk.pred 37 (by kernel_rfl) 54 rfl
            obtain rfl := h54
            refine wl_gno (by decide) rfl e54 (.inl rfl) ?_
            exact wl_nil (qr_some ⟨Chg.refl _ _, rfl⟩)
          ·
            intro F wF hER hk
            obtain ⟨u54, e54, h54⟩ := hk.pred 37 (by kernel_rfl) 54 rfl
            obtain rfl := h54
            obtain ⟨u66, e66, h66⟩ := hk.pred 49 (by kernel_rfl) 66 rfl
            obtain rfl := h66
            refine wl_pick (by decide) e54 rfl ?_
            exact wl_nil (qr_some ⟨Chg.refl _ _, rfl⟩)
        ·
          intro F wD hED hini hdo
          have e0 := hini 0 _ rfl (by kernel_rfl)
          have e1 := hini 1 _ rfl (by kernel_rfl)
          have e5 := hini 5 _ rfl (by kernel_rfl)
          obtain ⟨u67, e67, h67⟩ := hdo 50 67 rfl
          obtain rfl := h67
          refine wk_drop [(0, _), (1, _), (5, _), (67, _)] ⟨e0, e1, e5, e67, trivial⟩ ?_
          clear e0 e1 e5 e67 hini hdo
          refine wk_norm ?_
          refine wc_cond_t rfl ?_
          refine wc_seq ?_
          refine wc_region ?_
          refine wl_assign (by decide) rfl ?_
          refine wl_nil ?_
          refine wk_norm ?_
          refine wc_ret ?_
          refine wk_blk_ret ?_
          refine wk_then_ret ?_
          refine wk_then_ret ?_
          refine wk_blk_ret ?_
          refine wk_then_ret ?_
          refine wk_post1 (.inl rfl) Try.results15 rfl ?_
          refine ⟨_, rfl, bool_f (fun e => ?_), hE.trans hED⟩
          subst e
          first | exact h10 rfl | exact h22 rfl | exact h35 rfl | exact hq rfl
      ·
        by_cases h22 : (hop la k).b ≠ (hop lb k).b
        ·
          apply wc_drawL [SP.eq _, SP.eq _, SP.eq _, SP.eq _, SP.eq _, SP.eq _, SP.eq _, SP.eq _, SP.eq _, SP.eq _, SP.eq (.bool false), SP.eq (.bool false), SP.eq _, SP.eq _, SP.eq _, SP.eq _, SP.eq _, SP.eq _, SP.eq _, SP.eq _, SP.eq _, SP.eq _, SP.eq (.bool true), SP.eq (.bool true), SP.eq (.bool true), SP.eq undef, SP.eq undef, SP.eq undef, SP.eq undef, SP.eq undef, SP.eq undef, SP.eq undef, SP.eq undef, SP.eq undef, SP.eq undef, SP.eq undef, SP.eq (.bool true), SP.eq (.bool true), SP.eq undef, SP.eq undef, SP.eq undef, SP.eq undef, SP.eq undef, SP.eq undef, SP.eq undef, SP.eq undef, SP.eq undef, SP.eq undef, SP.eq undef, SP.eq undef, SP.eq (.bool true)] (by kernel_rfl) (by kernel_rfl)
          · refine ⟨?_, ?_, ?_, ?_, ?_, ?_, ?_, ?_, ?_, ?_, ?_, ?_, ?_, ?_, ?_, ?_, ?_, ?_, ?_, ?_, ?_, ?_, ?_, ?_, ?_, ?_, ?_, ?_, ?_, ?_, ?_, ?_, ?_, ?_, ?_, ?_, ?_, ?_, ?_, ?_, ?_, ?_, ?_, ?_, ?_, ?_, ?_, ?_, ?_, ?_, ?_, trivial⟩
            ·
              intro F wF hER hk
              have e0 := hk.init 0 _ rfl (by kernel_rfl)
              refine wl_move (by decide) e0 ?_
              exact wl_nil (qr_some ⟨Chg.refl _ _, rfl⟩)
            ·
              intro F wF hER hk
              have e5 := hk.init 5 _ rfl (by kernel_rfl)
              refine wl_move (by decide) e5 ?_
              exact wl_nil (qr_some ⟨Chg.refl _ _, rfl⟩)
            ·
              intro F wF hER hk
              obtain ⟨u17, e17, h17⟩ := hk.pred 0 (by kernel_rfl) 17 rfl
              obtain rfl := h17
              obtain ⟨u18, e18, h18⟩ := hk.pred 1 (by kernel_rfl) 18 rfl
              obtain rfl := h18
              refine wl_idx0 (by decide) Try.sl22 e17 e18 hAL k rfl (by omega) ?_
              exact wl_nil (qr_some ⟨Chg.refl _ _, rfl⟩)
            ·
              intro F wF hER hk
              obtain ⟨u19, e19, h19⟩ := hk.pred 2 (by kernel_rfl) 19 rfl
              obtain rfl := h19
              refine wl_fld (by decide) Try.fld45_0 e19 ?_
              exact wl_nil (qr_some ⟨Chg.refl _ _, rfl⟩)
            ·
              intro F wF hER hk
              obtain ⟨u20, e20, h20⟩ := hk.pred 3 (by kernel_rfl) 20 rfl
              obtain rfl := h20
              refine wl_load (by decide) Try.sc4 e20 ((hatL.ext hER).get rfl) ?_
              exact wl_nil (qr_some ⟨Chg.refl _ _, rfl⟩)
            ·
              intro F wF hER hk
              have e1 := hk.init 1 _ rfl (by kernel_rfl)
              refine wl_move (by decide) e1 ?_
              exact wl_nil (qr_some ⟨Chg.refl _ _, rfl⟩)
            ·
              intro F wF hER hk
              have e5 := hk.init 5 _ rfl (by kernel_rfl)
              refine wl_move (by decide) e5 ?_
              exact wl_nil (qr_some ⟨Chg.refl _ _, rfl⟩)
            ·
              intro F wF hER hk
              obtain ⟨u22, e22, h22⟩ := hk.pred 5 (by kernel_rfl) 22 rfl
              obtain rfl := h22
              obtain ⟨u23, e23, h23⟩ := hk.pred 6 (by kernel_rfl) 23 rfl
              obtain rfl := h23
              refine wl_idx0 (by decide) Try.sl22 e22 e23 hAR k rfl (by omega) ?_
              exact wl_nil (qr_some ⟨Chg.refl _ _, rfl⟩)
            ·
              intro F wF hER hk
              obtain ⟨u24, e24, h24⟩ := hk.pred 7 (by kernel_rfl) 24 rfl
              obtain rfl := h24
              refine wl_fld (by decide) Try.fld45_0 e24 ?_
              exact wl_nil (qr_some ⟨Chg.refl _ _, rfl⟩)
            ·
              intro F wF hER hk
              obtain ⟨u25, e25, h25⟩ := hk.pred 8 (by kernel_rfl) 25 rfl
              obtain rfl := h25
              refine wl_load (by decide) Try.sc4 e25 ((hatR.ext hER).get rfl) ?_
              exact wl_nil (qr_some ⟨Chg.refl _ _, rfl⟩)
            ·
              intro F wF hER hk
              obtain ⟨u21, e21, h21⟩ := hk.pred 4 (by kernel_rfl) 21 rfl
              obtain rfl := h21
              obtain ⟨u26, e26, h26⟩ := hk.pred 9 (by kernel_rfl) 26 rfl
              obtain rfl := h26
              refine wl_neqb (by decide) Try.bo4 e21 e26 ?_
              refine wl_re (k := 27) (v := .bool false) rfl (congrArg Value.bool (decide_eq_false (by first | exact h10 | omega | simpa using h10))) ?_
              exact wl_nil (qr_re ⟨Chg.refl _ _, rfl⟩)
            ·
              intro F wF hER hk
              obtain ⟨u27, e27, h27⟩ := hk.pred 10 (by kernel_rfl) 27 rfl
              obtain rfl := h27
              refine wl_move (by decide) e27 ?_
              exact wl_nil (qr_some ⟨Chg.refl _ _, rfl⟩)
            ·
              intro F wF hER hk
              have e0 := hk.init 0 _ rfl (by kernel_rfl)
              obtain ⟨u28, e28, h28⟩ := hk.pred 11 (by kernel_rfl) 28 rfl
              obtain rfl := h28
              refine wl_gyes rfl e28 ?_
              refine wl_move (by decide) e0 ?_
              exact wl_nil (qr_some ⟨Chg.refl _ _, rfl⟩)
            ·
              intro F wF hER hk
              have e5 := hk.init 5 _ rfl (by kernel_rfl)
              obtain ⟨u28, e28, h28⟩ := hk.pred 11 (by kernel_rfl) 28 rfl
              obtain rfl := h28
              refine wl_gyes rfl e28 ?_
              refine wl_move (by decide) e5 ?_
              exact wl_nil (qr_some ⟨Chg.refl _ _, rfl⟩)
            ·
              intro F wF hER hk
              obtain ⟨u29, e29, h29⟩ := hk.pred 12 (by kernel_rfl) 29 rfl
              obtain rfl := h29
              obtain ⟨u30, e30, h30⟩ := hk.pred 13 (by kernel_rfl) 30 rfl
              obtain rfl := h30
              obtain ⟨u28, e28, h28⟩ := hk.pred 11 (by kernel_rfl) 28 rfl
              obtain rfl := h28
              refine wl_gyes rfl e28 ?_
              refine wl_idx0 (by decide) Try.sl22 e29 e30 hAL k rfl (by omega) ?_
              exact wl_nil (qr_some ⟨Chg.refl _ _, rfl⟩)
            ·
              intro F wF hER hk
              obtain ⟨u31, e31, h31⟩ := hk.pred 14 (by kernel_rfl) 31 rfl
              obtain rfl := h31
              obtain ⟨u28, e28, h28⟩ := hk.pred 11 (by kernel_rfl) 28 rfl
              obtain rfl := h28
              refine wl_gyes rfl e28 ?_
              refine wl_fld (by decide) Try.fld45_2 e31 ?_
              exact wl_nil (qr_some ⟨Chg.refl _ _, rfl⟩)
            ·
              intro F wF hER hk
              obtain ⟨u32, e32, h32⟩ := hk.pred 15 (by kernel_rfl) 32 rfl
              obtain rfl := h32
              obtain ⟨u28, e28, h28⟩ := hk.pred 11 (by kernel_rfl) 28 rfl
              obtain rfl := h28
              refine wl_gyes rfl e28 ?_
              refine wl_load (by decide) Try.sc3 e32 ((hatL.ext hER).get rfl) ?_
              exact wl_nil (qr_some ⟨Chg.refl _ _, rfl⟩)
            ·
              intro F wF hER hk
              have e1 := hk.init 1 _ rfl (by kernel_rfl)
              obtain ⟨u28, e28, h28⟩ := hk.pred 11 (by kernel_rfl) 28 rfl
              obtain rfl := h28
              refine wl_gyes rfl e28 ?_
              refine wl_move (by decide) e1 ?_
              exact wl_nil (qr_some ⟨Chg.refl _ _, rfl⟩)
            ·
              intro F wF hER hk
              have e5 := hk.init 5 _ rfl (by kernel_rfl)
              obtain ⟨u28, e28, h28⟩ := hk.pred 11 (by kernel_rfl) 28 rfl
              obtain rfl := h28
              refine wl_gyes rfl e28 ?_
              refine wl_move (by decide) e5 ?_
              exact wl_nil (qr_some ⟨Chg.refl _ _, rfl⟩)
            ·
              intro F wF hER hk
              obtain ⟨u34, e34, h34⟩ := hk.pred 17 (by kernel_rfl) 34 rfl
              obtain rfl := h34
              obtain ⟨u35, e35, h35⟩ := hk.pred 18 (by kernel_rfl) 35 rfl
              obtain rfl := h35
              obtain ⟨u28, e28, h28⟩ := hk.pred 11 (by kernel_rfl) 28 rfl
              obtain rfl := h28
              refine wl_gyes rfl e28 ?_
              refine wl_idx0 (by decide) Try.sl22 e34 e35 hAR k rfl (by omega) ?_
              exact wl_nil (qr_some ⟨Chg.refl _ _, rfl⟩)
            ·
              intro F wF hER hk
              obtain ⟨u36, e36, h36⟩ := hk.pred 19 (by kernel_rfl) 36 rfl
              obtain rfl := h36
              obtain ⟨u28, e28, h28⟩ := hk.pred 11 (by kernel_rfl) 28 rfl
              obtain rfl := h28
              refine wl_gyes rfl e28 ?_
              refine wl_fld (by decide) Try.fld45_2 e36 ?_
              exact wl_nil (qr_some ⟨Chg.refl _ _, rfl⟩)
            ·
              intro F wF hER hk
              obtain ⟨u37, e37, h37⟩ := hk.pred 20 (by kernel_rfl) 37 rfl
              obtain rfl := h37
              obtain ⟨u28, e28, h28⟩ := hk.pred 11 (by kernel_rfl) 28 rfl
              obtain rfl := h28
              refine wl_gyes rfl e28 ?_
              refine wl_load (by decide) Try.sc3 e37 ((hatR.ext hER).get rfl) ?_
              exact wl_nil (qr_some ⟨Chg.refl _ _, rfl⟩)
            ·
              intro F wF hER hk
              obtain ⟨u33, e33, h33⟩ := hk.pred 16 (by kernel_rfl) 33 rfl
              obtain rfl := h33
              obtain ⟨u38, e38, h38⟩ := hk.pred 21 (by kernel_rfl) 38 rfl
              obtain rfl := h38
              obtain ⟨u28, e28, h28⟩ := hk.pred 11 (by kernel_rfl) 28 rfl
              obtain rfl := h28
              refine wl_gyes rfl e28 ?_
              refine wl_neq (by decide) e33 e38 ?_
              refine wl_re (k := 39) (v := .bool true) rfl (congrArg Value.bool (decide_eq_true (by first | exact h22 | omega | simpa using h22))) ?_
              exact wl_nil (qr_re ⟨Chg.refl _ _, rfl⟩)
            ·
              intro F wF hER hk
              obtain ⟨u28, e28, h28⟩ := hk.pred 11 (by kernel_rfl) 28 rfl
              obtain rfl := h28
              obtain ⟨u39, e39, h39⟩ := hk.pred 22 (by kernel_rfl) 39 rfl
              obtain rfl := h39
              refine wl_pick (by decide) e28 e39 ?_
              exact wl_nil (qr_some ⟨Chg.refl _ _, rfl⟩)
            ·
              intro F wF hER hk
              obtain ⟨u40, e40, h40⟩ := hk.pred 23 (by kernel_rfl) 40 rfl
              obtain rfl := h40
              refine wl_move (by decide) e40 ?_
              exact wl_nil (qr_some ⟨Chg.refl _ _, rfl⟩)
            ·
              intro F wF hER hk
              obtain ⟨u41, e41, h41⟩ := hk.pred 24 (by kernel_rfl) 41 rfl
              obtain rfl := h41
              refine wl_gno (by decide) rfl e41 (.inl rfl) ?_
              exact wl_nil (qr_some ⟨Chg.refl _ _, rfl⟩)
            ·
              intro F wF hER hk
              obtain ⟨u41, e41, h41⟩ := hk.pred 24 (by kernel_rfl) 41 rfl
              obtain rfl := h41
              refine wl_gno (by decide) rfl e41 (.inl rfl) ?_
              exact wl_nil (qr_some ⟨Chg.refl _ _, rfl⟩)
            ·
              intro F wF hER hk
              obtain ⟨u41, e41, h41⟩ := hk.pred 24 (by kernel_rfl) 41 rfl
              obtain rfl := h41
              refine wl_gno (by decide) rfl e41 (.inl rfl) ?_
              exact wl_nil (qr_some ⟨Chg.refl _ _, rfl⟩)
            ·
              intro F wF hER hk
              obtain ⟨u41, e41, h41⟩ := hk.pred 24 (by kernel_rfl) 41 rfl
              obtain rfl := h41
              refine wl_gno (by decide) rfl e41 (.inl rfl) ?_
              exact wl_nil (qr_some ⟨Chg.refl _ _, rfl⟩)
            ·
              intro F wF hER hk
              obtain ⟨u41, e41, h41⟩ := hk.pred 24 (by kernel_rfl) 41 rfl
              obtain rfl := h41
              refine wl_gno (by decide) rfl e41 (.inl rfl) ?_
              exact wl_nil (qr_some ⟨Chg.refl _ _, rfl⟩)
            ·
              intro F wF hER hk
              obtain ⟨u41, e41, h41⟩ := hk.pred 24 (by kernel_rfl) 41 rfl
              obtain rfl := h41
              refine wl_gno (by decide) rfl e41 (.inl rfl) ?_
              exact wl_nil (qr_some ⟨Chg.refl _ _, rfl⟩)
            ·
              intro F wF hER hk
              obtain ⟨u41, e41, h41⟩ := hk.pred 24 (by kernel_rfl) 41 rfl
              obtain rfl := h41
              refine wl_gno (by decide) rfl e41 (.inl rfl) ?_
              exact wl_nil (qr_some ⟨Chg.refl _ _, rfl⟩)
            ·
              intro F wF hER hk
              obtain ⟨u41, e41, h41⟩ := hk.pred 24 (by kernel_rfl) 41 rfl
              obtain rfl := h41
              refine wl_gno (by decide) rfl e41 (.inl rfl) ?_
              exact wl_nil (qr_some ⟨Chg.refl _ _, rfl⟩)
            ·
              intro F wF hER hk
              obtain ⟨u41, e41, h41⟩ := hk.pred 24 (by kernel_rfl) 41 rfl
              obtain rfl := h41
              refine wl_gno (by decide) rfl e41 (.inl rfl) ?_
              exact wl_nil (qr_some ⟨Chg.refl _ _, rfl⟩)
            ·
              intro F wF hER hk
              obtain ⟨u41, e41, h41⟩ := hk.pred 24 (by kernel_rfl) 41 rfl
              obtain rfl := h41
              refine wl_gno (by decide) rfl e41 (.inl rfl) ?_
              exact wl_nil (qr_some ⟨Chg.refl _ _, rfl⟩)
            ·
              intro F wF hER hk
              obtain ⟨u41, e41, h41⟩ := hk.pred 24 (by kernel_rfl) 41 rfl
              obtain rfl := h41
              refine wl_gno (by decide) rfl e41 (.inl rfl) ?_
              exact wl_nil (qr_some ⟨Chg.refl _ _, rfl⟩)
            ·
              intro F wF hER hk
              obtain ⟨u41, e41, h41⟩ := hk.pred 24 (by kernel_rfl) 41 rfl
              obtain rfl := h41
              obtain ⟨u52, e52, h52⟩ := hk.pred 35 (by kernel_rfl) 52 rfl
              obtain rfl := h52
              refine wl_pick (by decide) e41 rfl ?_
              exact wl_nil (qr_some ⟨Chg.refl _ _, rfl⟩)
            ·
              intro F wF hER hk
              obtain ⟨u53, e53, h53⟩ := hk.pred 36 (by kernel_rfl) 53 rfl
              obtain rfl := h53
              refine wl_move (by decide) e53 ?_
              exact wl_nil (qr_some ⟨Chg.refl _ _, rfl⟩)
            ·
              intro F wF hER hk
              obtain ⟨u54, e54, h54⟩ := hk.pred 37 (by kernel_rfl) 54 rfl
              obtain rfl := h54
              refine wl_gno (by decide) rfl e54 (.inl rfl) ?_
              exact wl_nil (qr_some ⟨Chg.refl _ _, rfl⟩)
            ·
              intro F wF hER hk
              obtain ⟨u54, e54, h54⟩ := hk.pred 37 (by kernel_rfl) 54 rfl
              obtain rfl := h54
              refine wl_gno (by decide) rfl e54 (.inl rfl) ?_
              exact wl_nil (qr_some ⟨Chg.refl _ _, rfl⟩)
            ·
              intro F wF hER hk
              obtain ⟨u54, e54, h54⟩ := hk.pred 37 (by kernel_rfl) 54 rfl
              obtain rfl := h54
              refine wl_gno (by decide) rfl e54 (.inl rfl) ?_
              exact wl_nil (qr_some ⟨Chg.refl _ _, rfl⟩)
            ·
              intro F wF hER hk
              obtain ⟨u54, e54, h54⟩ := hk.pred 37 (by kernel_rfl) 54 rfl
              obtain rfl := h54
              refine wl_gno (by decide) rfl e54 (.inl rfl) ?_
              exact wl_nil (qr_some ⟨Chg.refl _ _, rfl⟩)
            ·
              intro F wF hER hk
              obtain ⟨u54, e54, h54⟩ := hk.pred 37 (by kernel_rfl) 54 rfl
              obtain rfl := h54
              refine wl_gno (by decide) rfl e54 (.inl rfl) ?_
              exact wl_nil (qr_some ⟨Chg.refl _ _, rfl⟩)
            ·
              intro F wF hER hk
              obtain ⟨u54, e54, h54⟩ := hk.pred 37 (by kernel_rfl) 54 rfl
              obtain rfl := h54
              refine wl_gno (by decide) rfl e54 (.inl rfl) ?_
              exact wl_nil (qr_some ⟨Chg.refl _ _, rfl⟩)
            ·
              intro F wF hER hk
              obtain ⟨u54, e54, h54⟩ := hk.pred 37 (by kernel_rfl) 54 rfl
              obtain rfl := h54
              refine wl_gno (by decide) rfl e54 (.inl rfl) ?_
              exact wl_nil (qr_some ⟨Chg.refl _ _, rfl⟩)
            ·
              intro F wF hER hk
              obtain ⟨u54, e54, h54⟩ := hk.pred 37 (by kernel_rfl) 54 rfl
              obtain rfl := h54
              refine wl_gno (by decide) rfl e54 (.inl rfl) ?_
              exact wl_nil (qr_some ⟨Chg.refl _ _, rfl⟩)
            ·
              intro F wF hER hk
              obtain ⟨u54, e54, h54⟩ := hk.pred 37 (by kernel_rfl) 54 rfl
              obtain rfl := h54
              refine wl_gno (by decide) rfl e54 (.inl rfl) ?_
              exact wl_nil (qr_some ⟨Chg.refl _ _, rfl⟩)
            ·
              intro F wF hER hk
              obtain ⟨u54, e54, h54⟩ := hk.pred 37 (by kernel_rfl) 54 rfl
              obtain rfl := h54
              refine wl_gno (by decide) rfl e54 (.inl rfl) ?_
              exact wl_nil (qr_some ⟨Chg.refl _ _, rfl⟩)
            ·
              intro F wF hER hk
              obtain ⟨u54, e54, h54⟩ := hk.pred 37 (by kernel_rfl) 54 rfl
              obtain rfl := h54
              refine wl_gno (by decide) rfl e54 (.inl rfl) ?_
              exact wl_nil (qr_some ⟨Chg.refl _ _, rfl⟩)
            ·
              intro F wF hER hk
              obtain ⟨u54, e54, h54⟩ := hk.pred 37 (by kernel_rfl) 54 rfl
              obtain rfl := h54
              refine wl_gno (by decide) rfl e54 (.inl rfl) ?_
              exact wl_nil (qr_some ⟨Chg.refl _ _, rfl⟩)
            ·
              intro F wF hER hk
              obtain ⟨u54, e54, h54⟩ := hk.pred 37 (by kernel_rfl) 54 rfl
              obtain rfl := h54
              obtain ⟨u66, e66, h66⟩ := hk.pred 49 (by kernel_rfl) 66 rfl
              obtain rfl := h66
              refine wl_pick (by decide) e54 rfl ?_
              exact wl_nil (qr_some ⟨Chg.refl _ _, rfl⟩)
          ·
            intro F wD hED hini hdo
            have e0 := hini 0 _ rfl (by kernel_rfl)
            have e1 := hini 1 _ rfl (by kernel_rfl)
            have e5 := hini 5 _ rfl (by kernel_rfl)
            obtain ⟨u67, e67, h67⟩ := hdo 50 67 rfl
            obtain rfl := h67
            refine wk_drop [(0, _), (1, _), (5, _), (67, _)] ⟨e0, e1, e5, e67, trivial⟩ ?_
            clear e0 e1 e5 e67 hini hdo
            refine wk_norm ?_
            refine wc_cond_t rfl ?_
            refine wc_seq ?_
            refine wc_region ?_
            refine wl_assign (by decide) rfl ?_
            refine wl_nil ?_
            refine wk_norm ?_
            refine wc_ret ?_
            refine wk_blk_ret ?_
            refine wk_then_ret ?_
            refine wk_then_ret ?_
            refine wk_blk_ret ?_
            refine wk_then_ret ?_
            refine wk_post1 (.inl rfl) Try.results15 rfl ?_
            refine ⟨_, rfl, bool_f (fun e => ?_), hE.trans hED⟩
            subst e
            first | exact h10 rfl | exact h22 rfl | exact h35 rfl | exact hq rfl
        ·
          by_cases h35 : (hop la k).e ≠ (hop lb k).e
          ·
            apply wc_drawL [SP.eq _, SP.eq _, SP.eq _, SP.eq _, SP.eq _, SP.eq _, SP.eq _, SP.eq _, SP.eq _, SP.eq _, SP.eq (.bool false), SP.eq (.bool false), SP.eq _, SP.eq _, SP.eq _, SP.eq _, SP.eq _, SP.eq _, SP.eq _, SP.eq _, SP.eq _, SP.eq _, SP.eq (.bool false), SP.eq (.bool false), SP.eq (.bool false), SP.eq _, SP.eq _, SP.eq _, SP.eq _, SP.eq _, SP.eq _, SP.eq _, SP.eq _, SP.eq _, SP.eq _, SP.eq (.bool true), SP.eq (.bool true), SP.eq (.bool true), SP.eq undef, SP.eq undef, SP.eq undef, SP.eq undef, SP.eq undef, SP.eq undef, SP.eq undef, SP.eq undef, SP.eq undef, SP.eq undef, SP.eq undef, SP.eq undef, SP.eq (.bool true)] (by kernel_rfl) (by kernel_rfl)
            · refine ⟨?_, ?_, ?_, ?_, ?_, ?_, ?_, ?_, ?_, ?_, ?_, ?_, ?_, ?_, ?_, ?_, ?_, ?_, ?_, ?_, ?_, ?_, ?_, ?_, ?_, ?_, ?_, ?_, ?_, ?_, ?_, ?_, ?_, ?_, ?_, ?_, ?_, ?_, ?_, ?_, ?_, ?_, ?_, ?_, ?_, ?_, ?_, ?_, ?_, ?_, ?_, trivial⟩
              ·
                intro F wF hER hk
                have e0 := hk.init 0 _ rfl (by kernel_rfl)
                refine wl_move (by decide) e0 ?_
                exact wl_nil (qr_some ⟨Chg.refl _ _, rfl⟩)
              ·
                intro F wF hER hk
                have e5 := hk.init 5 _ rfl (by kernel_rfl)
                refine wl_move (by decide) e5 ?_
                exact wl_nil (qr_some ⟨Chg.refl _ _, rfl⟩)
              ·
                intro F wF hER hk
                obtain ⟨u17, e17, h17⟩ := hk.pred 0 (by kernel_rfl) 17 rfl
                obtain rfl := h17
                obtain ⟨u18, e18, h18⟩ := hk.pred 1 (by kernel_rfl) 18 rfl
                obtain rfl := h18
                refine wl_idx0 (by decide) Try.sl22 e17 e18 hAL k rfl (by omega) ?_
                exact wl_nil (qr_some ⟨Chg.refl _ _, rfl⟩)
              ·
                intro F wF hER hk
                obtain ⟨u19, e19, h19⟩ := hk.pred 2 (by kernel_rfl) 19 rfl
                obtain rfl := h19
                refine wl_fld (by decide) Try.fld45_0 e19 ?_
                exact wl_nil (qr_some ⟨Chg.refl _ _, rfl⟩)
              ·
                intro F wF hER hk
                obtain ⟨u20, e20, h20⟩ := hk.pred 3 (by kernel_rfl) 20 rfl
                obtain rfl := h20
                refine wl_load (by decide) Try.sc4 e20 ((hatL.ext hER).get rfl) ?_
                exact wl_nil (qr_some ⟨Chg.refl _ _, rfl⟩)
              ·
                intro F wF hER hk
                have e1 := hk.init 1 _ rfl (by kernel_rfl)
                refine wl_move (by decide) e1 ?_
                exact wl_nil (qr_some ⟨Chg.refl _ _, rfl⟩)
              ·
                intro F wF hER hk
                have e5 := hk.init 5 _ rfl (by kernel_rfl)
                refine wl_move (by decide) e5 ?_
                exact wl_nil (qr_some ⟨Chg.refl _ _, rfl⟩)
              ·
                intro F wF hER hk
                obtain ⟨u22, e22, h22⟩ := hk.pred 5 (by kernel_rfl) 22 rfl
                obtain rfl := h22
                obtain ⟨u23, e23, h23⟩ := hk.pred 6 (by kernel_rfl) 23 rfl
                obtain rfl := h23
                refine wl_idx0 (by decide) Try.sl22 e22 e23 hAR k rfl (by omega) ?_
                exact wl_nil (qr_some ⟨Chg.refl _ _, rfl⟩)
              ·
                intro F wF hER hk
                obtain ⟨u24, e24, h24⟩ := hk.pred 7 (by kernel_rfl) 24 rfl
                obtain rfl := h24
                refine wl_fld (by decide) Try.fld45_0 e24 ?_
                exact wl_nil (qr_some ⟨Chg.refl _ _, rfl⟩)
              ·
                intro F wF hER hk
                obtain ⟨u25, e25, h25⟩ := hk.pred 8 (by kernel_rfl) 25 rfl
                obtain rfl := h25
                refine wl_load (by decide) Try.sc4 e25 ((hatR.ext hER).get rfl) ?_
                exact wl_nil (qr_some ⟨Chg.refl _ _, rfl⟩)
              ·
                intro F wF hER hk
                obtain ⟨u21, e21, h21⟩ := hk.pred 4 (by kernel_rfl) 21 rfl
                obtain rfl := h21
                obtain ⟨u26, e26, h26⟩ := hk.pred 9 (by kernel_rfl) 26 rfl
                obtain rfl := h26
                refine wl_neqb (by decide) Try.bo4 e21 e26 ?_
                refine wl_re (k := 27) (v := .bool false) rfl (congrArg Value.bool (decide_eq_false (by first | exact h10 | omega | simpa using h10))) ?_
                exact wl_nil (qr_re ⟨Chg.refl _ _, rfl⟩)
              ·
                intro F wF hER hk
                obtain ⟨u27, e27, h27⟩ := hk.pred 10 (by kernel_rfl) 27 rfl
                obtain rfl := h27
                refine wl_move (by decide) e27 ?_
                exact wl_nil (qr_some ⟨Chg.refl _ _, rfl⟩)
              ·
                intro F wF hER hk
                have e0 := hk.init 0 _ rfl (by kernel_rfl)
                obtain ⟨u28, e28, h28⟩ := hk.pred 11 (by kernel_rfl) 28 rfl
                obtain rfl := h28
                refine wl_gyes rfl e28 ?_
                refine wl_move (by decide) e0 ?_
                exact wl_nil (qr_some ⟨Chg.refl _ _, rfl⟩)
              ·
                intro F wF hER hk
                have e5 := hk.init 5 _ rfl (by kernel_rfl)
                obtain ⟨u28, e28, h28⟩ := hk.pred 11 (by kernel_rfl) 28 rfl
                obtain rfl := h28
                refine wl_gyes rfl e28 ?_
                refine wl_move (by decide) e5 ?_
                exact wl_nil (qr_some ⟨Chg.refl _ _, rfl⟩)
              ·
                intro F wF hER hk
                obtain ⟨u29, e29, h29⟩ := hk.pred 12 (by kernel_rfl) 29 rfl
                obtain rfl := h29
                obtain ⟨u30, e30, h30⟩ := hk.pred 13 (by kernel_rfl) 30 rfl
                obtain rfl := h30
                obtain ⟨u28, e28, h28⟩ := hk.pred 11 (by kernel_rfl) 28 rfl
                obtain rfl := h28
                refine wl_gyes rfl e28 ?_
                refine wl_idx0 (by decide) Try.sl22 e29 e30 hAL k rfl (by omega) ?_
                exact wl_nil (qr_some ⟨Chg.refl _ _, rfl⟩)
              ·
                intro F wF hER hk
                obtain ⟨u31, e31, h31⟩ := hk.pred 14 (by kernel_rfl) 31 rfl
                obtain rfl := h31
                obtain ⟨u28, e28, h28⟩ := hk.pred 11 (by kernel_rfl) 28 rfl
                obtain rfl := h28
                refine wl_gyes rfl e28 ?_
                refine wl_fld (by decide) Try.fld45_2 e31 ?_
                exact wl_nil (qr_some ⟨Chg.refl _ _, rfl⟩)
              ·
                intro F wF hER hk
                obtain ⟨u32, e32, h32⟩ := hk.pred 15 (by kernel_rfl) 32 rfl
                obtain rfl := h32
                obtain ⟨u28, e28, h28⟩ := hk.pred 11 (by kernel_rfl) 28 rfl
                obtain rfl := h28
                refine wl_gyes rfl e28 ?_
                refine wl_load (by decide) Try.sc3 e32 ((hatL.ext hER).get rfl) ?_
                exact wl_nil (qr_some ⟨Chg.refl _ _, rfl⟩)
              ·
                intro F wF hER hk
                have e1 := hk.init 1 _ rfl (by kernel_rfl)
                obtain ⟨u28, e28, h28⟩ := hk.pred 11 (by kernel_rfl) 28 rfl
                obtain rfl := h28
                refine wl_gyes rfl e28 ?_
                refine wl_move (by decide) e1 ?_
                exact wl_nil (qr_some ⟨Chg.refl _ _, rfl⟩)
              ·
                intro F wF hER hk
                have e5 := hk.init 5 _ rfl (by kernel_rfl)
                obtain ⟨u28, e28, h28⟩ := hk.pred 11 (by kernel_rfl) 28 rfl
                obtain rfl := h28
                refine wl_gyes rfl e28 ?_
                refine wl_move (by decide) e5 ?_
                exact wl_nil (qr_some ⟨Chg.refl _ _, rfl⟩)
              ·
                intro F wF hER hk
                obtain ⟨u34, e34, h34⟩ := hk.pred 17 (by kernel_rfl) 34 rfl
                obtain rfl := h34
                obtain ⟨u35, e35, h35⟩ := hk.pred 18 (by kernel_rfl) 35 rfl
                obtain rfl := h35
                obtain ⟨u28, e28, h28⟩ := hk.pred 11 (by kernel_rfl) 28 rfl
                obtain rfl := h28
                refine wl_gyes rfl e28 ?_
                refine wl_idx0 (by decide) Try.sl22 e34 e35 hAR k rfl (by omega) ?_
                exact wl_nil (qr_some ⟨Chg.refl _ _, rfl⟩)
              ·
                intro F wF hER hk
                obtain ⟨u36, e36, h36⟩ := hk.pred 19 (by kernel_rfl) 36 rfl
                obtain rfl := h36
                obtain ⟨u28, e28, h28⟩ := hk.pred 11 (by kernel_rfl) 28 rfl
                obtain rfl := h28
                refine wl_gyes rfl e28 ?_
                refine wl_fld (by decide) Try.fld45_2 e36 ?_
                exact wl_nil (qr_some ⟨Chg.refl _ _, rfl⟩)
              ·
                intro F wF hER hk
                obtain ⟨u37, e37, h37⟩ := hk.pred 20 (by kernel_rfl) 37 rfl
                obtain rfl := h37
                obtain ⟨u28, e28, h28⟩ := hk.pred 11 (by kernel_rfl) 28 rfl
                obtain rfl := h28
                refine wl_gyes rfl e28 ?_
                refine wl_load (by decide) Try.sc3 e37 ((hatR.ext hER).get rfl) ?_
                exact wl_nil (qr_some ⟨Chg.refl _ _, rfl⟩)
              ·
                intro F wF hER hk
                obtain ⟨u33, e33, h33⟩ := hk.pred 16 (by kernel_rfl) 33 rfl
                obtain rfl := h33
                obtain ⟨u38, e38, h38⟩ := hk.pred 21 (by kernel_rfl) 38 rfl
                obtain rfl := h38
                obtain ⟨u28, e28, h28⟩ := hk.pred 11 (by kernel_rfl) 28 rfl
                obtain rfl := h28
                refine wl_gyes rfl e28 ?_
                refine wl_neq (by decide) e33 e38 ?_
                refine wl_re (k := 39) (v := .bool false) rfl (congrArg Value.bool (decide_eq_false (by first | exact h22 | omega | simpa using h22))) ?_
                exact wl_nil (qr_re ⟨Chg.refl _ _, rfl⟩)
              ·
                intro F wF hER hk
                obtain ⟨u28, e28, h28⟩ := hk.pred 11 (by kernel_rfl) 28 rfl
                obtain rfl := h28
                obtain ⟨u39, e39, h39⟩ := hk.pred 22 (by kernel_rfl) 39 rfl
                obtain rfl := h39
                refine wl_pick (by decide) e28 e39 ?_
                exact wl_nil (qr_some ⟨Chg.refl _ _, rfl⟩)
              ·
                intro F wF hER hk
                obtain ⟨u40, e40, h40⟩ := hk.pred 23 (by kernel_rfl) 40 rfl
                obtain rfl := h40
                refine wl_move (by decide) e40 ?_
                exact wl_nil (qr_some ⟨Chg.refl _ _, rfl⟩)
              ·
                intro F wF hER hk
                have e0 := hk.init 0 _ rfl (by kernel_rfl)
                obtain ⟨u41, e41, h41⟩ := hk.pred 24 (by kernel_rfl) 41 rfl
                obtain rfl := h41
                refine wl_gyes rfl e41 ?_
                refine wl_move (by decide) e0 ?_
                exact wl_nil (qr_some ⟨Chg.refl _ _, rfl⟩)
              ·
                intro F wF hER hk
                have e5 := hk.init 5 _ rfl (by kernel_rfl)
                obtain ⟨u41, e41, h41⟩ := hk.pred 24 (by kernel_rfl) 41 rfl
                obtain rfl := h41
                refine wl_gyes rfl e41 ?_
                refine wl_move (by decide) e5 ?_
                exact wl_nil (qr_some ⟨Chg.refl _ _, rfl⟩)
              ·
                intro F wF hER hk
                obtain ⟨u42, e42, h42⟩ := hk.pred 25 (by kernel_rfl) 42 rfl
                obtain rfl := h42
                obtain ⟨u43, e43, h43⟩ := hk.pred 26 (by kernel_rfl) 43 rfl
                obtain rfl := h43
                obtain ⟨u41, e41, h41⟩ := hk.pred 24 (by kernel_rfl) 41 rfl
                obtain rfl := h41
                refine wl_gyes rfl e41 ?_
                refine wl_idx0 (by decide) Try.sl22 e42 e43 hAL k rfl (by omega) ?_
                exact wl_nil (qr_some ⟨Chg.refl _ _, rfl⟩)
              ·
                intro F wF hER hk
                obtain ⟨u44, e44, h44⟩ := hk.pred 27 (by kernel_rfl) 44 rfl
                obtain rfl := h44
                obtain ⟨u41, e41, h41⟩ := hk.pred 24 (by kernel_rfl) 41 rfl
                obtain rfl := h41
                refine wl_gyes rfl e41 ?_
                refine wl_fld (by decide) Try.fld45_3 e44 ?_
                exact wl_nil (qr_some ⟨Chg.refl _ _, rfl⟩)
              ·
                intro F wF hER hk
                obtain ⟨u45, e45, h45⟩ := hk.pred 28 (by kernel_rfl) 45 rfl
                obtain rfl := h45
                obtain ⟨u41, e41, h41⟩ := hk.pred 24 (by kernel_rfl) 41 rfl
                obtain rfl := h41
                refine wl_gyes rfl e41 ?_
                refine wl_load (by decide) Try.sc3 e45 ((hatL.ext hER).get rfl) ?_
                exact wl_nil (qr_some ⟨Chg.refl _ _, rfl⟩)
              ·
                intro F wF hER hk
                have e1 := hk.init 1 _ rfl (by kernel_rfl)
                obtain ⟨u41, e41, h41⟩ := hk.pred 24 (by kernel_rfl) 41 rfl
                obtain rfl := h41
                refine wl_gyes rfl e41 ?_
                refine wl_move (by decide) e1 ?_
                exact wl_nil (qr_some ⟨Chg.refl _ _, rfl⟩)
              ·
                intro F wF hER hk
                have e5 := hk.init 5 _ rfl (by kernel_rfl)
                obtain ⟨u41, e41, h41⟩ := hk.pred 24 (by kernel_rfl) 41 rfl
                obtain rfl := h41
                refine wl_gyes rfl e41 ?_
                refine wl_move (by decide) e5 ?_
                exact wl_nil (qr_some ⟨Chg.refl _ _, rfl⟩)
              ·
                intro F wF hER hk
                obtain ⟨u47, e47, h47⟩ := hk.pred 30 (by kernel_rfl) 47 rfl
                obtain rfl := h47
                obtain ⟨u48, e48, h48⟩ := hk.pred 31 (by kernel_rfl) 48 rfl
                obtain rfl := h48
                obtain ⟨u41, e41, h41⟩ := hk.pred 24 (by kernel_rfl) 41 rfl
                obtain rfl := h41
                refine wl_gyes rfl e41 ?_
                refine wl_idx0 (by decide) Try.sl22 e47 e48 hAR k rfl (by omega) ?_
                exact wl_nil (qr_some ⟨Chg.refl _ _, rfl⟩)
              ·
                intro F wF hER hk
                obtain ⟨u49, e49, h49⟩ := hk.pred 32 (by kernel_rfl) 49 rfl
                obtain rfl := h49
                obtain ⟨u41, e41, h41⟩ := hk.pred 24 (by kernel_rfl) 41 rfl
                obtain rfl := h41
                refine wl_gyes rfl e41 ?_
                refine wl_fld (by decide) Try.fld45_3 e49 ?_
                exact wl_nil (qr_some ⟨Chg.refl _ _, rfl⟩)
              ·
                intro F wF hER hk
                obtain ⟨u50, e50, h50⟩ := hk.pred 33 (by kernel_rfl) 50 rfl
                obtain rfl := h50
                obtain ⟨u41, e41, h41⟩ := hk.pred 24 (by kernel_rfl) 41 rfl
                obtain rfl := h41
                refine wl_gyes rfl e41 ?_
                refine wl_load (by decide) Try.sc3 e50 ((hatR.ext hER).get rfl) ?_
                exact wl_nil (qr_some ⟨Chg.refl _ _, rfl⟩)
              ·
                intro F wF hER hk
                obtain ⟨u46, e46, h46⟩ := hk.pred 29 (by kernel_rfl) 46 rfl
                obtain rfl := h46
                obtain ⟨u51, e51, h51⟩ := hk.pred 34 (by kernel_rfl) 51 rfl
                obtain rfl := h51
                obtain ⟨u41, e41, h41⟩ := hk.pred 24 (by kernel_rfl) 41 rfl
                obtain rfl := h41
                refine wl_gyes rfl e41 ?_
                refine wl_neq (by decide) e46 e51 ?_
                refine wl_re (k := 52) (v := .bool true) rfl (congrArg Value.bool (decide_eq_true (by first | exact h35 | omega | simpa using h35))) ?_
                exact wl_nil (qr_re ⟨Chg.refl _ _, rfl⟩)
              ·
                intro F wF hER hk
                obtain ⟨u41, e41, h41⟩ := hk.pred 24 (by kernel_rfl) 41 rfl
                obtain rfl := h41
                obtain ⟨u52, e52, h52⟩ := hk.pred 35 (by kernel_rfl) 52 rfl
                obtain rfl := h52
                refine wl_pick (by decide) e41 e52 ?_
                exact wl_nil (qr_some ⟨Chg.refl _ _, rfl⟩)
              ·
                intro F wF hER hk
                obtain ⟨u53, e53, h53⟩ := hk.pred 36 (by kernel_rfl) 53 rfl
                obtain rfl := h53
                refine wl_move (by decide) e53 ?_
                exact wl_nil (qr_some ⟨Chg.refl _ _, rfl⟩)
              ·
                intro F wF hER hk
                obtain ⟨u54, e54, h54⟩ := hk.pred 37 (by kernel_rfl) 54 rfl
                obtain rfl := h54
                refine wl_gno (by decide) rfl e54 (.inl rfl) ?_
                exact wl_nil (qr_some ⟨Chg.refl _ _, rfl⟩)
              ·
                intro F wF hER hk
                obtain ⟨u54, e54, h54⟩ := hk.pred 37 (by kernel_rfl) 54 rfl
                obtain rfl := h54
                refine wl_gno (by decide) rfl e54 (.inl rfl) ?_
                exact wl_nil (qr_some ⟨Chg.refl _ _, rfl⟩)
              ·
                intro F wF hER hk
                obtain ⟨u54, e54, h54⟩ := hk.pred 37 (by kernel_rfl) 54 rfl
                obtain rfl := h54
                refine wl_gno (by decide) rfl e54 (.inl rfl) ?_
                exact wl_nil (qr_some ⟨Chg.refl _ _, rfl⟩)
              ·
                intro F wF hER hk
                obtain ⟨u54, e54, h54⟩ := hk.pred 37 (by kernel_rfl) 54 rfl
                obtain rfl := h54
                refine wl_gno (by decide) rfl e54 (.inl rfl) ?_
                exact wl_nil (qr_some ⟨Chg.refl _ _, rfl⟩)
              ·
                intro F wF hER hk
                obtain ⟨u54, e54, h54⟩ := hk.pred 37 (by kernel_rfl) 54 rfl
                obtain rfl := h54
                refine wl_gno (by decide) rfl e54 (.inl rfl) ?_
                exact wl_nil (qr_some ⟨Chg.refl _ _, rfl⟩)
              ·
                intro F wF hER hk
                obtain ⟨u54, e54, h54⟩ := hk.pred 37 (by kernel_rfl) 54 rfl
                obtain rfl := h54
                refine wl_gno (by decide) rfl e54 (.inl rfl) ?_
                exact wl_nil (qr_some ⟨Chg.refl _ _, rfl⟩)
              ·
                intro F wF hER hk
                obtain ⟨u54, e54, h54⟩ := hk.pred 37 (by kernel_rfl) 54 rfl
                obtain rfl := h54
                refine wl_gno (by decide) rfl e54 (.inl rfl) ?_
                exact wl_nil (qr_some ⟨Chg.refl _ _, rfl⟩)
              ·
                intro F wF hER hk
                obtain ⟨u54, e54, h54⟩ := hk.pred 37 (by kernel_rfl) 54 rfl
                obtain rfl := h54
                refine wl_gno (by decide) rfl e54 (.inl rfl) ?_
                exact wl_nil (qr_some ⟨Chg.refl _ _, rfl⟩)
              ·
                intro F wF hER hk
                obtain ⟨u54, e54, h54⟩ := hk.pred 37 (by kernel_rfl) 54 rfl
                obtain rfl := h54
                refine wl_gno (by decide) rfl e54 (.inl rfl) ?_
                exact wl_nil (qr_some ⟨Chg.refl _ _, rfl⟩)
              ·
                intro F wF hER hk
                obtain ⟨u54, e54, h54⟩ := hk.pred 37 (by kernel_rfl) 54 rfl
                obtain rfl := h54
                refine wl_gno (by decide) rfl e54 (.inl rfl) ?_
                exact wl_nil (qr_some ⟨Chg.refl _ _, rfl⟩)
              ·
                intro F wF hER hk
                obtain ⟨u54, e54, h54⟩ := hk.pred 37 (by kernel_rfl) 54 rfl
                obtain rfl := h54
                refine wl_gno (by decide) rfl e54 (.inl rfl) ?_
                exact wl_nil (qr_some ⟨Chg.refl _ _, rfl⟩)
              ·
                intro F wF hER hk
                obtain ⟨u54, e54, h54⟩ := hk.pred 37 (by kernel_rfl) 54 rfl
                obtain rfl := h54
                refine wl_gno (by decide) rfl e54 (.inl rfl) ?_
                exact wl_nil (qr_some ⟨Chg.refl _ _, rfl⟩)
              ·
                intro F wF hER hk
                obtain ⟨u54, e54, h54⟩ := hk.pred 37 (by kernel_rfl) 54 rfl
                obtain rfl := h54
                obtain ⟨u66, e66, h66⟩ := hk.pred 49 (by kernel_rfl) 66 rfl
                obtain rfl := h66
                refine wl_pick (by decide) e54 rfl ?_
                exact wl_nil (qr_some ⟨Chg.refl _ _, rfl⟩)
            ·
              intro F wD hED hini hdo
              have e0 := hini 0 _ rfl (by kernel_rfl)
              have e1 := hini 1 _ rfl (by kernel_rfl)
              have e5 := hini 5 _ rfl (by kernel_rfl)
              obtain ⟨u67, e67, h67⟩ := hdo 50 67 rfl
              obtain rfl := h67
              refine wk_drop [(0, _), (1, _), (5, _), (67, _)] ⟨e0, e1, e5, e67, trivial⟩ ?_
              clear e0 e1 e5 e67 hini hdo
              refine wk_norm ?_
              refine wc_cond_t rfl ?_
              refine wc_seq ?_
              refine wc_region ?_
              refine wl_assign (by decide) rfl ?_
              refine wl_nil ?_
              refine wk_norm ?_
              refine wc_ret ?_
              refine wk_blk_ret ?_
              refine wk_then_ret ?_
              refine wk_then_ret ?_
              refine wk_blk_ret ?_
              refine wk_then_ret ?_
              refine wk_post1 (.inl rfl) Try.results15 rfl ?_
              refine ⟨_, rfl, bool_f (fun e => ?_), hE.trans hED⟩
              subst e
              first | exact h10 rfl | exact h22 rfl | exact h35 rfl | exact hq rfl
          ·
            apply wc_drawL [SP.eq _, SP.eq _, SP.eq _, SP.eq _, SP.eq _, SP.eq _, SP.eq _, SP.eq _, SP.eq _, SP.eq _, SP.eq (.bool false), SP.eq (.bool false), SP.eq _, SP.eq _, SP.eq _, SP.eq _, SP.eq _, SP.eq _, SP.eq _, SP.eq _, SP.eq _, SP.eq _, SP.eq (.bool false), SP.eq (.bool false), SP.eq (.bool false), SP.eq _, SP.eq _, SP.eq _, SP.eq _, SP.eq _, SP.eq _, SP.eq _, SP.eq _, SP.eq _, SP.eq _, SP.eq (.bool false), SP.eq (.bool false), SP.eq (.bool false), SP.eq _, SP.eq _, SP.eq _, SP.eq _, SP.eq _, SP.eq _, SP.eq _, SP.eq _, SP.eq _, SP.eq _, SP.eq _, SP.eq _, SP.eq _] (by kernel_rfl) (by kernel_rfl)
            · refine ⟨?_, ?_, ?_, ?_, ?_, ?_, ?_, ?_, ?_, ?_, ?_, ?_, ?_, ?_, ?_, ?_, ?_, ?_, ?_, ?_, ?_, ?_, ?_, ?_, ?_, ?_, ?_, ?_, ?_, ?_, ?_, ?_, ?_, ?_, ?_, ?_, ?_, ?_, ?_, ?_, ?_, ?_, ?_, ?_, ?_, ?_, ?_, ?_, ?_, ?_, ?_, trivial⟩
              ·
                intro F wF hER hk
                have e0 := hk.init 0 _ rfl (by kernel_rfl)
                refine wl_move (by decide) e0 ?_
                exact wl_nil (qr_some ⟨Chg.refl _ _, rfl⟩)
              ·
                intro F wF hER hk
                have e5 := hk.init 5 _ rfl (by kernel_rfl)
                refine wl_move (by decide) e5 ?_
                exact wl_nil (qr_some ⟨Chg.refl _ _, rfl⟩)
              ·
                intro F wF hER hk
                obtain ⟨u17, e17, h17⟩ := hk.pred 0 (by kernel_rfl) 17 rfl
                obtain rfl := h17
                obtain ⟨u18, e18, h18⟩ := hk.pred 1 (by kernel_rfl) 18 rfl
                obtain rfl := h18
                refine wl_idx0 (by decide) Try.sl22 e17 e18 hAL k rfl (by omega) ?_
                exact wl_nil (qr_some ⟨Chg.refl _ _, rfl⟩)
              ·
                intro F wF hER hk
                obtain ⟨u19, e19, h19⟩ := hk.pred 2 (by kernel_rfl) 19 rfl
                obtain rfl := h19
                refine wl_fld (by decide) Try.fld45_0 e19 ?_
                exact wl_nil (qr_some ⟨Chg.refl _ _, rfl⟩)
              ·
                intro F wF hER hk
                obtain ⟨u20, e20, h20⟩ := hk.pred 3 (by kernel_rfl) 20 rfl
                obtain rfl := h20
                refine wl_load (by decide) Try.sc4 e20 ((hatL.ext hER).get rfl) ?_
                exact wl_nil (qr_some ⟨Chg.refl _ _, rfl⟩)
              ·
                intro F wF hER hk
                have e1 := hk.init 1 _ rfl (by kernel_rfl)
                refine wl_move (by decide) e1 ?_
                exact wl_nil (qr_some ⟨Chg.refl _ _, rfl⟩)
              ·
                intro F wF hER hk
                have e5 := hk.init 5 _ rfl (by kernel_rfl)
                refine wl_move (by decide) e5 ?_
                exact wl_nil (qr_some ⟨Chg.refl _ _, rfl⟩)
              ·
                intro F wF hER hk
                obtain ⟨u22, e22, h22⟩ := hk.pred 5 (by kernel_rfl) 22 rfl
                obtain rfl := h22
                obtain ⟨u23, e23, h23⟩ := hk.pred 6 (by kernel_rfl) 23 rfl
                obtain rfl := h23
                refine wl_idx0 (by decide) Try.sl22 e22 e23 hAR k rfl (by omega) ?_
                exact wl_nil (qr_some ⟨Chg.refl _ _, rfl⟩)
              ·
                intro F wF hER hk
                obtain ⟨u24, e24, h24⟩ := hk.pred 7 (by kernel_rfl) 24 rfl
                obtain rfl := h24
                refine wl_fld (by decide) Try.fld45_0 e24 ?_
                exact wl_nil (qr_some ⟨Chg.refl _ _, rfl⟩)
              ·
                intro F wF hER hk
                obtain ⟨u25, e25, h25⟩ := hk.pred 8 (by kernel_rfl) 25 rfl
                obtain rfl := h25
                refine wl_load (by decide) Try.sc4 e25 ((hatR.ext hER).get rfl) ?_
                exact wl_nil (qr_some ⟨Chg.refl _ _, rfl⟩)
              ·
                intro F wF hER hk
                obtain ⟨u21, e21, h21⟩ := hk.pred 4 (by kernel_rfl) 21 rfl
                obtain rfl := h21
                obtain ⟨u26, e26, h26⟩ := hk.pred 9 (by kernel_rfl) 26 rfl
                obtain rfl := h26
                refine wl_neqb (by decide) Try.bo4 e21 e26 ?_
                refine wl_re (k := 27) (v := .bool false) rfl (congrArg Value.bool (decide_eq_false (by first | exact h10 | omega | simpa using h10))) ?_
                exact wl_nil (qr_re ⟨Chg.refl _ _, rfl⟩)
              ·
                intro F wF hER hk
                obtain ⟨u27, e27, h27⟩ := hk.pred 10 (by kernel_rfl) 27 rfl
                obtain rfl := h27
                refine wl_move (by decide) e27 ?_
                exact wl_nil (qr_some ⟨Chg.refl _ _, rfl⟩)
              ·
                intro F wF hER hk
                have e0 := hk.init 0 _ rfl (by kernel_rfl)
                obtain ⟨u28, e28, h28⟩ := hk.pred 11 (by kernel_rfl) 28 rfl
                obtain rfl := h28
                refine wl_gyes rfl e28 ?_
                refine wl_move (by decide) e0 ?_
                exact wl_nil (qr_some ⟨Chg.refl _ _, rfl⟩)
              ·
                intro F wF hER hk
                have e5 := hk.init 5 _ rfl (by kernel_rfl)
                obtain ⟨u28, e28, h28⟩ := hk.pred 11 (by kernel_rfl) 28 rfl
                obtain rfl := h28
                refine wl_gyes rfl e28 ?_
                refine wl_move (by decide) e5 ?_
                exact wl_nil (qr_some ⟨Chg.refl _ _, rfl⟩)
              ·
                intro F wF hER hk
                obtain ⟨u29, e29, h29⟩ := hk.pred 12 (by kernel_rfl) 29 rfl
                obtain rfl := h29
                obtain ⟨u30, e30, h30⟩ := hk.pred 13 (by kernel_rfl) 30 rfl
                obtain rfl := h30
                obtain ⟨u28, e28, h28⟩ := hk.pred 11 (by kernel_rfl) 28 rfl
                obtain rfl := h28
                refine wl_gyes rfl e28 ?_
                refine wl_idx0 (by decide) Try.sl22 e29 e30 hAL k rfl (by omega) ?_
                exact wl_nil (qr_some ⟨Chg.refl _ _, rfl⟩)
              ·
                intro F wF hER hk
                obtain ⟨u31, e31, h31⟩ := hk.pred 14 (by kernel_rfl) 31 rfl
                obtain rfl := h31
                obtain ⟨u28, e28, h28⟩ := hk.pred 11 (by kernel_rfl) 28 rfl
                obtain rfl := h28
                refine wl_gyes rfl e28 ?_
                refine wl_fld (by decide) Try.fld45_2 e31 ?_
                exact wl_nil (qr_some ⟨Chg.refl _ _, rfl⟩)
              ·
                intro F wF hER hk
                obtain ⟨u32, e32, h32⟩ := hk.pred 15 (by kernel_rfl) 32 rfl
                obtain rfl := h32
                obtain ⟨u28, e28, h28⟩ := hk.pred 11 (by kernel_rfl) 28 rfl
                obtain rfl := h28
                refine wl_gyes rfl e28 ?_
                refine wl_load (by decide) Try.sc3 e32 ((hatL.ext hER).get rfl) ?_
                exact wl_nil (qr_some ⟨Chg.refl _ _, rfl⟩)
              ·
                intro F wF hER hk
                have e1 := hk.init 1 _ rfl (by kernel_rfl)
                obtain ⟨u28, e28, h28⟩ := hk.pred 11 (by kernel_rfl) 28 rfl
                obtain rfl := h28
                refine wl_gyes rfl e28 ?_
                refine wl_move (by decide) e1 ?_
                exact wl_nil (qr_some ⟨Chg.refl _ _, rfl⟩)
              ·
                intro F wF hER hk
                have e5 := hk.init 5 _ rfl (by kernel_rfl)
                obtain ⟨u28, e28, h28⟩ := hk.pred 11 (by kernel_rfl) 28 rfl
                obtain rfl := h28
                refine wl_gyes rfl e28 ?_
                refine wl_move (by decide) e5 ?_
                exact wl_nil (qr_some ⟨Chg.refl _ _, rfl⟩)
              ·
                intro F wF hER hk
                obtain ⟨u34, e34, h34⟩ := hk.pred 17 (by kernel_rfl) 34 rfl
                obtain rfl := h34
                obtain ⟨u35, e35, h35⟩ := hk.pred 18 (by kernel_rfl) 35 rfl
                obtain rfl := h35
                obtain ⟨u28, e28, h28⟩ := hk.pred 11 (by kernel_rfl) 28 rfl
                obtain rfl := h28
                refine wl_gyes rfl e28 ?_
                refine wl_idx0 (by decide) Try.sl22 e34 e35 hAR k rfl (by omega) ?_
                exact wl_nil (qr_some ⟨Chg.refl _ _, rfl⟩)
              ·
                intro F wF hER hk
                obtain ⟨u36, e36, h36⟩ := hk.pred 19 (by kernel_rfl) 36 rfl
                obtain rfl := h36
                obtain ⟨u28, e28, h28⟩ := hk.pred 11 (by kernel_rfl) 28 rfl
                obtain rfl := h28
                refine wl_gyes rfl e28 ?_
                refine wl_fld (by decide) Try.fld45_2 e36 ?_
                exact wl_nil (qr_some ⟨Chg.refl _ _, rfl⟩)
              ·
                intro F wF hER hk
                obtain ⟨u37, e37, h37⟩ := hk.pred 20 (by kernel_rfl) 37 rfl
                obtain rfl := h37
                obtain ⟨u28, e28, h28⟩ := hk.pred 11 (by kernel_rfl) 28 rfl
                obtain rfl := h28
                refine wl_gyes rfl e28 ?_
                refine wl_load (by decide) Try.sc3 e37 ((hatR.ext hER).get rfl) ?_
                exact wl_nil (qr_some ⟨Chg.refl _ _, rfl⟩)
              ·
                intro F wF hER hk
                obtain ⟨u33, e33, h33⟩ := hk.pred 16 (by kernel_rfl) 33 rfl
                obtain rfl := h33
                obtain ⟨u38, e38, h38⟩ := hk.pred 21 (by kernel_rfl) 38 rfl
                obtain rfl := h38
                obtain ⟨u28, e28, h28⟩ := hk.pred 11 (by kernel_rfl) 28 rfl
                obtain rfl := h28
                refine wl_gyes rfl e28 ?_
                refine wl_neq (by decide) e33 e38 ?_
                refine wl_re (k := 39) (v := .bool false) rfl (congrArg Value.bool (decide_eq_false (by first | exact h22 | omega | simpa using h22))) ?_
                exact wl_nil (qr_re ⟨Chg.refl _ _, rfl⟩)
              ·
                intro F wF hER hk
                obtain ⟨u28, e28, h28⟩ := hk.pred 11 (by kernel_rfl) 28 rfl
                obtain rfl := h28
                obtain ⟨u39, e39, h39⟩ := hk.pred 22 (by kernel_rfl) 39 rfl
                obtain rfl := h39
                refine wl_pick (by decide) e28 e39 ?_
                exact wl_nil (qr_some ⟨Chg.refl _ _, rfl⟩)
              ·
                intro F wF hER hk
                obtain ⟨u40, e40, h40⟩ := hk.pred 23 (by kernel_rfl) 40 rfl
                obtain rfl := h40
                refine wl_move (by decide) e40 ?_
                exact wl_nil (qr_some ⟨Chg.refl _ _, rfl⟩)
              ·
                intro F wF hER hk
                have e0 := hk.init 0 _ rfl (by kernel_rfl)
                obtain ⟨u41, e41, h41⟩ := hk.pred 24 (by kernel_rfl) 41 rfl
                obtain rfl := h41
                refine wl_gyes rfl e41 ?_
                refine wl_move (by decide) e0 ?_
                exact wl_nil (qr_some ⟨Chg.refl _ _, rfl⟩)
              ·
                intro F wF hER hk
                have e5 := hk.init 5 _ rfl (by kernel_rfl)
                obtain ⟨u41, e41, h41⟩ := hk.pred 24 (by kernel_rfl) 41 rfl
                obtain rfl := h41
                refine wl_gyes rfl e41 ?_
                refine wl_move (by decide) e5 ?_
                exact wl_nil (qr_some ⟨Chg.refl _ _, rfl⟩)
              ·
                intro F wF hER hk
                obtain ⟨u42, e42, h42⟩ := hk.pred 25 (by kernel_rfl) 42 rfl
                obtain rfl := h42
                obtain ⟨u43, e43, h43⟩ := hk.pred 26 (by kernel_rfl) 43 rfl
                obtain rfl := h43
                obtain ⟨u41, e41, h41⟩ := hk.pred 24 (by kernel_rfl) 41 rfl
                obtain rfl := h41
                refine wl_gyes rfl e41 ?_
                refine wl_idx0 (by decide) Try.sl22 e42 e43 hAL k rfl (by omega) ?_
                exact wl_nil (qr_some ⟨Chg.refl _ _, rfl⟩)
              ·
                intro F wF hER hk
                obtain ⟨u44, e44, h44⟩ := hk.pred 27 (by kernel_rfl) 44 rfl
                obtain rfl := h44
                obtain ⟨u41, e41, h41⟩ := hk.pred 24 (by kernel_rfl) 41 rfl
                obtain rfl := h41
                refine wl_gyes rfl e41 ?_
                refine wl_fld (by decide) Try.fld45_3 e44 ?_
                exact wl_nil (qr_some ⟨Chg.refl _ _, rfl⟩)
              ·
                intro F wF hER hk
                obtain ⟨u45, e45, h45⟩ := hk.pred 28 (by kernel_rfl) 45 rfl
                obtain rfl := h45
                obtain ⟨u41, e41, h41⟩ := hk.pred 24 (by kernel_rfl) 41 rfl
                obtain rfl := h41
                refine wl_gyes rfl e41 ?_
                refine wl_load (by decide) Try.sc3 e45 ((hatL.ext hER).get rfl) ?_
                exact wl_nil (qr_some ⟨Chg.refl _ _, rfl⟩)
              ·
                intro F wF hER hk
                have e1 := hk.init 1 _ rfl (by kernel_rfl)
                obtain ⟨u41, e41, h41⟩ := hk.pred 24 (by kernel_rfl) 41 rfl
                obtain rfl := h41
                refine wl_gyes rfl e41 ?_
                refine wl_move (by decide) e1 ?_
                exact wl_nil (qr_some ⟨Chg.refl _ _, rfl⟩)
              ·
                intro F wF hER hk
                have e5 := hk.init 5 _ rfl (by kernel_rfl)
                obtain ⟨u41, e41, h41⟩ := hk.pred 24 (by kernel_rfl) 41 rfl
                obtain rfl := h41
                refine wl_gyes rfl e41 ?_
                refine wl_move (by decide) e5 ?_
                exact wl_nil (qr_some ⟨Chg.refl _ _, rfl⟩)
              ·
                intro F wF hER hk
                obtain ⟨u47, e47, h47⟩ := hk.pred 30 (by kernel_rfl) 47 rfl
                obtain rfl := h47
                obtain ⟨u48, e48, h48⟩ := hk.pred 31 (by kernel_rfl) 48 rfl
                obtain rfl := h48
                obtain ⟨u41, e41, h41⟩ := hk.pred 24 (by kernel_rfl) 41 rfl
                obtain rfl := h41
                refine wl_gyes rfl e41 ?_
                refine wl_idx0 (by decide) Try.sl22 e47 e48 hAR k rfl (by omega) ?_
                exact wl_nil (qr_some ⟨Chg.refl _ _, rfl⟩)
              ·
                intro F wF hER hk
                obtain ⟨u49, e49, h49⟩ := hk.pred 32 (by kernel_rfl) 49 rfl
                obtain rfl := h49
                obtain ⟨u41, e41, h41⟩ := hk.pred 24 (by kernel_rfl) 41 rfl
                obtain rfl := h41
                refine wl_gyes rfl e41 ?_
                refine wl_fld (by decide) Try.fld45_3 e49 ?_
                exact wl_nil (qr_some ⟨Chg.refl _ _, rfl⟩)
              ·
                intro F wF hER hk
                obtain ⟨u50, e50, h50⟩ := hk.pred 33 (by kernel_rfl) 50 rfl
                obtain rfl := h50
                obtain ⟨u41, e41, h41⟩ := hk.pred 24 (by kernel_rfl) 41 rfl
                obtain rfl := h41
                refine wl_gyes rfl e41 ?_
                refine wl_load (by decide) Try.sc3 e50 ((hatR.ext hER).get rfl) ?_
                exact wl_nil (qr_some ⟨Chg.refl _ _, rfl⟩)
              ·
                intro F wF hER hk
                obtain ⟨u46, e46, h46⟩ := hk.pred 29 (by kernel_rfl) 46 rfl
                obtain rfl := h46
                obtain ⟨u51, e51, h51⟩ := hk.pred 34 (by kernel_rfl) 51 rfl
                obtain rfl := h51
                obtain ⟨u41, e41, h41⟩ := hk.pred 24 (by kernel_rfl) 41 rfl
                obtain rfl := h41
                refine wl_gyes rfl e41 ?_
                refine wl_neq (by decide) e46 e51 ?_
                refine wl_re (k := 52) (v := .bool false) rfl (congrArg Value.bool (decide_eq_false (by first | exact h35 | omega | simpa using h35))) ?_
                exact wl_nil (qr_re ⟨Chg.refl _ _, rfl⟩)
              ·
                intro F wF hER hk
                obtain ⟨u41, e41, h41⟩ := hk.pred 24 (by kernel_rfl) 41 rfl
                obtain rfl := h41
                obtain ⟨u52, e52, h52⟩ := hk.pred 35 (by kernel_rfl) 52 rfl
                obtain rfl := h52
                refine wl_pick (by decide) e41 e52 ?_
                exact wl_nil (qr_some ⟨Chg.refl _ _, rfl⟩)
              ·
                intro F wF hER hk
                obtain ⟨u53, e53, h53⟩ := hk.pred 36 (by kernel_rfl) 53 rfl
                obtain rfl := h53
                refine wl_move (by decide) e53 ?_
                exact wl_nil (qr_some ⟨Chg.refl _ _, rfl⟩)
              ·
                intro F wF hER hk
                have e0 := hk.init 0 _ rfl (by kernel_rfl)
                obtain ⟨u54, e54, h54⟩ := hk.pred 37 (by kernel_rfl) 54 rfl
                obtain rfl := h54
                refine wl_gyes rfl e54 ?_
                refine wl_move (by decide) e0 ?_
                exact wl_nil (qr_some ⟨Chg.refl _ _, rfl⟩)
              ·
                intro F wF hER hk
                have e5 := hk.init 5 _ rfl (by kernel_rfl)
                obtain ⟨u54, e54, h54⟩ := hk.pred 37 (by kernel_rfl) 54 rfl
                obtain rfl := h54
                refine wl_gyes rfl e54 ?_
                refine wl_move (by decide) e5 ?_
                exact wl_nil (qr_some ⟨Chg.refl _ _, rfl⟩)
              ·
                intro F wF hER hk
                obtain ⟨u55, e55, h55⟩ := hk.pred 38 (by kernel_rfl) 55 rfl
                obtain rfl := h55
                obtain ⟨u56, e56, h56⟩ := hk.pred 39 (by kernel_rfl) 56 rfl
                obtain rfl := h56
                obtain ⟨u54, e54, h54⟩ := hk.pred 37 (by kernel_rfl) 54 rfl
                obtain rfl := h54
                refine wl_gyes rfl e54 ?_
                refine wl_idx0 (by decide) Try.sl22 e55 e56 hAL k rfl (by omega) ?_
                exact wl_nil (qr_some ⟨Chg.refl _ _, rfl⟩)
              ·
                intro F wF hER hk
                obtain ⟨u57, e57, h57⟩ := hk.pred 40 (by kernel_rfl) 57 rfl
                obtain rfl := h57
                obtain ⟨u54, e54, h54⟩ := hk.pred 37 (by kernel_rfl) 54 rfl
                obtain rfl := h54
                refine wl_gyes rfl e54 ?_
                refine wl_fld (by decide) Try.fld45_1 e57 ?_
                exact wl_nil (qr_some ⟨Chg.refl _ _, rfl⟩)
              ·
                intro F wF hER hk
                obtain ⟨u58, e58, h58⟩ := hk.pred 41 (by kernel_rfl) 58 rfl
                obtain rfl := h58
                obtain ⟨u54, e54, h54⟩ := hk.pred 37 (by kernel_rfl) 54 rfl
                obtain rfl := h54
                refine wl_gyes rfl e54 ?_
                refine wl_load (by decide) Try.sc23 e58 ((hatL.ext hER).get rfl) ?_
                exact wl_nil (qr_some ⟨Chg.refl _ _, rfl⟩)
              ·
                intro F wF hER hk
                have e1 := hk.init 1 _ rfl (by kernel_rfl)
                obtain ⟨u54, e54, h54⟩ := hk.pred 37 (by kernel_rfl) 54 rfl
                obtain rfl := h54
                refine wl_gyes rfl e54 ?_
                refine wl_move (by decide) e1 ?_
                exact wl_nil (qr_some ⟨Chg.refl _ _, rfl⟩)
              ·
                intro F wF hER hk
                have e5 := hk.init 5 _ rfl (by kernel_rfl)
                obtain ⟨u54, e54, h54⟩ := hk.pred 37 (by kernel_rfl) 54 rfl
                obtain rfl := h54
                refine wl_gyes rfl e54 ?_
                refine wl_move (by decide) e5 ?_
                exact wl_nil (qr_some ⟨Chg.refl _ _, rfl⟩)
              ·
                intro F wF hER hk
                obtain ⟨u60, e60, h60⟩ := hk.pred 43 (by kernel_rfl) 60 rfl
                obtain rfl := h60
                obtain ⟨u61, e61, h61⟩ := hk.pred 44 (by kernel_rfl) 61 rfl
                obtain rfl := h61
                obtain ⟨u54, e54, h54⟩ := hk.pred 37 (by kernel_rfl) 54 rfl
                obtain rfl := h54
                refine wl_gyes rfl e54 ?_
                refine wl_idx0 (by decide) Try.sl22 e60 e61 hAR k rfl (by omega) ?_
                exact wl_nil (qr_some ⟨Chg.refl _ _, rfl⟩)
              ·
                intro F wF hER hk
                obtain ⟨u62, e62, h62⟩ := hk.pred 45 (by kernel_rfl) 62 rfl
                obtain rfl := h62
                obtain ⟨u54, e54, h54⟩ := hk.pred 37 (by kernel_rfl) 54 rfl
                obtain rfl := h54
                refine wl_gyes rfl e54 ?_
                refine wl_fld (by decide) Try.fld45_1 e62 ?_
                exact wl_nil (qr_some ⟨Chg.refl _ _, rfl⟩)
              ·
                intro F wF hER hk
                obtain ⟨u63, e63, h63⟩ := hk.pred 46 (by kernel_rfl) 63 rfl
                obtain rfl := h63
                obtain ⟨u54, e54, h54⟩ := hk.pred 37 (by kernel_rfl) 54 rfl
                obtain rfl := h54
                refine wl_gyes rfl e54 ?_
                refine wl_load (by decide) Try.sc23 e63 ((hatR.ext hER).get rfl) ?_
                exact wl_nil (qr_some ⟨Chg.refl _ _, rfl⟩)
              ·
                intro F wF hER hk
                obtain ⟨u59, e59, h59⟩ := hk.pred 42 (by kernel_rfl) 59 rfl
                obtain rfl := h59
                obtain ⟨u64, e64, h64⟩ := hk.pred 47 (by kernel_rfl) 64 rfl
                obtain rfl := h64
                obtain ⟨u54, e54, h54⟩ := hk.pred 37 (by kernel_rfl) 54 rfl
                obtain rfl := h54
                refine wl_gyes rfl e54 ?_
                have hcl := eqBytes_ok (hvL.ext hER) (hvR.ext hER)
                refine wl_call (by decide) Try.cl22 (by simp only [evs, ev, e59, e64]; first | done | rfl) hcl ?_
                clear hcl
                rintro _ w7 ⟨rfl, hE7⟩
                exact wl_nil (qr_some ⟨hE7, rfl⟩)
              ·
                intro F wF hER hk
                obtain ⟨u65, e65, h65⟩ := hk.pred 48 (by kernel_rfl) 65 rfl
                obtain rfl := h65
                obtain ⟨u54, e54, h54⟩ := hk.pred 37 (by kernel_rfl) 54 rfl
                obtain rfl := h54
                refine wl_gyes rfl e54 ?_
                first | refine wl_notd (by decide) e65 ?_ | refine wl_not (by decide) e65 ?_
                exact wl_nil (qr_some ⟨Chg.refl _ _, rfl⟩)
              ·
                intro F wF hER hk
                obtain ⟨u54, e54, h54⟩ := hk.pred 37 (by kernel_rfl) 54 rfl
                obtain rfl := h54
                obtain ⟨u66, e66, h66⟩ := hk.pred 49 (by kernel_rfl) 66 rfl
                obtain rfl := h66
                refine wl_pick (by decide) e54 e66 ?_
                exact wl_nil (qr_some ⟨Chg.refl _ _, rfl⟩)
            ·
              intro F wD hED hini hdo
              have e0 := hini 0 _ rfl (by kernel_rfl)
              have e1 := hini 1 _ rfl (by kernel_rfl)
              have e5 := hini 5 _ rfl (by kernel_rfl)
              obtain ⟨u67, e67, h67⟩ := hdo 50 67 rfl
              obtain rfl := h67
              refine wk_drop [(0, _), (1, _), (5, _), (67, _)] ⟨e0, e1, e5, e67, trivial⟩ ?_
              clear e0 e1 e5 e67 hini hdo
              refine wk_norm ?_
              refine wc_cond rfl (fun hq => ?_) (fun hq => ?_)
              ·
                try replace hq := of_decide_eq_true hq
                refine wc_seq ?_
                refine wc_region ?_
                refine wl_assign (by decide) rfl ?_
                refine wl_nil ?_
                refine wk_norm ?_
                refine wc_ret ?_
                refine wk_blk_ret ?_
                refine wk_then_ret ?_
                refine wk_then_ret ?_
                refine wk_blk_ret ?_
                refine wk_then_ret ?_
                refine wk_post1 (.inl rfl) Try.results15 rfl ?_
                refine ⟨_, rfl, bool_f (fun e => ?_), hE.trans hED⟩
                subst e
                first | exact h10 rfl | exact h22 rfl | exact h35 rfl | exact hq rfl
              ·
                try replace hq := of_decide_eq_false hq
                refine wc_skip ?_
                refine wk_blk_norm ?_
                refine wk_norm ?_
                refine wc_region ?_
                refine wl_move (by decide) rfl ?_
                refine wl_add (by decide) rfl rfl (w64 (by omega) (by omega)) ?_
                refine wl_assign (by decide) rfl ?_
                refine wl_nil ?_
                refine wk_norm ?_
                refine wk_drop [(0, .slice A la.length c), (1, .slice B lb.length d), (5, .int .i64 ((k + 1) : Int))] ⟨rfl, rfl, rfl, trivial⟩ (hKL1 _ _ (m2 := la.length - (k + 1)) ?_ ?_)
                ·
                  refine ⟨(k + 1), rfl, ?_, ?_, ?_, rfl⟩
                  · omega
                  · rw [← List.take_append_getElem (by omega : k < la.length), ← List.take_append_getElem (by omega : k < lb.length), htk, ← hop_get la (by omega), ← hop_get lb (by omega), hop_ext (x := hop la k) (y := hop lb k) (Decidable.not_not.1 h10) (Decidable.not_not.1 hq) (by omega) (by omega)]
                  · exact hE.trans hED
                · omega
    ·
      try replace hlt := of_decide_eq_false hlt
      have hkl : k = la.length := by omega
      refine wc_exit ?_
      refine wk_then_exit ?_
      refine wk_then_exit ?_
      refine wk_blk_exit ?_
      refine wk_norm ?_
      refine wc_seq ?_
      refine wc_region ?_
      refine wl_assign (by decide) rfl ?_
      refine wl_nil ?_
      refine wk_norm ?_
      refine wc_ret ?_
      refine wk_post1 (.inl rfl) Try.results15 rfl ?_
      exact ⟨_, rfl, bool_t (by rw [hkl, List.take_length, hll, List.take_length] at htk; exact htk), hE⟩

theorem copyInts_ok {A : Option Addr} {c : Nat} {l : List Int} {Sa : Nat → Prop} {w : World} (h : IS Sa w A c l) (hlen : l.length * 8 ≤ 140737488355328) : Ret Try.prog 39 #[.slice A l.length c] w (fun v w' => ∃ A' c', v = .slice A' l.length c' ∧ OwnE (fun z : Int => .int .i64 z) 3 w.heap.size w' A' c' l ∧ Ext w w') := by
  refine ret_of_wk Try.func39 rfl Try.ntmps39 (Nat.le_of_ble_eq_true rfl) ?_
  refine wc_seq ?_
  refine wc_region ?_
  refine wl_assign (by decide) rfl ?_
  refine wl_nil ?_
  refine wk_norm ?_
  refine wc_seq ?_
  refine wc_region ?_
  refine wl_assign (by decide) rfl ?_
  refine wl_nil ?_
  refine wk_norm ?_
  refine wc_seq ?_
  refine wc_region ?_
  refine wl_move (by decide) rfl ?_
  refine wl_move (by decide) rfl ?_
  refine wl_appendE (enc := fun z : Int => .int .i64 z) (he := fun _ => rfl) (l := []) (by decide) Try.sl33 rfl rfl (OwnRow.nil _ _ _ _ _) h (by simp; omega) (Nat.le_refl _) ?_
  rintro A1 c1 w1 ho ch _
  refine wl_assign (by decide) rfl ?_
  refine wl_nil ?_
  refine wk_norm ?_
  refine wc_seq ?_
  refine wc_region ?_
  refine wl_move (by decide) rfl ?_
  refine wl_assign (by decide) rfl ?_
  refine wl_nil ?_
  refine wk_norm ?_
  refine wc_ret ?_
  refine wk_post1 (.inl rfl) Try.results39 rfl ?_
  exact ⟨_, rfl, A1, c1, rfl, ho, ch.off (fun _ _ x => absurd rfl x.1)⟩

/-- What was tried in vain, as it lies in memory. -/
def keysC (T : List (Nat × Int)) : List Value := (T.map fun t => [Value.int .i64 (t.1 : Int), .int .i64 t.2]).flatten
theorem keysC_el (T : List (Nat × Int)) (i : Nat) (hi : i < T.length) : ((keysC T).drop (i * 2)).take 2 = [.int .i64 ((T[i].1 : Nat) : Int), .int .i64 T[i].2] := by
  induction T generalizing i with
  | nil => simp at hi
  | cons t r ih =>
    cases i with
    | zero => simp [keysC]
    | succ i =>
      have := ih i (by simpa using hi)
      rw [show (i + 1) * 2 = i * 2 + 2 by omega]
      simpa [keysC] using this
theorem keysC_snoc (T : List (Nat × Int)) (t : Nat × Int) : keysC (T ++ [t]) = keysC T ++ [.int .i64 (t.1 : Int), .int .i64 t.2] := by simp [keysC]
def MemoK (H : List HOp) (first : List UInt8) (T : List (Nat × Int)) : Prop := T.Nodup ∧ ∀ t ∈ T, G H first t.1 t.2 = none ∧ t.1 < 16384 ∧ -1 ≤ t.2 ∧ t.2 < 14
def LastK (H : List HOp) (last : Int) : Prop := -1 ≤ last ∧ last < H.length
theorem nodup_map {α β : Type} {f : α → β} : ∀ {l : List α}, l.Nodup → (∀ a ∈ l, ∀ b ∈ l, f a = f b → a = b) → (l.map f).Nodup
  | [], _, _ => by simp
  | x :: t, h, hf => by
    obtain ⟨h1, h2⟩ := List.nodup_cons.1 h
    rw [List.map_cons, List.nodup_cons]
    refine ⟨fun hm => ?_, nodup_map h2 (fun a ha b hb => hf a (by simp [ha]) b (by simp [hb]))⟩
    obtain ⟨y, hy, e⟩ := List.mem_map.1 hm
    exact h1 (hf y (by simp [hy]) x (by simp) e ▸ hy)
theorem memo_len {H : List HOp} {first : List UInt8} {T : List (Nat × Int)} (h : MemoK H first T) : T.length ≤ 245760 := by
  have hp : POK 245760 (T.map fun t => t.1 * 15 + (t.2 + 1).toNat) := by
    refine ⟨?_, fun i hi => ?_⟩
    · refine nodup_map h.1 ?_
      intro a ha b hb e
      have h1 := h.2 a ha
      have h2 := h.2 b hb
      obtain ⟨a1, a2⟩ := a
      obtain ⟨b1, b2⟩ := b
      simp only at e h1 h2
      have : a1 = b1 := by omega
      have : a2 = b2 := by omega
      subst_vars; rfl
    · obtain ⟨t, ht, rfl⟩ := List.mem_map.1 hi
      have := h.2 t ht
      omega
  have := hp.len
  simpa using this
theorem bitsS_lt {n : Nat} {p : List Nat} (h : POK n p) : bitsS p < 2 ^ n := by
  refine Nat.lt_pow_two_of_testBit _ (fun i hi => ?_)
  rw [bitsS_tb h.1, decide_eq_false_iff_not]
  intro hm
  have := h.2 i hm
  omega
def RFindPost (H : List HOp) (first : List UInt8) (w0 : World) (M0 Fz : Nat → Prop) (w : World) (F : List It) (gT : Nat) (T : List (Nat × Int)) (p : List Nat) (last : Int) (v : Value) (w' : World) : Prop :=
  ∃ A' c' q b T' AT' cT' Fz', v = .tuple #[.slice A' (nats q).length c', .bool b] ∧ HP w0 M0 Fz' w' (itB gT 66 [.slice AT' T'.length cT'] :: itR 73 2 AT' T'.length cT' (keysC T') :: F) ∧ (∀ x, Fz x → Fz' x) ∧ Chg (fun x => ¬ Fz x) w w' ∧
    IS Fz' w' A' c' (nats q) ∧ MemoK H first T' ∧ (∀ t ∈ T', t ∈ T ∨ bitsS p ≤ t.1) ∧ (match G H first (bitsS p) last with | some r => b = true ∧ q = p ++ r | none => b = false ∧ q = [])
def RFind (H : List HOp) (first : List UInt8) (N : Nat) : Prop := ∀ (w0 w : World) (M0 Fz : Nat → Prop) (F : List It) (gT : Nat) (T : List (Nat × Int)) (AT : Option Addr) (cT : Nat) (p : List Nat) (last : Int) (A0 A1 B : Option Addr) (c0 c1 d : Nat),
  HP w0 M0 Fz w (itB gT 66 [.slice AT T.length cT] :: itR 73 2 AT T.length cT (keysC T) :: F) → HS Fz w A0 c0 H → BS Fz w A1 c1 first → IS Fz w B d (nats p) → POK H.length p → LastK H last → MemoK H first T → cntN H.length (bitsS p) ≤ N →
  Ret Try.prog 34 #[.pointer (some ⟨gT, 0, none⟩), .slice A0 H.length c0, .slice A1 first.length c1, .slice B (nats p).length d, .int .i64 last] w (RFindPost H first w0 M0 Fz w F gT T p last)

set_option maxHeartbeats 1000000 in
theorem rfind_step {H : List HOp} {first : List UInt8} {N : Nat} (hl14 : H.length ≤ 14) (ih : ∀ N', N' < N → RFind H first N') {w0 w : World} {M0 Fz : Nat → Prop} {F : List It} {gT : Nat} {T : List (Nat × Int)} {AT : Option Addr} {cT : Nat} {p : List Nat} {last : Int} {A0 A1 B : Option Addr} {c0 c1 d : Nat} (hp : HP w0 M0 Fz w (itB gT 66 [.slice AT T.length cT] :: itR 73 2 AT T.length cT (keysC T) :: F)) (h : HS Fz w A0 c0 H) (hf : BS Fz w A1 c1 first) (ho : IS Fz w B d (nats p)) (hP : POK H.length p) (hL : LastK H last) (hM : MemoK H first T) (hN : cntN H.length (bitsS p) ≤ N) : Ret Try.prog 34 #[.pointer (some ⟨gT, 0, none⟩), .slice A0 H.length c0, .slice A1 first.length c1, .slice B (nats p).length d, .int .i64 last] w (fun v w' => RFindPost H first w0 M0 Fz w F gT T p last v w') := by
  have hfr := Frz.start Fz w
  refine ret_of_wk Try.func34 rfl Try.ntmps34 (Nat.le_of_ble_eq_true rfl) ?_
  refine wc_seq ?_
  refine wc_region ?_
  refine wl_assign (by decide) rfl ?_
  refine wl_assign (by decide) rfl ?_
  refine wl_nil ?_
  refine wk_norm ?_
  refine wc_seq ?_
  refine wc_seq ?_
  refine wc_region ?_
  refine wl_move (by decide) rfl ?_
  refine wl_move (by decide) rfl ?_
  have hcl := whole_ok h ho (fun k => bitsS_tb hP.1 k)
  refine wl_call (by decide) Try.cl36 rfl hcl ?_
  clear hcl
  rintro _ wa ⟨rfl, hEa⟩
  replace h := h.ext hEa
  replace hf := hf.ext hEa
  replace ho := ho.ext hEa
  replace hfr := hfr.ext hEa
  replace hp := hp.ext hEa
  refine wl_nil ?_
  refine wk_norm ?_
  refine wc_cond rfl (fun hw => ?_) (fun hw => ?_)
  ·
    try replace hw := of_decide_eq_true hw
    refine wc_seq ?_
    refine wc_region ?_
    refine wl_move (by decide) rfl ?_
    refine wl_assign (by decide) rfl ?_
    refine wl_assign (by decide) rfl ?_
    refine wl_nil ?_
    refine wk_norm ?_
    refine wc_ret ?_
    refine wk_then_ret ?_
    refine wk_post2 (.inl rfl) Try.results34 rfl rfl ?_
    exact ⟨_, rfl, B, d, p, true, T, AT, cT, Fz, rfl, hp, fun _ h => h, hfr.chg, ho, hM, fun t ht => .inl ht, by rw [G_whole H first hw]; exact ⟨rfl, by simp⟩⟩
  ·
    try replace hw := of_decide_eq_false hw
    refine wc_skip ?_
    refine wk_norm ?_
    refine wc_seq ?_
    refine wc_region ?_
    refine wl_move (by decide) rfl ?_
    refine wl_call (by decide) Try.cl37 rfl (bits_ok ho (fun i hi => Nat.lt_of_lt_of_le (hP.2 i hi) hl14) (Nat.le_trans hP.len hl14)) ?_
    rintro _ _ ⟨rfl, rfl⟩
    refine wl_move (by decide) rfl ?_
    refine wl_built (ps := [(0, .tmp 24), (1, .tmp 25)]) (by decide) Try.bld73 rfl rfl ?_
    refine wl_halloc (z := .agg #[.int .i64 0, .int .i64 0]) (by decide) (by kernel_rfl) hp ?_
    rintro gs12 w1 hp1 hE1
    replace h := h.ext hE1
    replace hf := hf.ext hE1
    replace ho := ho.ext hE1
    replace hfr := hfr.ext hE1
    replace hp := hp1
    refine wl_hstore (i := 0) rfl rfl hp rfl Try.sz73 (Nat.le_of_ble_eq_true rfl) (List.all_eq_true.1 rfl) ?_
    rintro w2 hp2 hC2
    replace h := h.fz hC2
    replace hf := hf.fz hC2
    replace ho := ho.fz hC2
    replace hfr := hfr.fz hC2
    replace hp := hp2
    refine wl_nil ?_
    refine wk_norm ?_
    refine wc_seq ?_
    refine wc_seq ?_
    refine wc_region ?_
    refine wl_assign (by decide) rfl ?_
    refine wl_nil ?_
    refine wk_norm ?_
    refine wc_block ?_
    refine wc_loop (fun L' w' mes => ∃ (i : Nat), L' = [(0, .pointer (some ⟨gT, 0, none⟩)), (1, .slice A0 H.length c0), (2, .slice A1 first.length c1), (3, .slice B (nats p).length d), (4, .int .i64 last), (12, .pointer (some ⟨gs12, 0, none⟩)), (13, .int .i64 (i : Int))] ∧ (i ≤ T.length) ∧ (∀ j (hj2 : j < T.length), j < i → T[j] ≠ (bitsS p, last)) ∧ (HP w0 M0 Fz w' (itB gs12 73 [.int .i64 (bitsS p : Int), .int .i64 last] :: itB gT 66 [.slice AT T.length cT] :: itR 73 2 AT T.length cT (keysC T) :: F)) ∧ (HS Fz w' A0 c0 H) ∧ (BS Fz w' A1 c1 first) ∧ (IS Fz w' B d (nats p)) ∧ (Frz Fz Fz w w') ∧ T.length - i = mes) [(0, .pointer (some ⟨gT, 0, none⟩)), (1, .slice A0 H.length c0), (2, .slice A1 first.length c1), (3, .slice B (nats p).length d), (4, .int .i64 last), (12, .pointer (some ⟨gs12, 0, none⟩)), (13, .int .i64 (0 : Int))] (T.length - 0) (by
        refine ⟨0, rfl, ?_, ?_, ?_, ?_, ?_, ?_, ?_, rfl⟩
        · omega
        · intro j _ hj; omega
        · exact hp
        · exact h
        · exact hf
        · exact ho
        · exact hfr) ⟨rfl, rfl, rfl, rfl, rfl, rfl, rfl, trivial⟩ ?_
    rintro _ wr _ ⟨i, rfl, hi, hnk, hp, h, hf, ho, hfr, rfl⟩ KL1 hKL1
    refine wc_seq ?_
    refine wc_seq ?_
    refine wc_region ?_
    refine wl_move (by decide) rfl ?_
    refine wl_move (by decide) rfl ?_
    refine wl_nilCheck (by decide) rfl ?_
    refine wl_fld' (o' := 0) (by decide) Try.fld66_0 rfl rfl ?_
    refine wl_hload (i := 1) (by decide) Try.sc64 rfl hp rfl rfl ?_
    refine wl_len (by decide) Try.underlying64 rfl ?_
    refine wl_lss (by decide) rfl rfl ?_
    refine wl_nil ?_
    refine wk_norm ?_
    refine wc_cond rfl (fun hlt => ?_) (fun hlt => ?_)
    ·
      try replace hlt := of_decide_eq_true hlt
      have hml := memo_len hM
      obtain ⟨gK, hAT, hatT⟩ := OwnRow.el (hp.rowAt (i := 2) rfl) i (by omega)
      rw [keysC_el T i (by omega)] at hatT
      have hTi := hM.2 (T[i]'(by omega)) (List.getElem_mem _)
      have hLL := hL.1
      have hLU := hL.2
      have hbb := bitsS_lt hP
      have hbb2 : bitsS p < 16384 := Nat.lt_of_lt_of_le hbb (Nat.le_trans (Nat.pow_le_pow_right (by omega) hl14) (by decide))
      refine wc_skip ?_
      refine wk_norm ?_
      refine wc_seq ?_
      refine wc_block ?_
      refine wc_seq ?_
      apply wc_drawL [SP.eq _, SP.eq _, SP.eq _, SP.eq _, SP.eq _, SP.eq _, SP.eq _, SP.eq _, SP.eq (.bool (decide (T[i]'(by omega) = (bitsS p, last))))] (by kernel_rfl) (by kernel_rfl)
      · refine ⟨?_, ?_, ?_, ?_, ?_, ?_, ?_, ?_, ?_, trivial⟩
        ·
          intro F wF hER hk
          have e0 := hk.init 0 _ rfl (by kernel_rfl)
          refine wl_move (by decide) e0 ?_
          exact wl_nil (qr_some ⟨Chg.refl _ _, rfl⟩)
        ·
          intro F wF hER hk
          obtain ⟨u36, e36, h36⟩ := hk.pred 0 (by kernel_rfl) 36 rfl
          obtain rfl := h36
          refine wl_nilCheck (by decide) e36 ?_
          exact wl_nil (qr_some ⟨Chg.refl _ _, rfl⟩)
        ·
          intro F wF hER hk
          obtain ⟨u37, e37, h37⟩ := hk.pred 1 (by kernel_rfl) 37 rfl
          obtain rfl := h37
          refine wl_fld' (o' := 0) (by decide) Try.fld66_0 e37 rfl ?_
          exact wl_nil (qr_some ⟨Chg.refl _ _, rfl⟩)
        ·
          intro F wF hER hk
          obtain ⟨u38, e38, h38⟩ := hk.pred 2 (by kernel_rfl) 38 rfl
          obtain rfl := h38
          refine wl_hload (i := 1) (by decide) Try.sc64 e38 (hp.ext hER) rfl rfl ?_
          exact wl_nil (qr_some ⟨Chg.refl _ _, rfl⟩)
        ·
          intro F wF hER hk
          have e13 := hk.init 13 _ rfl (by kernel_rfl)
          refine wl_move (by decide) e13 ?_
          exact wl_nil (qr_some ⟨Chg.refl _ _, rfl⟩)
        ·
          intro F wF hER hk
          obtain ⟨u39, e39, h39⟩ := hk.pred 3 (by kernel_rfl) 39 rfl
          obtain rfl := h39
          obtain ⟨u40, e40, h40⟩ := hk.pred 4 (by kernel_rfl) 40 rfl
          obtain rfl := h40
          refine wl_idx0 (by decide) Try.sl64 e39 e40 hAT i rfl (by omega) ?_
          exact wl_nil (qr_some ⟨Chg.refl _ _, rfl⟩)
        ·
          intro F wF hER hk
          obtain ⟨u41, e41, h41⟩ := hk.pred 5 (by kernel_rfl) 41 rfl
          obtain rfl := h41
          refine wl_loadA (by decide) Try.ag73 e41 (hatT.ext hER).at_ rfl ?_
          exact wl_nil (qr_some ⟨Chg.refl _ _, rfl⟩)
        ·
          intro F wF hER hk
          have e12 := hk.init 12 _ rfl (by kernel_rfl)
          refine wl_hloadA (i := 0) (by decide) Try.ag73 e12 (hp.ext hER) rfl rfl ?_
          exact wl_nil (qr_some ⟨Chg.refl _ _, rfl⟩)
        ·
          intro F wF hER hk
          obtain ⟨u42, e42, h42⟩ := hk.pred 6 (by kernel_rfl) 42 rfl
          obtain rfl := h42
          obtain ⟨u43, e43, h43⟩ := hk.pred 7 (by kernel_rfl) 43 rfl
          obtain rfl := h43
          refine wl_eqlK (T[i]'(by omega) = (bitsS p, last)) (xs := [.int .i64 ((T[i]'(by omega)).1 : Int), .int .i64 (T[i]'(by omega)).2]) (ys := [.int .i64 (bitsS p : Int), .int .i64 last]) (by decide) Try.key73 Try.eg73 e42 e43 (FitK.cons (fit_int (by omega) (by omega)) (FitK.cons (fit_int (by omega) (by omega)) FitK.nil)) (FitK.cons (fit_int (by omega) (by omega)) (FitK.cons (fit_int (by omega) (by omega)) FitK.nil)) ?_ ?_
          · constructor
            · intro e; rw [e]
            · intro e
              simp only [List.cons.injEq, Value.int.injEq, true_and, and_true, Int.ofNat_inj] at e
              exact Prod.ext e.1 e.2
          exact wl_nil (qr_some ⟨Chg.refl _ _, rfl⟩)
      ·
        intro F wD hED hini hdo
        have e0 := hini 0 _ rfl (by kernel_rfl)
        have e1 := hini 1 _ rfl (by kernel_rfl)
        have e2 := hini 2 _ rfl (by kernel_rfl)
        have e3 := hini 3 _ rfl (by kernel_rfl)
        have e4 := hini 4 _ rfl (by kernel_rfl)
        have e12 := hini 12 _ rfl (by kernel_rfl)
        have e13 := hini 13 _ rfl (by kernel_rfl)
        obtain ⟨u44, e44, h44⟩ := hdo 8 44 rfl
        obtain rfl := h44
        refine wk_drop [(0, _), (1, _), (2, _), (3, _), (4, _), (12, _), (13, _), (44, _)] ⟨e0, e1, e2, e3, e4, e12, e13, e44, trivial⟩ ?_
        clear e0 e1 e2 e3 e4 e12 e13 e44 hini hdo
        replace h := h.ext hED
        replace hf := hf.ext hED
        replace ho := ho.ext hED
        replace hfr := hfr.ext hED
        replace hp := hp.ext hED
        refine wk_norm ?_
        refine wc_cond rfl (fun hm => ?_) (fun hm => ?_)
        ·
          try replace hm := of_decide_eq_true hm
          refine wc_seq ?_
          refine wc_region ?_
          refine wl_assign (by decide) rfl ?_
          refine wl_assign (by decide) rfl ?_
          refine wl_nil ?_
          refine wk_norm ?_
          refine wc_ret ?_
          refine wk_blk_ret ?_
          refine wk_then_ret ?_
          refine wk_then_ret ?_
          refine wk_blk_ret ?_
          refine wk_then_ret ?_
          refine wk_post2 (.inl rfl) Try.results34 rfl rfl ?_
          have hg : G H first (bitsS p) last = none := by have := hTi.1; rw [hm] at this; exact this
          exact ⟨_, rfl, none, 0, [], false, T, AT, cT, Fz, rfl, hp.tail, fun _ h => h, hfr.chg, GS.nil _ _ _ _ _, hM, fun t ht => .inl ht, by rw [hg]; exact ⟨rfl, rfl⟩⟩
        ·
          try replace hm := of_decide_eq_false hm
          refine wc_skip ?_
          refine wk_blk_norm ?_
          refine wk_norm ?_
          refine wc_region ?_
          refine wl_move (by decide) rfl ?_
          refine wl_add (by decide) rfl rfl (w64 (by omega) (by omega)) ?_
          refine wl_assign (by decide) rfl ?_
          refine wl_nil ?_
          refine wk_norm ?_
          refine wk_drop [(0, .pointer (some ⟨gT, 0, none⟩)), (1, .slice A0 H.length c0), (2, .slice A1 first.length c1), (3, .slice B (nats p).length d), (4, .int .i64 last), (12, .pointer (some ⟨gs12, 0, none⟩)), (13, .int .i64 ((i + 1) : Int))] ⟨rfl, rfl, rfl, rfl, rfl, rfl, rfl, trivial⟩ (hKL1 _ _ (m2 := T.length - (i + 1)) ?_ ?_)
          ·
            refine ⟨(i + 1), rfl, ?_, ?_, ?_, ?_, ?_, ?_, ?_, rfl⟩
            · omega
            · intro j hj2 hj
              by_cases e : j = i
              · subst e; exact hm
              · exact hnk j hj2 (by omega)
            · exact hp
            · exact h
            · exact hf
            · exact ho
            · exact hfr
          · omega
    ·
      try replace hlt := of_decide_eq_false hlt
      have hkT : (bitsS p, last) ∉ T := by
        intro hm
        obtain ⟨j, hj, e⟩ := List.mem_iff_getElem.1 hm
        exact hnk j hj (by omega) e
      refine wc_exit ?_
      refine wk_then_exit ?_
      refine wk_then_exit ?_
      refine wk_blk_exit ?_
      refine wk_norm ?_
      refine wc_seq ?_
      refine wc_region ?_
      refine wl_move (by decide) rfl ?_
      refine wl_assign (by decide) rfl ?_
      refine wl_nil ?_
      refine wk_norm ?_
      refine wc_seq_cut (fun L' w' => ∃ (A14 : Option Addr), ∃ (c14 : Nat), L' = [(0, .pointer (some ⟨gT, 0, none⟩)), (1, .slice A0 H.length c0), (2, .slice A1 first.length c1), (3, .slice B (nats p).length d), (4, .int .i64 last), (12, .pointer (some ⟨gs12, 0, none⟩)), (14, .slice A14 (valueOf H first last).length c14)] ∧ (HP w0 M0 Fz w' (itB gs12 73 [.int .i64 (bitsS p : Int), .int .i64 last] :: itB gT 66 [.slice AT T.length cT] :: itR 73 2 AT T.length cT (keysC T) :: F)) ∧ (HS Fz w' A0 c0 H) ∧ (BS Fz w' A1 c1 first) ∧ (IS Fz w' B d (nats p)) ∧ (Frz Fz Fz w w') ∧ (BS Fz w' A14 c14 (valueOf H first last))) (fun K hK => ?_) ?_
      ·
        refine wc_seq ?_
        refine wc_region ?_
        refine wl_move (by decide) rfl ?_
        refine wl_geq (by decide) rfl rfl ?_
        refine wl_nil ?_
        refine wk_norm ?_
        refine wc_cond rfl (fun h0 => ?_) (fun h0 => ?_)
        ·
          try replace h0 := of_decide_eq_true h0
          obtain ⟨aV, BV, dV, hAV, hatV, hvV⟩ := HS.el h last.toNat (by have := hL.2; omega)
          have hLU := hL.2
          have hval : valueOf H first last = (hop H last.toNat).val := by rw [valueOf, if_pos h0]
          refine wc_region ?_
          refine wl_move (by decide) rfl ?_
          refine wl_move (by decide) rfl ?_
          refine wl_idx0 (by decide) Try.sl29 rfl rfl hAV last.toNat (by omega) (by omega) ?_
          refine wl_fld (by decide) Try.fld56_1 rfl ?_
          refine wl_load (by decide) Try.sc23 rfl (hatV.get rfl) ?_
          refine wl_assign (by decide) rfl ?_
          refine wl_nil ?_
          refine wk_norm ?_
          refine wk_drop [(0, .pointer (some ⟨gT, 0, none⟩)), (1, .slice A0 H.length c0), (2, .slice A1 first.length c1), (3, .slice B (nats p).length d), (4, .int .i64 last), (12, .pointer (some ⟨gs12, 0, none⟩)), (14, .slice _ (valueOf H first last).length _)] ⟨rfl, rfl, rfl, rfl, rfl, rfl, (by rw [hval]; rfl), trivial⟩ (hK _ _ ?_)
          refine ⟨_, _, rfl, ?_, ?_, ?_, ?_, ?_, ?_⟩
          · exact hp
          · exact h
          · exact hf
          · exact ho
          · exact hfr
          · rw [hval]; first | exact hvV | exact hf
        ·
          try replace h0 := of_decide_eq_false h0
          have hval : valueOf H first last = first := by rw [valueOf, if_neg h0]
          refine wc_skip ?_
          refine wk_norm ?_
          refine wk_drop [(0, .pointer (some ⟨gT, 0, none⟩)), (1, .slice A0 H.length c0), (2, .slice A1 first.length c1), (3, .slice B (nats p).length d), (4, .int .i64 last), (12, .pointer (some ⟨gs12, 0, none⟩)), (14, .slice _ (valueOf H first last).length _)] ⟨rfl, rfl, rfl, rfl, rfl, rfl, (by rw [hval]; rfl), trivial⟩ (hK _ _ ?_)
          refine ⟨_, _, rfl, ?_, ?_, ?_, ?_, ?_, ?_⟩
          · exact hp
          · exact h
          · exact hf
          · exact ho
          · exact hfr
          · rw [hval]; first | exact hvV | exact hf
      ·
        rintro _ wc ⟨A14, c14, rfl, hp, h, hf, ho, hfr, hv⟩
        refine wc_seq ?_
        refine wc_seq ?_
        refine wc_region ?_
        refine wl_assign (by decide) rfl ?_
        refine wl_nil ?_
        refine wk_norm ?_
        refine wc_block ?_
        refine wc_loop (fun L' w' mes => ∃ (i : Nat), ∃ (Fz2 : Nat → Prop), ∃ (T2 : List (Nat × Int)), ∃ (AT2 : Option Addr), ∃ (cT2 : Nat), L' = [(0, .pointer (some ⟨gT, 0, none⟩)), (1, .slice A0 H.length c0), (2, .slice A1 first.length c1), (3, .slice B (nats p).length d), (4, .int .i64 last), (12, .pointer (some ⟨gs12, 0, none⟩)), (14, .slice A14 (valueOf H first last).length c14), (15, .int .i64 (i : Int))] ∧ (i ≤ H.length) ∧ (∀ j, j < i → allowS H first (bitsS p) last j = true → G H first (bitsS p ||| 1 <<< j) (nextL H last j) = none) ∧ (MemoK H first T2) ∧ (∀ t ∈ T2, t ∈ T ∨ bitsS p < t.1) ∧ (HP w0 M0 Fz2 w' (itB gs12 73 [.int .i64 (bitsS p : Int), .int .i64 last] :: itB gT 66 [.slice AT2 T2.length cT2] :: itR 73 2 AT2 T2.length cT2 (keysC T2) :: F)) ∧ (HS Fz2 w' A0 c0 H) ∧ (BS Fz2 w' A1 c1 first) ∧ (IS Fz2 w' B d (nats p)) ∧ (Frz Fz Fz2 w w') ∧ (BS Fz2 w' A14 c14 (valueOf H first last)) ∧ H.length - i = mes) [(0, .pointer (some ⟨gT, 0, none⟩)), (1, .slice A0 H.length c0), (2, .slice A1 first.length c1), (3, .slice B (nats p).length d), (4, .int .i64 last), (12, .pointer (some ⟨gs12, 0, none⟩)), (14, .slice A14 (valueOf H first last).length c14), (15, .int .i64 (0 : Int))] (H.length - 0) (by
            refine ⟨0, Fz, T, AT, cT, rfl, ?_, ?_, ?_, ?_, ?_, ?_, ?_, ?_, ?_, ?_, rfl⟩
            · omega
            · intro j hj; omega
            · exact hM
            · exact fun t ht => .inl ht
            · exact hp
            · exact h
            · exact hf
            · exact ho
            · exact hfr
            · exact hv) ⟨rfl, rfl, rfl, rfl, rfl, rfl, rfl, rfl, trivial⟩ ?_
        rintro _ wr _ ⟨i, Fz2, T2, AT2, cT2, rfl, hi, hall, hM2, hT2, hp, h, hf, ho, hfr, hv, rfl⟩ KL2 hKL2
        refine wc_seq ?_
        refine wc_seq ?_
        refine wc_region ?_
        refine wl_move (by decide) rfl ?_
        refine wl_move (by decide) rfl ?_
        refine wl_len (by decide) Try.underlying29 rfl ?_
        refine wl_lss (by decide) rfl rfl ?_
        refine wl_nil ?_
        refine wk_norm ?_
        refine wc_cond rfl (fun hlt2 => ?_) (fun hlt2 => ?_)
        ·
          try replace hlt2 := of_decide_eq_true hlt2
          refine wc_skip ?_
          refine wk_norm ?_
          refine wc_seq ?_
          refine wc_block ?_
          refine wc_seq ?_
          refine wc_seq ?_
          refine wc_region ?_
          refine wl_move (by decide) rfl ?_
          refine wl_move (by decide) rfl ?_
          refine wl_move (by decide) rfl ?_
          refine wl_move (by decide) rfl ?_
          have hcl := may_ok (H := H) h ho (fun k => bitsS_tb hP.1 k) hv rfl (show i < H.length by omega)
          refine wl_call (by decide) Try.cl38 rfl hcl ?_
          clear hcl
          rintro _ wb ⟨rfl, hEb⟩
          replace h := h.ext hEb
          replace hf := hf.ext hEb
          replace ho := ho.ext hEb
          replace hfr := hfr.ext hEb
          replace hv := hv.ext hEb
          replace hp := hp.ext hEb
          first | refine wl_notd (by decide) rfl ?_ | refine wl_not (by decide) rfl ?_
          refine wl_nil ?_
          refine wk_norm ?_
          refine wc_cond rfl (fun ha => ?_) (fun ha => ?_)
          ·
            try replace ha := of_decide_eq_true ha
            replace ha : allowS H first (bitsS p) last i = false := by simpa using ha
            refine wc_exit ?_
            refine wk_then_exit ?_
            refine wk_blk_exit ?_
            refine wk_norm ?_
            refine wc_region ?_
            refine wl_move (by decide) rfl ?_
            refine wl_add (by decide) rfl rfl (w64 (by omega) (by omega)) ?_
            refine wl_assign (by decide) rfl ?_
            refine wl_nil ?_
            refine wk_norm ?_
            refine wk_drop [(0, .pointer (some ⟨gT, 0, none⟩)), (1, .slice A0 H.length c0), (2, .slice A1 first.length c1), (3, .slice B (nats p).length d), (4, .int .i64 last), (12, .pointer (some ⟨gs12, 0, none⟩)), (14, .slice A14 (valueOf H first last).length c14), (15, .int .i64 ((i + 1) : Int))] ⟨rfl, rfl, rfl, rfl, rfl, rfl, rfl, rfl, trivial⟩ (hKL2 _ _ (m2 := H.length - (i + 1)) ?_ ?_)
            ·
              refine ⟨(i + 1), Fz2, T2, AT2, cT2, rfl, ?_, ?_, ?_, ?_, ?_, ?_, ?_, ?_, ?_, ?_, rfl⟩
              · omega
              · intro j hj hja
                by_cases e : j = i
                · subst e; exact absurd hja (by rw [ha]; simp)
                · exact hall j (by omega) hja
              · exact hM2
              · exact hT2
              · exact hp
              · exact h
              · exact hf
              · exact ho
              · exact hfr
              · exact hv
            · omega
          ·
            try replace ha := of_decide_eq_false ha
            replace ha : allowS H first (bitsS p) last i = true := by simpa using ha
            refine wc_skip ?_
            refine wk_norm ?_
            refine wc_seq ?_
            refine wc_region ?_
            refine wl_move (by decide) rfl ?_
            refine wl_assign (by decide) rfl ?_
            refine wl_nil ?_
            refine wk_norm ?_
            refine wc_seq_cut (fun L' w' => L' = [(0, .pointer (some ⟨gT, 0, none⟩)), (1, .slice A0 H.length c0), (2, .slice A1 first.length c1), (3, .slice B (nats p).length d), (4, .int .i64 last), (12, .pointer (some ⟨gs12, 0, none⟩)), (14, .slice A14 (valueOf H first last).length c14), (15, .int .i64 (i : Int)), (16, .int .i64 (nextL H last i))] ∧ (HP w0 M0 Fz2 w' (itB gs12 73 [.int .i64 (bitsS p : Int), .int .i64 last] :: itB gT 66 [.slice AT2 T2.length cT2] :: itR 73 2 AT2 T2.length cT2 (keysC T2) :: F)) ∧ (HS Fz2 w' A0 c0 H) ∧ (BS Fz2 w' A1 c1 first) ∧ (IS Fz2 w' B d (nats p)) ∧ (Frz Fz Fz2 w w') ∧ (BS Fz2 w' A14 c14 (valueOf H first last))) (fun K hK => ?_) ?_
            ·
              refine wc_seq ?_
              refine wc_region ?_
              refine wl_move (by decide) rfl ?_
              obtain ⟨aE, BE, dE, hAE, hatE, hvE⟩ := HS.el h i (by omega)
              refine wl_move (by decide) rfl ?_
              refine wl_idx0 (by decide) Try.sl29 rfl rfl hAE i rfl (by omega) ?_
              refine wl_fld (by decide) Try.fld56_0 rfl ?_
              refine wl_load (by decide) Try.sc4 rfl (hatE.get rfl) ?_
              refine wl_nil ?_
              refine wk_norm ?_
              refine wc_cond rfl (fun hwr => ?_) (fun hwr => ?_)
              ·
                try replace hwr := of_decide_eq_true hwr
                have hnx : nextL H last i = (i : Int) := by rw [nextL, if_pos hwr]
                refine wc_region ?_
                refine wl_move (by decide) rfl ?_
                refine wl_assign (by decide) rfl ?_
                refine wl_nil ?_
                refine wk_norm ?_
                refine wk_drop [(0, .pointer (some ⟨gT, 0, none⟩)), (1, .slice A0 H.length c0), (2, .slice A1 first.length c1), (3, .slice B (nats p).length d), (4, .int .i64 last), (12, .pointer (some ⟨gs12, 0, none⟩)), (14, .slice A14 (valueOf H first last).length c14), (15, .int .i64 (i : Int)), (16, .int .i64 (nextL H last i))] ⟨rfl, rfl, rfl, rfl, rfl, rfl, rfl, rfl, (by rw [hnx]; rfl), trivial⟩ (hK _ _ ?_)
                refine ⟨rfl, ?_, ?_, ?_, ?_, ?_, ?_⟩
                · exact hp
                · exact h
                · exact hf
                · exact ho
                · exact hfr
                · exact hv
              ·
                try replace hwr := of_decide_eq_false hwr
                have hnx : nextL H last i = last := by rw [nextL, if_neg (by rw [hwr]; simp)]
                refine wc_skip ?_
                refine wk_norm ?_
                refine wk_drop [(0, .pointer (some ⟨gT, 0, none⟩)), (1, .slice A0 H.length c0), (2, .slice A1 first.length c1), (3, .slice B (nats p).length d), (4, .int .i64 last), (12, .pointer (some ⟨gs12, 0, none⟩)), (14, .slice A14 (valueOf H first last).length c14), (15, .int .i64 (i : Int)), (16, .int .i64 (nextL H last i))] ⟨rfl, rfl, rfl, rfl, rfl, rfl, rfl, rfl, (by rw [hnx]; rfl), trivial⟩ (hK _ _ ?_)
                refine ⟨rfl, ?_, ?_, ?_, ?_, ?_, ?_⟩
                · exact hp
                · exact h
                · exact hf
                · exact ho
                · exact hfr
                · exact hv
            ·
              rintro _ wn ⟨rfl, hp, h, hf, ho, hfr, hv⟩
              refine wc_seq ?_
              refine wc_region ?_
              refine wl_move (by decide) rfl ?_
              refine wl_move (by decide) rfl ?_
              refine wl_move (by decide) rfl ?_
              refine wl_move (by decide) rfl ?_
              have hpl := hP.len
              have hcl := copyInts_ok ho (by rw [nats_len]; omega)
              refine wl_call (by decide) Try.cl39 rfl hcl ?_
              clear hcl
              rintro _ wd ⟨A20, c20, rfl, hcp, hEd⟩
              replace h := h.ext hEd
              replace hf := hf.ext hEd
              replace ho := ho.ext hEd
              replace hfr := hfr.ext hEd
              replace hv := hv.ext hEd
              replace hp := (hp.ownRow hEd hcp)
              refine wl_move (by decide) rfl ?_
              refine wl_bsliceE (enc := fun z : Int => .int .i64 z) (xs := [.tmp 78]) (bs := [(i : Int)]) (fun _ => rfl) (by decide) Try.sl33 rfl rfl rfl (by simp) _ (Nat.le_refl _) ?_
              rintro gt wt hgt hot hEt
              replace h := h.ext hEt
              replace hf := hf.ext hEt
              replace ho := ho.ext hEt
              replace hfr := hfr.ext hEt
              replace hv := hv.ext hEt
              replace hp := hp.ext hEt
              refine wl_happend (i := 0) (m := 1) (news := [.int .i64 (i : Int)]) (by decide) Try.sl33 rfl rfl hp rfl rfl (fun b hb => by cases hb; exact hot.at0) (by simp) (by simp [Value.oneCell']) (by rw [nats_len]; omega) ?_
              rintro A4 c4 w4 hp4 hC4
              replace h := h.fz hC4
              replace hf := hf.fz hC4
              replace ho := ho.fz hC4
              replace hfr := hfr.fz hC4
              replace hv := hv.fz hC4
              replace hp := hp4
              refine wl_move (by decide) rfl ?_
              have hro := hp.rowAt (i := 0) rfl
              obtain ⟨Fz4, hp4b, hs4, hr4⟩ := hp.frzRow
              replace hp := hp4b.rot3
              replace h := h.wid hs4
              replace hf := hf.wid hs4
              replace ho := ho.wid hs4
              replace hfr := hfr.wid hs4
              replace hv := hv.wid hs4
              have e5 : (nats (p ++ [i])).length = (nats p).length + 1 := by simp [nats]
              have ho2 : IS Fz4 w4 A4 c4 (nats (p ++ [i])) := by
                refine OwnRow.gsF (enc := fun z : Int => .int .i64 z) (lo := 0) (e := 3) ?_ hr4
                rw [e5, nats_append, List.map_append]
                exact hro
              refine wl_re (k := 80) (v := .slice A4 (nats (p ++ [i])).length c4) rfl (by rw [e5]) ?_
              obtain ⟨hP2, hb2⟩ := bitsS_snoc hP (show i < H.length by omega) (allowS_tb H first ha)
              have hcn := cntN_or (bitsS p) i (allowS_tb H first ha) H.length
              rw [if_pos (show i < H.length by omega), ← hb2] at hcn
              have hgt : bitsS p < bitsS (p ++ [i]) := by
                rw [hb2, ← add_or (allowS_tb H first ha), Nat.shiftLeft_eq, Nat.one_mul]
                have := Nat.two_pow_pos i
                omega
              have hL2 : LastK H (nextL H last i) := by
                unfold nextL LastK at *
                split <;> omega
              have hcl := ih (cntN H.length (bitsS (p ++ [i]))) (by omega) w0 _ M0 Fz4 _ gT T2 AT2 cT2 (p ++ [i]) (nextL H last i) A0 A1 A4 c0 c1 c4 hp h hf ho2 hP2 hL2 hM2 (Nat.le_refl _)
              refine wl_call (by decide) Try.cl34 rfl hcl ?_
              clear hcl
              rintro _ we ⟨A5, c5, q, b, T3, AT3, cT3, Fz5, rfl, hp5, hs5, hC5, hq5, hM3, hT3, hG5⟩
              replace h := (h.fz hC5).wid hs5
              replace hf := (hf.fz hC5).wid hs5
              replace ho := (ho.fz hC5).wid hs5
              replace hfr := (hfr.fz hC5).wid hs5
              replace hv := (hv.fz hC5).wid hs5
              replace hp := hp5.rot3.rot3
              refine wl_move (by decide) rfl ?_
              refine wl_extract (by decide) rfl rfl ?_
              refine wl_extract (by decide) rfl rfl ?_
              refine wl_assign (by decide) rfl ?_
              refine wl_assign (by decide) rfl ?_
              refine wl_nil ?_
              refine wk_norm ?_
              refine wc_seq ?_
              refine wc_region ?_
              refine wl_move (by decide) rfl ?_
              refine wl_nil ?_
              refine wk_norm ?_
              refine wc_cond rfl (fun hb => ?_) (fun hb => ?_)
              ·
                try replace hb := of_decide_eq_true hb
                obtain ⟨r, hr⟩ : ∃ r, G H first (bitsS (p ++ [i])) (nextL H last i) = some r := by
                  cases hg : G H first (bitsS (p ++ [i])) (nextL H last i) with
                  | none => rw [hg] at hG5; exact absurd hG5.1 (by rw [hb]; simp)
                  | some r => exact ⟨r, rfl⟩
                rw [hr] at hG5
                refine wc_seq ?_
                refine wc_region ?_
                refine wl_move (by decide) rfl ?_
                refine wl_assign (by decide) rfl ?_
                refine wl_assign (by decide) rfl ?_
                refine wl_nil ?_
                refine wk_norm ?_
                refine wc_ret ?_
                refine wk_blk_ret ?_
                refine wk_then_ret ?_
                refine wk_then_ret ?_
                refine wk_blk_ret ?_
                refine wk_then_ret ?_
                refine wk_post2 (.inl rfl) Try.results34 rfl rfl ?_
                rw [hb2] at hr
                exact ⟨_, rfl, A5, c5, q, true, T3, AT3, cT3, Fz5, rfl, hp.tail, hfr.sub, hfr.chg, hq5, hM3, fun t ht => (hT3 t ht).elim (fun h1 => (hT2 t h1).elim .inl (fun h2 => .inr (by omega))) (fun h1 => .inr (by omega)), by rw [G_some H first hw (by omega) ha hr (fun j hj => hall j (by omega))]; exact ⟨rfl, by rw [hG5.2]; simp⟩⟩
              ·
                try replace hb := of_decide_eq_false hb
                have hGn : G H first (bitsS p ||| 1 <<< i) (nextL H last i) = none := by
                  rw [← hb2]
                  cases hg : G H first (bitsS (p ++ [i])) (nextL H last i) with
                  | none => rfl
                  | some r => rw [hg] at hG5; exact absurd hG5.1 (by rw [hb]; simp)
                refine wc_skip ?_
                refine wk_blk_norm ?_
                refine wk_norm ?_
                refine wc_region ?_
                refine wl_move (by decide) rfl ?_
                refine wl_add (by decide) rfl rfl (w64 (by omega) (by omega)) ?_
                refine wl_assign (by decide) rfl ?_
                refine wl_nil ?_
                refine wk_norm ?_
                refine wk_drop [(0, .pointer (some ⟨gT, 0, none⟩)), (1, .slice A0 H.length c0), (2, .slice A1 first.length c1), (3, .slice B (nats p).length d), (4, .int .i64 last), (12, .pointer (some ⟨gs12, 0, none⟩)), (14, .slice A14 (valueOf H first last).length c14), (15, .int .i64 ((i + 1) : Int))] ⟨rfl, rfl, rfl, rfl, rfl, rfl, rfl, rfl, trivial⟩ (hKL2 _ _ (m2 := H.length - (i + 1)) ?_ ?_)
                ·
                  refine ⟨(i + 1), Fz5, T3, AT3, cT3, rfl, ?_, ?_, ?_, ?_, ?_, ?_, ?_, ?_, ?_, ?_, rfl⟩
                  · omega
                  · intro j hj hja
                    by_cases e : j = i
                    · subst e; exact hGn
                    · exact hall j (by omega) hja
                  · exact hM3
                  · intro t ht
                    rcases hT3 t ht with h1 | h1
                    · exact hT2 t h1
                    · exact .inr (by omega)
                  · exact hp
                  · exact h
                  · exact hf
                  · exact ho
                  · exact hfr
                  · exact hv
                · omega
        ·
          try replace hlt2 := of_decide_eq_false hlt2
          have hiH : i = H.length := by omega
          refine wc_exit ?_
          refine wk_then_exit ?_
          refine wk_then_exit ?_
          refine wk_blk_exit ?_
          refine wk_norm ?_
          refine wc_seq ?_
          obtain ⟨KM, ⟨hRo, hRk⟩, hKF, hKlt, hpo, hup⟩ := hp.apart (i := 2) rfl
          apply wc_drawTM 8 7 KM [SP.eq _, SP.eq _, SP.eq _, SP.eq _, SP.eq _, SP.eq _, SP.tmpR _ 73 2 1 [.int .i64 (bitsS p : Int), .int .i64 last], SP.turn KM _ 73 2 (T2.length + 1) (keysC T2 ++ [.int .i64 (bitsS p : Int), .int .i64 last])] (by kernel_rfl) (by kernel_rfl) ⟨.inr (fun _ _ _ _ h => h), .inr (fun _ _ _ _ h => h), .inr (fun _ _ _ _ h => h), .inr (fun _ _ _ _ h => h), .inr (fun _ _ _ _ h => h), .inr (fun _ _ _ _ h => h), .inr (SP.tmpR_st hKlt), .inl rfl, trivial⟩
          · refine ⟨?_, ?_, ?_, ?_, ?_, ?_, ?_, ?_, trivial⟩
            ·
              intro F wF hER hEE hk
              have e0 := hk.init 0 _ rfl (by kernel_rfl)
              refine wl_move (by decide) e0 ?_
              exact wl_nil (qr_some ⟨Chg.refl _ _, rfl⟩)
            ·
              intro F wF hER hEE hk
              have e0 := hk.init 0 _ rfl (by kernel_rfl)
              refine wl_move (by decide) e0 ?_
              exact wl_nil (qr_some ⟨Chg.refl _ _, rfl⟩)
            ·
              intro F wF hER hEE hk
              obtain ⟨u88, e88, h88⟩ := hk.pred 1 (by kernel_rfl) 88 rfl
              obtain rfl := h88
              refine wl_nilCheck (by decide) e88 ?_
              exact wl_nil (qr_some ⟨Chg.refl _ _, rfl⟩)
            ·
              intro F wF hER hEE hk
              obtain ⟨u89, e89, h89⟩ := hk.pred 2 (by kernel_rfl) 89 rfl
              obtain rfl := h89
              refine wl_fld' (o' := 0) (by decide) Try.fld66_0 e89 rfl ?_
              exact wl_nil (qr_some ⟨Chg.refl _ _, rfl⟩)
            ·
              intro F wF hER hEE hk
              obtain ⟨u90, e90, h90⟩ := hk.pred 3 (by kernel_rfl) 90 rfl
              obtain rfl := h90
              refine wl_hload (i := 1) (by decide) Try.sc64 e90 (hpo _ hER) rfl rfl ?_
              exact wl_nil (qr_some ⟨Chg.refl _ _, rfl⟩)
            ·
              intro F wF hER hEE hk
              have e12 := hk.init 12 _ rfl (by kernel_rfl)
              refine wl_hloadA (i := 0) (by decide) Try.ag73 e12 (hpo _ hER) rfl rfl ?_
              exact wl_nil (qr_some ⟨Chg.refl _ _, rfl⟩)
            ·
              intro F wF hER hEE hk
              obtain ⟨u92, e92, h92⟩ := hk.pred 5 (by kernel_rfl) 92 rfl
              obtain rfl := h92
              refine wl_bslice (size := 2) (xs := [.tmp 92]) (vs := [.agg #[.int .i64 (bitsS p : Int), .int .i64 last]]) (by decide) Try.sl64 rfl (by simp only [evs, ev, e92]; first | done | rfl) rfl (by intro v hv; rw [List.mem_singleton.1 hv]; rfl) (Nat.le_of_ble_eq_true rfl) 0 (Nat.zero_le _) ?_
              rintro gt wt hgt hot hEt
              exact wl_nil (qr_some ⟨hEt, gt, rfl, by rw [hgt]; exact hER.size, hot⟩)
            ·
              intro F wF hER hEE hk
              have hEx := hEE rfl
              obtain ⟨u91, e91, h91⟩ := hk.pred 4 (by kernel_rfl) 91 rfl
              obtain rfl := h91
              obtain ⟨u93, e93, h93⟩ := hk.pred 6 (by kernel_rfl) 93 rfl
              obtain ⟨gt, rfl, hgt0, hot⟩ := h93
              have hml := memo_len hM2
              refine wl_append (size := 2) (m := 1) (news := [.int .i64 (bitsS p : Int), .int .i64 last]) (by decide) Try.sl64 e91 e93 (hRo.ext hEx) (by simp) (fun b hb => by cases hb; exact hot.at0) (by simp) (List.all_eq_true.1 rfl) (by omega) (Nat.zero_le _) ?_
              rintro A3 c3 w3 ho3 hch3 h43
              exact wl_nil (qr_some ⟨hch3.weak (fun b _ x => (hRk b).2 ⟨x.1, x.2.2⟩), A3, c3, rfl, ho3, fun b hb => (by
                  rcases h43 with ⟨rfl, rfl⟩ | rfl
                  · exact .inl ((hRk b).2 hb)
                  · obtain ⟨_, a, ha, rfl⟩ := hb
                    cases ha
                    exact .inr hEx.size)⟩)
          ·
            intro F wD hED hini hdo
            obtain ⟨u87, e87, h87⟩ := hdo 0 87 (Nat.lt_of_lt_of_eq (by decide) rfl) rfl
            obtain rfl := h87
            obtain ⟨u94, e94, h94⟩ := hdo 7 94 (Nat.lt_of_lt_of_eq (by decide) rfl) rfl
            obtain ⟨A3, c3, rfl, ho3, hK3⟩ := h94
            refine wl_drop [(87, _), (94, _)] ⟨e87, e94, trivial⟩ ?_
            clear e87 e94 hini hdo
            replace h := h.fz (hED.weak (fun b _ hb => hKF b hb))
            replace hf := hf.fz (hED.weak (fun b _ hb => hKF b hb))
            replace ho := ho.fz (hED.weak (fun b _ hb => hKF b hb))
            replace hfr := hfr.fz (hED.weak (fun b _ hb => hKF b hb))
            replace hv := hv.fz (hED.weak (fun b _ hb => hKF b hb))
            replace hp := hup _ (itR 73 2 A3 (T2.length + 1) c3 (keysC T2 ++ [.int .i64 (bitsS p : Int), .int .i64 last])) (fun b => c3 ≠ 0 ∧ blk A3 b) hED ⟨ho3, fun _ => Iff.rfl⟩ hK3
            refine wl_nilCheck (by decide) rfl ?_
            refine wl_fld' (o' := 0) (by decide) Try.fld66_0 rfl rfl ?_
            refine wl_hstore (i := 1) rfl rfl hp rfl Try.sz64 (Nat.le_of_ble_eq_true rfl) (List.all_eq_true.1 rfl) ?_
            rintro w3 hp3 hC3
            replace h := h.fz hC3
            replace hf := hf.fz hC3
            replace ho := ho.fz hC3
            replace hfr := hfr.fz hC3
            replace hv := hv.fz hC3
            replace hp := hp3
            refine wl_nil ?_
            refine wk_norm ?_
            refine wc_seq ?_
            refine wc_region ?_
            refine wl_assign (by decide) rfl ?_
            refine wl_assign (by decide) rfl ?_
            refine wl_nil ?_
            refine wk_norm ?_
            refine wc_ret ?_
            refine wk_post2 (.inl rfl) Try.results34 rfl rfl ?_
            have hg : G H first (bitsS p) last = none := G_none H first hw (fun j hj => hall j (by omega))
            have e1 : (T2 ++ [(bitsS p, last)]).length = T2.length + 1 := by simp
            have e2 : keysC (T2 ++ [(bitsS p, last)]) = keysC T2 ++ [.int .i64 (bitsS p : Int), .int .i64 last] := keysC_snoc _ _
            have hbb := bitsS_lt hP
            have hbb2 : bitsS p < 16384 := Nat.lt_of_lt_of_le hbb (Nat.le_trans (Nat.pow_le_pow_right (by omega) hl14) (by decide))
            have hLL := hL.1
            have hLU := hL.2
            have hMn : MemoK H first (T2 ++ [(bitsS p, last)]) := by
              refine ⟨List.nodup_append.2 ⟨hM2.1, by simp, fun a ha b hb => ?_⟩, fun t ht => ?_⟩
              · rw [List.mem_singleton.1 hb]
                rintro rfl
                rcases hT2 _ ha with h1 | h1
                · exact hkT h1
                · exact Nat.lt_irrefl _ h1
              · rcases List.mem_append.1 ht with h1 | h1
                · exact hM2.2 t h1
                · rw [List.mem_singleton.1 h1]
                  exact ⟨hg, hbb2, hLL, by omega⟩
            refine ⟨_, rfl, none, 0, [], false, T2 ++ [(bitsS p, last)], A3, c3, Fz2, rfl, by rw [e1, e2]; exact hp.tail, hfr.sub, hfr.chg, GS.nil _ _ _ _ _, hMn, fun t ht => ?_, by rw [hg]; exact ⟨rfl, rfl⟩⟩
            rcases List.mem_append.1 ht with h1 | h1
            · exact (hT2 t h1).elim .inl (fun h2 => .inr (by omega))
            · rw [List.mem_singleton.1 h1]; exact .inr (Nat.le_refl _)

end Go.Proofs.Ytnlpibfdobinoaa
