/- Hlp (printed by program: wip/gen) -/
import Derived.Test.YtnlpibfdobinoaaFacts
import Derived.Test.YtnlpibfdobinoaaPlain
namespace Go.Proofs.Ytnlpibfdobinoaa
open Go.RowKit Go.Eng

theorem eqBytes_ok {A B : Option Addr} {c d : Nat} {la lb : List UInt8} {Sa Sb : Nat → Prop} {w : World} (ha : BS Sa w A c la) (hb : BS Sb w B d lb) : Ret Try.prog 22 #[.slice A la.length c, .slice B lb.length d] w (fun v w' => v = .bool (decide (la = lb)) ∧ Ext w w') := by
  refine ret_of_wk Try.func22 rfl Try.ntmps22 (Nat.le_of_ble_eq_true rfl) ?_
  refine wc_seq ?_
  refine wc_region ?_
  refine wl_assign (by decide) rfl ?_
  refine wl_nil ?_
  refine wk_norm ?_
  refine wc_seq ?_
  refine wc_seq ?_
  refine wc_region ?_
  refine wl_move (by decide) rfl ?_
  refine wl_len (by decide) Try.underlying23 rfl ?_
  refine wl_move (by decide) rfl ?_
  refine wl_len (by decide) Try.underlying23 rfl ?_
  refine wl_neq (by decide) rfl rfl ?_
  refine wl_nil ?_
  refine wk_norm ?_
  refine wc_cond rfl (fun hne => ?_) (fun hne => ?_)
  ·
    try replace hne := of_decide_eq_true hne
    refine wc_seq ?_
    refine wc_region ?_
    refine wl_assign (by decide) rfl ?_
    refine wl_nil ?_
    refine wk_norm ?_
    refine wc_ret ?_
    refine wk_then_ret ?_
    refine wk_post1 (.inl rfl) Try.results22 rfl ?_
    exact ⟨_, rfl, bool_f (fun e => hne (by rw [e])), Chg.refl _ _⟩
  ·
    try replace hne := of_decide_eq_false hne
    have hll : la.length = lb.length := by omega
    refine wc_skip ?_
    refine wk_norm ?_
    refine wc_seq ?_
    refine wc_seq ?_
    refine wc_region ?_
    refine wl_assign (by decide) rfl ?_
    refine wl_nil ?_
    refine wk_norm ?_
    refine wc_block ?_
    refine wc_loop (fun L' w' mes => ∃ (k : Nat), L' = [(0, .slice A la.length c), (1, .slice B lb.length d), (5, .int .i64 (k : Int))] ∧ (k ≤ la.length) ∧ (la.take k = lb.take k) ∧ (Ext w w') ∧ la.length - k = mes) [(0, .slice A la.length c), (1, .slice B lb.length d), (5, .int .i64 (0 : Int))] (la.length - 0) (by
        refine ⟨0, rfl, ?_, ?_, ?_, rfl⟩
        · omega
        · simp
        · exact Chg.refl _ _) ⟨rfl, rfl, rfl, trivial⟩ ?_
    rintro _ wr _ ⟨k, rfl, hk, htk, hE, rfl⟩ KL1 hKL1
    have hmx := ha.mx
    refine wc_seq ?_
    refine wc_seq ?_
    refine wc_region ?_
    refine wl_move (by decide) rfl ?_
    refine wl_move (by decide) rfl ?_
    refine wl_len (by decide) Try.underlying23 rfl ?_
    refine wl_lss (by decide) rfl rfl ?_
    refine wl_nil ?_
    refine wk_norm ?_
    refine wc_cond rfl (fun hlt => ?_) (fun hlt => ?_)
    ·
      try replace hlt := of_decide_eq_true hlt
      refine wc_skip ?_
      refine wk_norm ?_
      refine wc_seq ?_
      refine wc_block ?_
      refine wc_seq ?_
      refine wc_drawL [SP.eq (.slice A la.length c), SP.eq (.int .i64 (k : Int)), SP.ptr (fun _ => True) [bv (la[k]'(by omega))], SP.eq (bv (la[k]'(by omega))), SP.eq (.slice B lb.length d), SP.eq (.int .i64 (k : Int)), SP.ptr (fun _ => True) [bv (lb[k]'(by omega))], SP.eq (bv (lb[k]'(by omega))), SP.eq (.bool (decide (((la[k]'(by omega)).toNat : Int) ≠ ((lb[k]'(by omega)).toNat : Int))))] (by kernel_rfl) (by kernel_rfl) ⟨?_, ?_, ?_, ?_, ?_, ?_, ?_, ?_, ?_, trivial⟩ ?_
      ·
        intro F wF hER hk
        have e0 := hk.init 0 _ rfl (by kernel_rfl)
        refine wl_move (by decide) e0 ?_
        exact wl_nil (qr_some ⟨Chg.refl _ _, rfl⟩)
      ·
        intro F wF hER hk
        have e5 := hk.init 5 _ rfl (by kernel_rfl)
        refine wl_move (by decide) e5 ?_
        exact wl_nil (qr_some ⟨Chg.refl _ _, rfl⟩)
      ·
        intro F wF hER hk
        obtain ⟨u17, e17, h17⟩ := hk.pred 0 (by kernel_rfl) 17 rfl
        obtain rfl := h17
        obtain ⟨u18, e18, h18⟩ := hk.pred 1 (by kernel_rfl) 18 rfl
        obtain rfl := h18
        refine wl_idx (by decide) Try.sl23 e17 e18 ((ha.ext hE).ext hER) k rfl (by omega) ?_
        rintro a cs hb1 _ hat rfl
        exact wl_nil (qr_some ⟨Chg.refl _ _, a, rfl, hb1, trivial, hat⟩)
      ·
        intro F wF hER hk
        obtain ⟨u19, e19, h19⟩ := hk.pred 2 (by kernel_rfl) 19 rfl
        obtain ⟨a19, rfl, _, _, hat19⟩ := h19
        refine wl_load (by decide) Try.sc5 e19 hat19.head ?_
        exact wl_nil (qr_some ⟨Chg.refl _ _, rfl⟩)
      ·
        intro F wF hER hk
        have e1 := hk.init 1 _ rfl (by kernel_rfl)
        refine wl_move (by decide) e1 ?_
        exact wl_nil (qr_some ⟨Chg.refl _ _, rfl⟩)
      ·
        intro F wF hER hk
        have e5 := hk.init 5 _ rfl (by kernel_rfl)
        refine wl_move (by decide) e5 ?_
        exact wl_nil (qr_some ⟨Chg.refl _ _, rfl⟩)
      ·
        intro F wF hER hk
        obtain ⟨u21, e21, h21⟩ := hk.pred 4 (by kernel_rfl) 21 rfl
        obtain rfl := h21
        obtain ⟨u22, e22, h22⟩ := hk.pred 5 (by kernel_rfl) 22 rfl
        obtain rfl := h22
        refine wl_idx (by decide) Try.sl23 e21 e22 ((hb.ext hE).ext hER) k rfl (by omega) ?_
        rintro a cs hb1 _ hat rfl
        exact wl_nil (qr_some ⟨Chg.refl _ _, a, rfl, hb1, trivial, hat⟩)
      ·
        intro F wF hER hk
        obtain ⟨u23, e23, h23⟩ := hk.pred 6 (by kernel_rfl) 23 rfl
        obtain ⟨a23, rfl, _, _, hat23⟩ := h23
        refine wl_load (by decide) Try.sc5 e23 hat23.head ?_
        exact wl_nil (qr_some ⟨Chg.refl _ _, rfl⟩)
      ·
        intro F wF hER hk
        obtain ⟨u20, e20, h20⟩ := hk.pred 3 (by kernel_rfl) 20 rfl
        obtain rfl := h20
        obtain ⟨u24, e24, h24⟩ := hk.pred 7 (by kernel_rfl) 24 rfl
        obtain rfl := h24
        refine wl_neq (by decide) e20 e24 ?_
        exact wl_nil (qr_some ⟨Chg.refl _ _, rfl⟩)
      ·
        intro F wD hED hini hdo
        have e0 := hini 0 _ rfl (by kernel_rfl)
        have e1 := hini 1 _ rfl (by kernel_rfl)
        have e5 := hini 5 _ rfl (by kernel_rfl)
        obtain ⟨u25, e25, h25⟩ := hdo 8 25 rfl
        obtain rfl := h25
        refine wk_drop [(0, _), (1, _), (5, _), (25, _)] ⟨e0, e1, e5, e25, trivial⟩ ?_
        clear e0 e1 e5 e25 hini hdo
        refine wk_norm ?_
        refine wc_cond rfl (fun hne2 => ?_) (fun hne2 => ?_)
        ·
          try replace hne2 := of_decide_eq_true hne2
          refine wc_seq ?_
          refine wc_region ?_
          refine wl_assign (by decide) rfl ?_
          refine wl_nil ?_
          refine wk_norm ?_
          refine wc_ret ?_
          refine wk_blk_ret ?_
          refine wk_then_ret ?_
          refine wk_then_ret ?_
          refine wk_blk_ret ?_
          refine wk_then_ret ?_
          refine wk_post1 (.inl rfl) Try.results22 rfl ?_
          exact ⟨_, rfl, bool_f (fun e => hne2 (by subst e; rfl)), hE.trans hED⟩
        ·
          try replace hne2 := of_decide_eq_false hne2
          refine wc_skip ?_
          refine wk_blk_norm ?_
          refine wk_norm ?_
          refine wc_region ?_
          refine wl_move (by decide) rfl ?_
          refine wl_add (by decide) rfl rfl (w64 (by omega) (by omega)) ?_
          refine wl_assign (by decide) rfl ?_
          refine wl_nil ?_
          refine wk_norm ?_
          refine wk_drop [(0, .slice A la.length c), (1, .slice B lb.length d), (5, .int .i64 ((k + 1) : Int))] ⟨rfl, rfl, rfl, trivial⟩ (hKL1 _ _ (m2 := la.length - (k + 1)) ?_ ?_)
          ·
            refine ⟨(k + 1), rfl, ?_, ?_, ?_, rfl⟩
            · omega
            · rw [← List.take_append_getElem (by omega : k < la.length), ← List.take_append_getElem (by omega : k < lb.length), htk, UInt8.toNat_inj.1 (by omega : la[k].toNat = lb[k].toNat)]
            · exact hE.trans hED
          · omega
    ·
      try replace hlt := of_decide_eq_false hlt
      have hkl : k = la.length := by omega
      refine wc_exit ?_
      refine wk_then_exit ?_
      refine wk_then_exit ?_
      refine wk_blk_exit ?_
      refine wk_norm ?_
      refine wc_seq ?_
      refine wc_region ?_
      refine wl_assign (by decide) rfl ?_
      refine wl_nil ?_
      refine wk_norm ?_
      refine wc_ret ?_
      refine wk_post1 (.inl rfl) Try.results22 rfl ?_
      exact ⟨_, rfl, bool_t (by rw [hkl, List.take_length, hll, List.take_length] at htk; exact htk), hE⟩

theorem copyBytes_ok {A : Option Addr} {c : Nat} {l : List UInt8} {Sa : Nat → Prop} {w : World} (h : BS Sa w A c l) : Ret Try.prog 11 #[.slice A l.length c] w (fun v w' => ∃ A' c', v = .slice A' l.length c' ∧ OwnB 5 w.heap.size w' A' c' l ∧ Ext w w') := by
  refine ret_of_wk Try.func11 rfl Try.ntmps11 (Nat.le_of_ble_eq_true rfl) ?_
  refine wc_seq ?_
  refine wc_region ?_
  refine wl_assign (by decide) rfl ?_
  refine wl_nil ?_
  refine wk_norm ?_
  refine wc_seq ?_
  refine wc_region ?_
  refine wl_assign (by decide) rfl ?_
  refine wl_nil ?_
  refine wk_norm ?_
  refine wc_seq ?_
  refine wc_region ?_
  refine wl_move (by decide) rfl ?_
  refine wl_move (by decide) rfl ?_
  refine wl_appendB (l := []) (by decide) Try.sl23 rfl rfl (OwnRow.nil _ _ _ _ _) h (by have := h.mx; simp; omega) (Nat.le_refl _) ?_
  rintro A1 c1 w1 ho ch _
  refine wl_assign (by decide) rfl ?_
  refine wl_nil ?_
  refine wk_norm ?_
  refine wc_seq ?_
  refine wc_region ?_
  refine wl_move (by decide) rfl ?_
  refine wl_assign (by decide) rfl ?_
  refine wl_nil ?_
  refine wk_norm ?_
  refine wc_ret ?_
  refine wk_post1 (.inl rfl) Try.results11 rfl ?_
  exact ⟨_, rfl, A1, c1, rfl, ho, ch.off (fun _ _ x => absurd rfl x.1)⟩

theorem bring_ok {i n : Int} {w : World} (h1 : -9223372036854775808 ≤ i) (h2 : i ≤ 9223372036854775807) (h3 : -9223372036854775808 ≤ n) (h4 : n ≤ 9223372036854775807) : Ret Try.prog 25 #[.int .i64 i, .int .i64 n] w (fun v w' => v = .int .i64 (brg i n) ∧ w' = w) := by
  refine ret_of_wk Try.func25 rfl Try.ntmps25 (Nat.le_of_ble_eq_true rfl) ?_
  refine wc_seq ?_
  refine wc_region ?_
  refine wl_assign (by decide) rfl ?_
  refine wl_nil ?_
  refine wk_norm ?_
  refine wc_seq ?_
  refine wc_seq ?_
  refine wc_region ?_
  refine wl_move (by decide) rfl ?_
  refine wl_leq (by decide) rfl rfl ?_
  refine wl_nil ?_
  refine wk_norm ?_
  refine wc_cond rfl (fun hn => ?_) (fun hn => ?_)
  ·
    try replace hn := of_decide_eq_true hn
    refine wc_seq ?_
    refine wc_region ?_
    refine wl_assign (by decide) rfl ?_
    refine wl_nil ?_
    refine wk_norm ?_
    refine wc_ret ?_
    refine wk_then_ret ?_
    refine wk_post1 (.inl rfl) Try.results25 rfl ?_
    exact ⟨_, rfl, by rw [brg, if_pos hn], rfl⟩
  ·
    try replace hn := of_decide_eq_false hn
    refine wc_skip ?_
    refine wk_norm ?_
    refine wc_seq ?_
    refine wc_region ?_
    refine wl_move (by decide) rfl ?_
    refine wl_move (by decide) rfl ?_
    refine wl_rem (by decide) rfl rfl (by omega) rfl ?_
    have ht1 : -n < i.tmod n := by have := Int.lt_tmod_of_pos i (show 0 < n by omega); omega
    have ht2 : i.tmod n < n := Int.tmod_lt_of_pos i (by omega)
    refine wl_assign (by decide) rfl ?_
    refine wl_nil ?_
    refine wk_norm ?_
    refine wc_seq_cut (fun L' w' => L' = [(0, .int .i64 (brg i n))] ∧ (w = w')) (fun K hK => ?_) ?_
    ·
      refine wc_seq ?_
      refine wc_region ?_
      refine wl_move (by decide) rfl ?_
      refine wl_lss (by decide) rfl rfl ?_
      refine wl_nil ?_
      refine wk_norm ?_
      refine wc_cond rfl (fun hneg => ?_) (fun hneg => ?_)
      ·
        try replace hneg := of_decide_eq_true hneg
        refine wc_region ?_
        refine wl_move (by decide) rfl ?_
        refine wl_move (by decide) rfl ?_
        refine wl_add (by decide) rfl rfl (w64 (by omega) (by omega)) ?_
        refine wl_assign (by decide) rfl ?_
        refine wl_nil ?_
        refine wk_norm ?_
        refine wk_drop [(0, .int .i64 (brg i n))] ⟨(by rw [brg_tmod i n (by omega), if_pos hneg]; rfl), trivial⟩ (hK _ _ ?_)
        refine ⟨rfl, ?_⟩
        · rfl
      ·
        try replace hneg := of_decide_eq_false hneg
        refine wc_skip ?_
        refine wk_norm ?_
        refine wk_drop [(0, .int .i64 (brg i n))] ⟨(by rw [brg_tmod i n (by omega), if_neg hneg]; rfl), trivial⟩ (hK _ _ ?_)
        refine ⟨rfl, ?_⟩
        · rfl
    ·
      rintro _ w2 ⟨rfl, hw⟩
      subst hw
      refine wc_seq ?_
      refine wc_region ?_
      refine wl_move (by decide) rfl ?_
      refine wl_assign (by decide) rfl ?_
      refine wl_nil ?_
      refine wk_norm ?_
      refine wc_ret ?_
      refine wk_post1 (.inl rfl) Try.results25 rfl ?_
      exact ⟨_, rfl, rfl, rfl⟩

end Go.Proofs.Ytnlpibfdobinoaa
