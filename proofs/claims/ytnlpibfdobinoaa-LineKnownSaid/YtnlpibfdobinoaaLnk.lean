/- Lnk (printed by program: wip/gen) -/
import Derived.Test.YtnlpibfdobinoaaHlp
import Derived.Test.YtnlpibfdobinoaaBit
import Derived.Test.YtnlpibfdobinoaaDrh
import Derived.Test.YtnlpibfdobinoaaSep
import Derived.Test.YtnlpibfdobinoaaTxt
namespace Go.Proofs.Ytnlpibfdobinoaa
open Go.RowKit Go.Eng

/-- An operation of a history, as it lies in memory. -/
def opR : Rep HOp where
  size := 4
  rd := fun S w cs x => ∃ A c, cs = [.bool x.wr, .slice A x.val.length c, .int .i64 x.b, .int .i64 x.e] ∧ GS byteR S w A c x.val
  len := by rintro _ _ _ _ ⟨_, _, rfl, _⟩; rfl
  one := by
    rintro _ _ _ _ ⟨_, _, rfl, _⟩ u hu
    simp only [List.mem_cons, List.not_mem_nil, or_false] at hu
    rcases hu with rfl | rfl | rfl | rfl <;> rfl
  keep := by rintro _ _ _ _ _ _ ch hm ⟨A, c, rfl, h⟩; exact ⟨A, c, rfl, h.keep ch hm⟩
  mono := by rintro _ _ _ _ _ hs ⟨A, c, rfl, h⟩; exact ⟨A, c, rfl, h.mono hs⟩
abbrev HS (S : Nat → Prop) (w : World) (A : Option Addr) (c : Nat) (H : List HOp) : Prop := GS opR S w A c H
theorem HS.el {S : Nat → Prop} {w : World} {A : Option Addr} {c : Nat} {H : List HOp} (h : HS S w A c H) (i : Nat) (hi : i < H.length) :
    ∃ a B d, A = some a ∧ AtF S w (a.add (i * 4)) [.bool (hop H i).wr, .slice B (hop H i).val.length d, .int .i64 (hop H i).b, .int .i64 (hop H i).e] ∧ BS S w B d (hop H i).val := by
  obtain ⟨a, cs, h1, h2, B, d, rfl, h3⟩ := GS.el h i hi
  rw [hop_get H hi]
  exact ⟨a, B, d, h1, h2, h3⟩
abbrev IS (S : Nat → Prop) (w : World) (A : Option Addr) (c : Nat) (l : List Int) : Prop := GS intR S w A c l

theorem eqInts_ok {A B : Option Addr} {c d : Nat} {la lb : List Int} {Sa Sb : Nat → Prop} {w : World} (ha : IS Sa w A c la) (hb : IS Sb w B d lb) : Ret Try.prog 21 #[.slice A la.length c, .slice B lb.length d] w (fun v w' => v = .bool (decide (la = lb)) ∧ Ext w w') := by
  refine ret_of_wk Try.func21 rfl Try.ntmps21 (Nat.le_of_ble_eq_true rfl) ?_
  refine wc_seq ?_
  refine wc_region ?_
  refine wl_assign (by decide) rfl ?_
  refine wl_nil ?_
  refine wk_norm ?_
  refine wc_seq ?_
  refine wc_seq ?_
  refine wc_region ?_
  refine wl_move (by decide) rfl ?_
  refine wl_len (by decide) Try.underlying33 rfl ?_
  refine wl_move (by decide) rfl ?_
  refine wl_len (by decide) Try.underlying33 rfl ?_
  refine wl_neq (by decide) rfl rfl ?_
  refine wl_nil ?_
  refine wk_norm ?_
  refine wc_cond rfl (fun hne => ?_) (fun hne => ?_)
  ·
    try replace hne := of_decide_eq_true hne
    refine wc_seq ?_
    refine wc_region ?_
    refine wl_assign (by decide) rfl ?_
    refine wl_nil ?_
    refine wk_norm ?_
    refine wc_ret ?_
    refine wk_then_ret ?_
    refine wk_post1 (.inl rfl) Try.results21 rfl ?_
    exact ⟨_, rfl, bool_f (fun e => hne (by rw [e])), Chg.refl _ _⟩
  ·
    try replace hne := of_decide_eq_false hne
    have hll : la.length = lb.length := by omega
    refine wc_skip ?_
    refine wk_norm ?_
    refine wc_seq ?_
    refine wc_seq ?_
    refine wc_region ?_
    refine wl_assign (by decide) rfl ?_
    refine wl_nil ?_
    refine wk_norm ?_
    refine wc_block ?_
    refine wc_loop (fun L' w' mes => ∃ (k : Nat), L' = [(0, .slice A la.length c), (1, .slice B lb.length d), (5, .int .i64 (k : Int))] ∧ (k ≤ la.length) ∧ (la.take k = lb.take k) ∧ (Ext w w') ∧ la.length - k = mes) [(0, .slice A la.length c), (1, .slice B lb.length d), (5, .int .i64 (0 : Int))] (la.length - 0) (by
        refine ⟨0, rfl, ?_, ?_, ?_, rfl⟩
        · omega
        · simp
        · exact Chg.refl _ _) ⟨rfl, rfl, rfl, trivial⟩ ?_
    rintro _ wr _ ⟨k, rfl, hk, htk, hE, rfl⟩ KL1 hKL1
    have hmx := ha.mx
    refine wc_seq ?_
    refine wc_seq ?_
    refine wc_region ?_
    refine wl_move (by decide) rfl ?_
    refine wl_move (by decide) rfl ?_
    refine wl_len (by decide) Try.underlying33 rfl ?_
    refine wl_lss (by decide) rfl rfl ?_
    refine wl_nil ?_
    refine wk_norm ?_
    refine wc_cond rfl (fun hlt => ?_) (fun hlt => ?_)
    ·
      try replace hlt := of_decide_eq_true hlt
      obtain ⟨aL, hAL, hatL⟩ := GS.el1 (ha.ext hE) k (by omega)
      obtain ⟨aR, hAR, hatR⟩ := GS.el1 (hb.ext hE) k (by omega)
      refine wc_skip ?_
      refine wk_norm ?_
      refine wc_seq ?_
      refine wc_block ?_
      refine wc_seq ?_
      apply wc_drawL [SP.eq _, SP.eq _, SP.eq _, SP.eq _, SP.eq _, SP.eq _, SP.eq _, SP.eq _, SP.eq _] (by kernel_rfl) (by kernel_rfl)
      · refine ⟨?_, ?_, ?_, ?_, ?_, ?_, ?_, ?_, ?_, trivial⟩
        ·
          intro F wF hER hk
          have e0 := hk.init 0 _ rfl (by kernel_rfl)
          refine wl_move (by decide) e0 ?_
          exact wl_nil (qr_some ⟨Chg.refl _ _, rfl⟩)
        ·
          intro F wF hER hk
          have e5 := hk.init 5 _ rfl (by kernel_rfl)
          refine wl_move (by decide) e5 ?_
          exact wl_nil (qr_some ⟨Chg.refl _ _, rfl⟩)
        ·
          intro F wF hER hk
          obtain ⟨u17, e17, h17⟩ := hk.pred 0 (by kernel_rfl) 17 rfl
          obtain rfl := h17
          obtain ⟨u18, e18, h18⟩ := hk.pred 1 (by kernel_rfl) 18 rfl
          obtain rfl := h18
          refine wl_idx0 (by decide) Try.sl33 e17 e18 hAL k rfl (by omega) ?_
          exact wl_nil (qr_some ⟨Chg.refl _ _, rfl⟩)
        ·
          intro F wF hER hk
          obtain ⟨u19, e19, h19⟩ := hk.pred 2 (by kernel_rfl) 19 rfl
          obtain rfl := h19
          refine wl_load (by decide) Try.sc3 e19 (hatL.ext hER).head ?_
          exact wl_nil (qr_some ⟨Chg.refl _ _, rfl⟩)
        ·
          intro F wF hER hk
          have e1 := hk.init 1 _ rfl (by kernel_rfl)
          refine wl_move (by decide) e1 ?_
          exact wl_nil (qr_some ⟨Chg.refl _ _, rfl⟩)
        ·
          intro F wF hER hk
          have e5 := hk.init 5 _ rfl (by kernel_rfl)
          refine wl_move (by decide) e5 ?_
          exact wl_nil (qr_some ⟨Chg.refl _ _, rfl⟩)
        ·
          intro F wF hER hk
          obtain ⟨u21, e21, h21⟩ := hk.pred 4 (by kernel_rfl) 21 rfl
          obtain rfl := h21
          obtain ⟨u22, e22, h22⟩ := hk.pred 5 (by kernel_rfl) 22 rfl
          obtain rfl := h22
          refine wl_idx0 (by decide) Try.sl33 e21 e22 hAR k rfl (by omega) ?_
          exact wl_nil (qr_some ⟨Chg.refl _ _, rfl⟩)
        ·
          intro F wF hER hk
          obtain ⟨u23, e23, h23⟩ := hk.pred 6 (by kernel_rfl) 23 rfl
          obtain rfl := h23
          refine wl_load (by decide) Try.sc3 e23 (hatR.ext hER).head ?_
          exact wl_nil (qr_some ⟨Chg.refl _ _, rfl⟩)
        ·
          intro F wF hER hk
          obtain ⟨u20, e20, h20⟩ := hk.pred 3 (by kernel_rfl) 20 rfl
          obtain rfl := h20
          obtain ⟨u24, e24, h24⟩ := hk.pred 7 (by kernel_rfl) 24 rfl
          obtain rfl := h24
          refine wl_neq (by decide) e20 e24 ?_
          exact wl_nil (qr_some ⟨Chg.refl _ _, rfl⟩)
      ·
        intro F wD hED hini hdo
        have e0 := hini 0 _ rfl (by kernel_rfl)
        have e1 := hini 1 _ rfl (by kernel_rfl)
        have e5 := hini 5 _ rfl (by kernel_rfl)
        obtain ⟨u25, e25, h25⟩ := hdo 8 25 rfl
        obtain rfl := h25
        refine wk_drop [(0, _), (1, _), (5, _), (25, _)] ⟨e0, e1, e5, e25, trivial⟩ ?_
        clear e0 e1 e5 e25 hini hdo
        refine wk_norm ?_
        refine wc_cond rfl (fun hne2 => ?_) (fun hne2 => ?_)
        ·
          try replace hne2 := of_decide_eq_true hne2
          refine wc_seq ?_
          refine wc_region ?_
          refine wl_assign (by decide) rfl ?_
          refine wl_nil ?_
          refine wk_norm ?_
          refine wc_ret ?_
          refine wk_blk_ret ?_
          refine wk_then_ret ?_
          refine wk_then_ret ?_
          refine wk_blk_ret ?_
          refine wk_then_ret ?_
          refine wk_post1 (.inl rfl) Try.results21 rfl ?_
          exact ⟨_, rfl, bool_f (fun e => hne2 (by subst e; rfl)), hE.trans hED⟩
        ·
          try replace hne2 := of_decide_eq_false hne2
          refine wc_skip ?_
          refine wk_blk_norm ?_
          refine wk_norm ?_
          refine wc_region ?_
          refine wl_move (by decide) rfl ?_
          refine wl_add (by decide) rfl rfl (w64 (by omega) (by omega)) ?_
          refine wl_assign (by decide) rfl ?_
          refine wl_nil ?_
          refine wk_norm ?_
          refine wk_drop [(0, .slice A la.length c), (1, .slice B lb.length d), (5, .int .i64 ((k + 1) : Int))] ⟨rfl, rfl, rfl, trivial⟩ (hKL1 _ _ (m2 := la.length - (k + 1)) ?_ ?_)
          ·
            refine ⟨(k + 1), rfl, ?_, ?_, ?_, rfl⟩
            · omega
            · rw [← List.take_append_getElem (by omega : k < la.length), ← List.take_append_getElem (by omega : k < lb.length), htk, show la[k] = lb[k] by omega]
            · exact hE.trans hED
          · omega
    ·
      try replace hlt := of_decide_eq_false hlt
      have hkl : k = la.length := by omega
      refine wc_exit ?_
      refine wk_then_exit ?_
      refine wk_then_exit ?_
      refine wk_blk_exit ?_
      refine wk_norm ?_
      refine wc_seq ?_
      refine wc_region ?_
      refine wl_assign (by decide) rfl ?_
      refine wl_nil ?_
      refine wk_norm ?_
      refine wc_ret ?_
      refine wk_post1 (.inl rfl) Try.results21 rfl ?_
      exact ⟨_, rfl, bool_t (by rw [hkl, List.take_length, hll, List.take_length] at htk; exact htk), hE⟩

theorem has_ok {A : Option Addr} {c : Nat} {l : List Int} {i : Int} {S : Nat → Prop} {w : World} (h : IS S w A c l) : Ret Try.prog 40 #[.slice A l.length c, .int .i64 i] w (fun v w' => v = .bool (decide (i ∈ l)) ∧ Ext w w') := by
  refine ret_of_wk Try.func40 rfl Try.ntmps40 (Nat.le_of_ble_eq_true rfl) ?_
  refine wc_seq ?_
  refine wc_region ?_
  refine wl_assign (by decide) rfl ?_
  refine wl_nil ?_
  refine wk_norm ?_
  refine wc_seq ?_
  refine wc_seq ?_
  refine wc_region ?_
  refine wl_assign (by decide) rfl ?_
  refine wl_nil ?_
  refine wk_norm ?_
  refine wc_block ?_
  refine wc_loop (fun L' w' mes => ∃ (k : Nat), L' = [(0, .slice A l.length c), (1, .int .i64 i), (5, .int .i64 (k : Int))] ∧ (k ≤ l.length) ∧ (i ∉ l.take k) ∧ (w = w') ∧ l.length - k = mes) [(0, .slice A l.length c), (1, .int .i64 i), (5, .int .i64 (0 : Int))] (l.length - 0) (by
      refine ⟨0, rfl, ?_, ?_, ?_, rfl⟩
      · omega
      · simp
      · rfl) ⟨rfl, rfl, rfl, trivial⟩ ?_
  rintro _ wr _ ⟨k, rfl, hk, hno, hw, rfl⟩ KL1 hKL1
  subst hw
  have hmx := h.mx
  refine wc_seq ?_
  refine wc_seq ?_
  refine wc_region ?_
  refine wl_move (by decide) rfl ?_
  refine wl_move (by decide) rfl ?_
  refine wl_len (by decide) Try.underlying33 rfl ?_
  refine wl_lss (by decide) rfl rfl ?_
  refine wl_nil ?_
  refine wk_norm ?_
  refine wc_cond rfl (fun hlt => ?_) (fun hlt => ?_)
  ·
    try replace hlt := of_decide_eq_true hlt
    obtain ⟨aL, hAL, hatL⟩ := GS.el1 h k (by omega)
    refine wc_skip ?_
    refine wk_norm ?_
    refine wc_seq ?_
    refine wc_block ?_
    refine wc_seq ?_
    refine wc_region ?_
    refine wl_move (by decide) rfl ?_
    refine wl_move (by decide) rfl ?_
    refine wl_idx0 (by decide) Try.sl33 rfl rfl hAL k rfl (by omega) ?_
    refine wl_load (by decide) Try.sc3 rfl hatL.head ?_
    refine wl_move (by decide) rfl ?_
    refine wl_eql (by decide) rfl rfl ?_
    refine wl_nil ?_
    refine wk_norm ?_
    refine wc_cond rfl (fun he => ?_) (fun he => ?_)
    ·
      try replace he := of_decide_eq_true he
      refine wc_seq ?_
      refine wc_region ?_
      refine wl_assign (by decide) rfl ?_
      refine wl_nil ?_
      refine wk_norm ?_
      refine wc_ret ?_
      refine wk_blk_ret ?_
      refine wk_then_ret ?_
      refine wk_then_ret ?_
      refine wk_blk_ret ?_
      refine wk_then_ret ?_
      refine wk_post1 (.inl rfl) Try.results40 rfl ?_
      exact ⟨_, rfl, bool_t (by rw [← he]; exact List.getElem_mem _), Chg.refl _ _⟩
    ·
      try replace he := of_decide_eq_false he
      refine wc_skip ?_
      refine wk_blk_norm ?_
      refine wk_norm ?_
      refine wc_region ?_
      refine wl_move (by decide) rfl ?_
      refine wl_add (by decide) rfl rfl (w64 (by omega) (by omega)) ?_
      refine wl_assign (by decide) rfl ?_
      refine wl_nil ?_
      refine wk_norm ?_
      refine wk_drop [(0, .slice A l.length c), (1, .int .i64 i), (5, .int .i64 ((k + 1) : Int))] ⟨rfl, rfl, rfl, trivial⟩ (hKL1 _ _ (m2 := l.length - (k + 1)) ?_ ?_)
      ·
        refine ⟨(k + 1), rfl, ?_, ?_, ?_, rfl⟩
        · omega
        · rw [← List.take_append_getElem (by omega : k < l.length)]
          simp only [List.mem_append, List.mem_singleton]
          rintro (h1 | h1)
          · exact hno h1
          · exact he h1.symm
        · rfl
      · omega
  ·
    try replace hlt := of_decide_eq_false hlt
    have hkl : k = l.length := by omega
    refine wc_exit ?_
    refine wk_then_exit ?_
    refine wk_then_exit ?_
    refine wk_blk_exit ?_
    refine wk_norm ?_
    refine wc_seq ?_
    refine wc_region ?_
    refine wl_assign (by decide) rfl ?_
    refine wl_nil ?_
    refine wk_norm ?_
    refine wc_ret ?_
    refine wk_post1 (.inl rfl) Try.results40 rfl ?_
    exact ⟨_, rfl, bool_f (by rw [hkl, List.take_length] at hno; exact hno), Chg.refl _ _⟩

theorem whole_no {H : List HOp} {s k : Nat} (hk : k < H.length) (he : 0 < (hop H k).e) (hn : s.testBit k = false) : wholeS H s = false := by
  cases h : wholeS H s
  · rfl
  · rw [wholeS, allN_iff] at h
    have := h k hk
    rw [hn, decide_eq_true he] at this
    cases this
theorem whole_yes {H : List HOp} {s : Nat} (h : ∀ j, j < H.length → 0 < (hop H j).e → s.testBit j = true) : wholeS H s = true := by
  rw [wholeS, allN_iff]
  intro k hk
  by_cases he : 0 < (hop H k).e
  · rw [h k hk he, Bool.or_true]
  · rw [decide_eq_false he]; rfl
theorem allow_no_bit {H : List HOp} {f : List UInt8} {s i : Nat} {last : Int} (h : s.testBit i = true) : allowS H f s last i = false := by simp [allowS, h]
theorem allow_no_val {H : List HOp} {f : List UInt8} {s i : Nat} {last : Int} (h1 : (hop H i).wr = false) (h2 : ¬ (hop H i).val = valueOf H f last) : allowS H f s last i = false := by simp [allowS, h1, h2]
theorem allow_no_ahead {H : List HOp} {f : List UInt8} {s i k : Nat} {last : Int} (hk : k < H.length) (h1 : 0 < (hop H k).e) (h2 : (hop H k).e < (hop H i).b) (h3 : s.testBit k = false) : allowS H f s last i = false := by
  cases h : allowS H f s last i
  · rfl
  · unfold allowS at h
    simp only [Bool.and_eq_true] at h
    have := allN_iff.1 h.1.2 k hk
    simp [ahd, h1, h2, h3] at this
theorem allow_yes {H : List HOp} {f : List UInt8} {s i : Nat} {last : Int} (h1 : s.testBit i = false) (h2 : ∀ j, j < H.length → 0 < (hop H j).e → (hop H j).e < (hop H i).b → s.testBit j = true) (h3 : (hop H i).wr = true ∨ (hop H i).val = valueOf H f last) : allowS H f s last i = true := by
  unfold allowS
  simp only [Bool.and_eq_true]
  refine ⟨⟨by simp [h1], ?_⟩, by simpa using h3⟩
  rw [allN_iff]
  intro k hk
  by_cases h : 0 < (hop H k).e ∧ (hop H k).e < (hop H i).b
  · simp [h2 k hk h.1 h.2]
  · simp [ahd, h]

theorem bits_ok {A : Option Addr} {c : Nat} {p : List Nat} {S : Nat → Prop} {w : World} (h : IS S w A c (nats p)) (hb : ∀ i ∈ p, i < 14) (hl14 : p.length ≤ 14) : Ret Try.prog 37 #[.slice A (nats p).length c] w (fun v w' => v = .int .i64 (bitsS p : Int) ∧ w' = w) := by
  refine ret_of_wk Try.func37 rfl Try.ntmps37 (Nat.le_of_ble_eq_true rfl) ?_
  refine wc_seq ?_
  refine wc_region ?_
  refine wl_assign (by decide) rfl ?_
  refine wl_nil ?_
  refine wk_norm ?_
  refine wc_seq ?_
  refine wc_region ?_
  refine wl_assign (by decide) rfl ?_
  refine wl_nil ?_
  refine wk_norm ?_
  refine wc_seq ?_
  refine wc_seq ?_
  refine wc_region ?_
  refine wl_assign (by decide) rfl ?_
  refine wl_nil ?_
  refine wk_norm ?_
  refine wc_block ?_
  refine wc_loop (fun L' w' mes => ∃ (k : Nat), L' = [(0, .slice A (nats p).length c), (3, .int .i64 (bitsS (p.take k) : Int)), (4, .int .i64 (k : Int))] ∧ (k ≤ p.length) ∧ (w = w') ∧ p.length - k = mes) [(0, .slice A (nats p).length c), (3, .int .i64 (bitsS (p.take 0) : Int)), (4, .int .i64 (0 : Int))] (p.length - 0) (by
      refine ⟨0, rfl, ?_, ?_, rfl⟩
      · omega
      · rfl) ⟨rfl, rfl, rfl, trivial⟩ ?_
  rintro _ wr _ ⟨k, rfl, hk, hw, rfl⟩ KL1 hKL1
  subst hw
  have hmx := h.mx
  have hnl := nats_len p
  refine wc_seq ?_
  refine wc_seq ?_
  refine wc_region ?_
  refine wl_move (by decide) rfl ?_
  refine wl_move (by decide) rfl ?_
  refine wl_len (by decide) Try.underlying33 rfl ?_
  refine wl_lss (by decide) rfl rfl ?_
  refine wl_nil ?_
  refine wk_norm ?_
  refine wc_cond rfl (fun hlt => ?_) (fun hlt => ?_)
  ·
    try replace hlt := of_decide_eq_true hlt
    obtain ⟨aL, hAL, hatL⟩ := GS.el1 h k (by omega)
    have hpk : (nats p)[k]'(by omega) = ((p[k]'(by omega) : Nat) : Int) := by simp [nats]
    rw [hpk] at hatL
    have hpb := hb (p[k]'(by omega)) (List.getElem_mem _)
    have hsum : bitsS (p.take (k + 1)) = bitsS (p.take k) + 1 <<< (p[k]'(by omega)) := by rw [← List.take_append_getElem (by omega : k < p.length), bitsS_append]; simp [bitsS]
    have hle := bitsS_le (p := p.take (k + 1)) (m := 13) (fun i hi => by have := hb i (List.mem_of_mem_take hi); omega)
    have hl2 : (p.take (k + 1)).length ≤ 14 := by rw [List.length_take]; omega
    have hle2 : bitsS (p.take (k + 1)) ≤ 14 * 2 ^ 13 := Nat.le_trans hle (Nat.mul_le_mul_right _ hl2)
    rw [hsum] at hle2
    refine wc_skip ?_
    refine wk_norm ?_
    refine wc_seq ?_
    refine wc_block ?_
    refine wc_region ?_
    refine wl_move (by decide) rfl ?_
    refine wl_move (by decide) rfl ?_
    refine wl_move (by decide) rfl ?_
    refine wl_idx0 (by decide) Try.sl33 rfl rfl hAL k rfl (by omega) ?_
    refine wl_load (by decide) Try.sc3 rfl hatL.head ?_
    refine wl_shl (by decide) rfl rfl (by omega) (shlN (k := p[k]) (by omega)) ?_
    refine wl_add (by decide) rfl rfl (w64 (by omega) (by omega)) ?_
    refine wl_assign (by decide) rfl ?_
    refine wl_nil ?_
    refine wk_blk_norm ?_
    refine wk_norm ?_
    refine wc_region ?_
    refine wl_move (by decide) rfl ?_
    refine wl_add (by decide) rfl rfl (w64 (by omega) (by omega)) ?_
    refine wl_assign (by decide) rfl ?_
    refine wl_nil ?_
    refine wk_norm ?_
    refine wk_drop [(0, .slice A (nats p).length c), (3, .int .i64 (bitsS (p.take (k + 1)) : Int)), (4, .int .i64 ((k + 1) : Int))] ⟨rfl, (by rw [hsum]; rfl), rfl, trivial⟩ (hKL1 _ _ (m2 := p.length - (k + 1)) ?_ ?_)
    ·
      refine ⟨(k + 1), rfl, ?_, ?_, rfl⟩
      · omega
      · rfl
    · omega
  ·
    try replace hlt := of_decide_eq_false hlt
    have hkl : k = p.length := by omega
    refine wc_exit ?_
    refine wk_then_exit ?_
    refine wk_then_exit ?_
    refine wk_blk_exit ?_
    refine wk_norm ?_
    refine wc_seq ?_
    refine wc_region ?_
    refine wl_move (by decide) rfl ?_
    refine wl_assign (by decide) rfl ?_
    refine wl_nil ?_
    refine wk_norm ?_
    refine wc_ret ?_
    refine wk_post1 (.inl rfl) Try.results37 rfl ?_
    exact ⟨_, rfl, by rw [hkl, List.take_length], rfl⟩

theorem whole_ok {A B : Option Addr} {c d : Nat} {H : List HOp} {p : List Nat} {s : Nat} {S S2 : Nat → Prop} {w : World} (h : HS S w A c H) (ho : IS S2 w B d (nats p)) (hs : ∀ k, s.testBit k = decide (k ∈ p)) : Ret Try.prog 36 #[.slice A H.length c, .slice B (nats p).length d] w (fun v w' => v = .bool (wholeS H s) ∧ Ext w w') := by
  refine ret_of_wk Try.func36 rfl Try.ntmps36 (Nat.le_of_ble_eq_true rfl) ?_
  refine wc_seq ?_
  refine wc_region ?_
  refine wl_assign (by decide) rfl ?_
  refine wl_nil ?_
  refine wk_norm ?_
  refine wc_seq ?_
  refine wc_seq ?_
  refine wc_region ?_
  refine wl_assign (by decide) rfl ?_
  refine wl_nil ?_
  refine wk_norm ?_
  refine wc_block ?_
  refine wc_loop (fun L' w' mes => ∃ (k : Nat), L' = [(0, .slice A H.length c), (1, .slice B (nats p).length d), (5, .int .i64 (k : Int))] ∧ (k ≤ H.length) ∧ (∀ j, j < k → 0 < (hop H j).e → s.testBit j = true) ∧ (HS S w' A c H) ∧ (IS S2 w' B d (nats p)) ∧ (Ext w w') ∧ H.length - k = mes) [(0, .slice A H.length c), (1, .slice B (nats p).length d), (5, .int .i64 (0 : Int))] (H.length - 0) (by
      refine ⟨0, rfl, ?_, ?_, ?_, ?_, ?_, rfl⟩
      · omega
      · intro j hj; omega
      · exact h
      · exact ho
      · exact Chg.refl _ _) ⟨rfl, rfl, rfl, trivial⟩ ?_
  rintro _ wr _ ⟨k, rfl, hk, hall, h, ho, hEc, rfl⟩ KL1 hKL1
  have hmx := h.mx
  refine wc_seq ?_
  refine wc_seq ?_
  refine wc_region ?_
  refine wl_move (by decide) rfl ?_
  refine wl_move (by decide) rfl ?_
  refine wl_len (by decide) Try.underlying29 rfl ?_
  refine wl_lss (by decide) rfl rfl ?_
  refine wl_nil ?_
  refine wk_norm ?_
  refine wc_cond rfl (fun hlt => ?_) (fun hlt => ?_)
  ·
    try replace hlt := of_decide_eq_true hlt
    obtain ⟨aL, BL, dL, hAL, hatL, hvL⟩ := HS.el h k (by omega)
    refine wc_skip ?_
    refine wk_norm ?_
    refine wc_seq ?_
    refine wc_block ?_
    refine wc_seq ?_
    refine wc_region ?_
    refine wl_move (by decide) rfl ?_
    refine wl_move (by decide) rfl ?_
    refine wl_idx0 (by decide) Try.sl29 rfl rfl hAL k rfl (by omega) ?_
    refine wl_fld (by decide) Try.fld56_3 rfl ?_
    refine wl_load (by decide) Try.sc3 rfl (hatL.get rfl) ?_
    refine wl_gtr (by decide) rfl rfl ?_
    refine wl_move (by decide) rfl ?_
    refine wl_gsplit (dj := 18) rfl (fun hg => ?_) (fun hg => ?_)
    ·
      try replace hg := of_decide_eq_true hg
      refine wl_gyes rfl rfl ?_
      refine wl_move (by decide) rfl ?_
      refine wl_gyes rfl rfl ?_
      refine wl_move (by decide) rfl ?_
      refine wl_gyes rfl rfl ?_
      refine wl_call (by decide) Try.cl40 rfl (has_ok ho) ?_
      rintro _ w1 ⟨rfl, hE1⟩
      replace h := h.ext hE1
      replace ho := ho.ext hE1
      replace hEc := hEc.trans hE1
      refine wl_gyes rfl rfl ?_
      first | refine wl_notd (by decide) rfl ?_ | refine wl_not (by decide) rfl ?_
      refine wl_pick (by decide) rfl rfl ?_
      refine wl_nil ?_
      refine wk_norm ?_
      refine wc_cond rfl (fun hq => ?_) (fun hq => ?_)
      ·
        try replace hq := of_decide_eq_true hq
        have hz : s.testBit k = false := by rw [hs]; exact decide_eq_false (fun hm => hq (nats_mem.2 hm))
        refine wc_seq ?_
        refine wc_region ?_
        refine wl_assign (by decide) rfl ?_
        refine wl_nil ?_
        refine wk_norm ?_
        refine wc_ret ?_
        refine wk_blk_ret ?_
        refine wk_then_ret ?_
        refine wk_then_ret ?_
        refine wk_blk_ret ?_
        refine wk_then_ret ?_
        refine wk_post1 (.inl rfl) Try.results36 rfl ?_
        exact ⟨_, rfl, by rw [whole_no (k := k) (by omega) hg hz], hEc⟩
      ·
        try replace hq := of_decide_eq_false hq
        replace hq : 0 < (hop H k).e → s.testBit k = true := fun _ => by rw [hs]; exact decide_eq_true (nats_mem.1 (Decidable.not_not.1 hq))
        refine wc_skip ?_
        refine wk_blk_norm ?_
        refine wk_norm ?_
        refine wc_region ?_
        refine wl_move (by decide) rfl ?_
        refine wl_add (by decide) rfl rfl (w64 (by omega) (by omega)) ?_
        refine wl_assign (by decide) rfl ?_
        refine wl_nil ?_
        refine wk_norm ?_
        refine wk_drop [(0, .slice A H.length c), (1, .slice B (nats p).length d), (5, .int .i64 ((k + 1) : Int))] ⟨rfl, rfl, rfl, trivial⟩ (hKL1 _ _ (m2 := H.length - (k + 1)) ?_ ?_)
        ·
          refine ⟨(k + 1), rfl, ?_, ?_, ?_, ?_, ?_, rfl⟩
          · omega
          · intro j hj he
            by_cases e : j = k
            · subst e; first | exact hq he | exact absurd he hg
            · exact hall j (by omega) he
          · exact h
          · exact ho
          · exact hEc
        · omega
    ·
      try replace hg := of_decide_eq_false hg
      refine wl_gno (by decide) rfl rfl (.inl rfl) ?_
      refine wl_gno (by decide) rfl rfl (.inl rfl) ?_
      refine wl_gno (by decide) rfl rfl (.inl rfl) ?_
      refine wl_gno (by decide) rfl rfl (.inl rfl) ?_
      refine wl_pick (by decide) rfl rfl ?_
      refine wl_nil ?_
      refine wk_norm ?_
      refine wc_cond_f rfl ?_
      refine wc_skip ?_
      refine wk_blk_norm ?_
      refine wk_norm ?_
      refine wc_region ?_
      refine wl_move (by decide) rfl ?_
      refine wl_add (by decide) rfl rfl (w64 (by omega) (by omega)) ?_
      refine wl_assign (by decide) rfl ?_
      refine wl_nil ?_
      refine wk_norm ?_
      refine wk_drop [(0, .slice A H.length c), (1, .slice B (nats p).length d), (5, .int .i64 ((k + 1) : Int))] ⟨rfl, rfl, rfl, trivial⟩ (hKL1 _ _ (m2 := H.length - (k + 1)) ?_ ?_)
      ·
        refine ⟨(k + 1), rfl, ?_, ?_, ?_, ?_, ?_, rfl⟩
        · omega
        · intro j hj he
          by_cases e : j = k
          · subst e; first | exact hq he | exact absurd he hg
          · exact hall j (by omega) he
        · exact h
        · exact ho
        · exact hEc
      · omega
  ·
    try replace hlt := of_decide_eq_false hlt
    refine wc_exit ?_
    refine wk_then_exit ?_
    refine wk_then_exit ?_
    refine wk_blk_exit ?_
    refine wk_norm ?_
    refine wc_seq ?_
    refine wc_region ?_
    refine wl_assign (by decide) rfl ?_
    refine wl_nil ?_
    refine wk_norm ?_
    refine wc_ret ?_
    refine wk_post1 (.inl rfl) Try.results36 rfl ?_
    exact ⟨_, rfl, by rw [whole_yes (fun j hj => hall j (by omega))], hEc⟩

theorem may_ok {A B : Option Addr} {c d : Nat} {H : List HOp} {p : List Nat} {s : Nat} {S S2 : Nat → Prop} {C : Option Addr} {e i : Nat} {v0 first : List UInt8} {last : Int} {S3 : Nat → Prop} {w : World} (h : HS S w A c H) (ho : IS S2 w B d (nats p)) (hs : ∀ k, s.testBit k = decide (k ∈ p)) (hv : BS S3 w C e v0) (hv0 : v0 = valueOf H first last) (hi : i < H.length) : Ret Try.prog 38 #[.slice A H.length c, .slice B (nats p).length d, .slice C v0.length e, .int .i64 (i : Int)] w (fun v w' => v = .bool (allowS H first s last i) ∧ Ext w w') := by
  obtain ⟨aI, BI, dI, hAI, hatI, hvI⟩ := HS.el h i hi
  refine ret_of_wk Try.func38 rfl Try.ntmps38 (Nat.le_of_ble_eq_true rfl) ?_
  have hEc : Ext w w := Chg.refl _ _
  refine wc_seq ?_
  refine wc_region ?_
  refine wl_assign (by decide) rfl ?_
  refine wl_nil ?_
  refine wk_norm ?_
  refine wc_seq ?_
  refine wc_seq ?_
  refine wc_region ?_
  refine wl_move (by decide) rfl ?_
  refine wl_move (by decide) rfl ?_
  refine wl_call (by decide) Try.cl40 rfl (has_ok ho) ?_
  rintro _ w1 ⟨rfl, hE1⟩
  replace h := h.ext hE1
  replace ho := ho.ext hE1
  replace hv := hv.ext hE1
  replace hatI := hatI.ext hE1
  replace hvI := hvI.ext hE1
  replace hEc := hEc.trans hE1
  refine wl_move (by decide) rfl ?_
  refine wl_gsplit (dj := 13) rfl (fun hin => ?_) (fun hin => ?_)
  ·
    try replace hin := of_decide_eq_true hin
    have hno := allow_no_bit (H := H) (f := first) (last := last) (s := s) (i := i) (by rw [hs]; exact decide_eq_true (nats_mem.1 hin))
    refine wl_gno (by decide) rfl rfl (.inl rfl) ?_
    refine wl_gno (by decide) rfl rfl (.inl rfl) ?_
    refine wl_gno (by decide) rfl rfl (.inl rfl) ?_
    refine wl_gno (by decide) rfl rfl (.inl rfl) ?_
    refine wl_gno (by decide) rfl rfl (.inl rfl) ?_
    refine wl_gno (by decide) rfl rfl (.inl rfl) ?_
    refine wl_gno (by decide) rfl rfl (.inl rfl) ?_
    refine wl_gno (by decide) rfl rfl (.inr rfl) ?_
    refine wl_gno (by decide) rfl rfl (.inr rfl) ?_
    refine wl_gno (by decide) rfl rfl (.inr rfl) ?_
    refine wl_gno (by decide) rfl rfl (.inr rfl) ?_
    refine wl_gno (by decide) rfl rfl (.inr rfl) ?_
    refine wl_gno (by decide) rfl rfl (.inr rfl) ?_
    refine wl_gno (by decide) rfl rfl (.inr rfl) ?_
    refine wl_gno (by decide) rfl rfl (.inr rfl) ?_
    refine wl_gno (by decide) rfl rfl (.inl rfl) ?_
    refine wl_pick (by decide) rfl rfl ?_
    refine wl_nil ?_
    refine wk_norm ?_
    refine wc_cond_t rfl ?_
    refine wc_seq ?_
    refine wc_region ?_
    refine wl_assign (by decide) rfl ?_
    refine wl_nil ?_
    refine wk_norm ?_
    refine wc_ret ?_
    refine wk_then_ret ?_
    refine wk_post1 (.inl rfl) Try.results38 rfl ?_
    exact ⟨_, rfl, by rw [hno], hEc⟩
  ·
    try replace hin := of_decide_eq_false hin
    replace hin : s.testBit i = false := by rw [hs]; exact decide_eq_false (fun x => hin (nats_mem.2 x))
    refine wl_gyes rfl rfl ?_
    refine wl_move (by decide) rfl ?_
    refine wl_gyes rfl rfl ?_
    refine wl_move (by decide) rfl ?_
    refine wl_gyes rfl rfl ?_
    refine wl_idx0 (by decide) Try.sl29 rfl rfl hAI i rfl (by omega) ?_
    refine wl_gyes rfl rfl ?_
    refine wl_fld (by decide) Try.fld56_0 rfl ?_
    refine wl_gyes rfl rfl ?_
    refine wl_load (by decide) Try.sc4 rfl (hatI.get rfl) ?_
    refine wl_gyes rfl rfl ?_
    first | refine wl_notd (by decide) rfl ?_ | refine wl_not (by decide) rfl ?_
    refine wl_gyes rfl rfl ?_
    refine wl_move (by decide) rfl ?_
    refine wl_gsplit (dj := 20) rfl (fun hwr => ?_) (fun hwr => ?_)
    ·
      try replace hwr := of_decide_eq_true hwr
      replace hwr : (hop H i).wr = false := by simpa using hwr
      refine wl_gyes rfl rfl ?_
      refine wl_move (by decide) rfl ?_
      refine wl_gyes rfl rfl ?_
      refine wl_move (by decide) rfl ?_
      refine wl_gyes rfl rfl ?_
      refine wl_idx0 (by decide) Try.sl29 rfl rfl hAI i rfl (by omega) ?_
      refine wl_gyes rfl rfl ?_
      refine wl_fld (by decide) Try.fld56_1 rfl ?_
      refine wl_gyes rfl rfl ?_
      refine wl_load (by decide) Try.sc23 rfl (hatI.get rfl) ?_
      refine wl_gyes rfl rfl ?_
      refine wl_move (by decide) rfl ?_
      refine wl_gyes rfl rfl ?_
      have hcl := eqBytes_ok hvI hv
      refine wl_call (by decide) Try.cl22 rfl hcl ?_
      clear hcl
      rintro _ w2 ⟨rfl, hE2⟩
      replace h := h.ext hE2
      replace ho := ho.ext hE2
      replace hv := hv.ext hE2
      replace hatI := hatI.ext hE2
      replace hvI := hvI.ext hE2
      replace hEc := hEc.trans hE2
      refine wl_gyes rfl rfl ?_
      first | refine wl_notd (by decide) rfl ?_ | refine wl_not (by decide) rfl ?_
      refine wl_gyes rfl rfl ?_
      refine wl_pick (by decide) rfl rfl ?_
      refine wl_pick (by decide) rfl rfl ?_
      refine wl_nil ?_
      refine wk_norm ?_
      refine wc_cond rfl (fun hne => ?_) (fun hne => ?_)
      ·
        try replace hne := of_decide_eq_true hne
        have hno := allow_no_val (H := H) (f := first) (last := last) (s := s) (i := i) hwr (by rw [← hv0]; exact hne)
        refine wc_seq ?_
        refine wc_region ?_
        refine wl_assign (by decide) rfl ?_
        refine wl_nil ?_
        refine wk_norm ?_
        refine wc_ret ?_
        refine wk_then_ret ?_
        refine wk_post1 (.inl rfl) Try.results38 rfl ?_
        exact ⟨_, rfl, by rw [hno], hEc⟩
      ·
        try replace hne := of_decide_eq_false hne
        have hval : (hop H i).wr = true ∨ (hop H i).val = valueOf H first last := .inr (by rw [← hv0]; exact Decidable.not_not.1 hne)
        refine wc_skip ?_
        refine wk_norm ?_
        refine wc_seq ?_
        refine wc_seq ?_
        refine wc_region ?_
        refine wl_assign (by decide) rfl ?_
        refine wl_nil ?_
        refine wk_norm ?_
        refine wc_block ?_
        refine wc_loop (fun L' w' mes => ∃ (k : Nat), L' = [(0, .slice A H.length c), (1, .slice B (nats p).length d), (3, .int .i64 (i : Int)), (9, .int .i64 (k : Int))] ∧ (k ≤ H.length) ∧ (∀ j, j < k → 0 < (hop H j).e → (hop H j).e < (hop H i).b → s.testBit j = true) ∧ (HS S w' A c H) ∧ (IS S2 w' B d (nats p)) ∧ (AtF S w' (aI.add (i * 4)) _) ∧ (Ext w w') ∧ H.length - k = mes) [(0, .slice A H.length c), (1, .slice B (nats p).length d), (3, .int .i64 (i : Int)), (9, .int .i64 (0 : Int))] (H.length - 0) (by
            refine ⟨0, rfl, ?_, ?_, ?_, ?_, ?_, ?_, rfl⟩
            · omega
            · intro j hj; omega
            · exact h
            · exact ho
            · exact hatI
            · exact hEc) ⟨rfl, rfl, rfl, rfl, trivial⟩ ?_
        rintro _ wr _ ⟨k, rfl, hk, hall, h, ho, hatI, hEc, rfl⟩ KL1 hKL1
        have hmx := h.mx
        refine wc_seq ?_
        refine wc_seq ?_
        refine wc_region ?_
        refine wl_move (by decide) rfl ?_
        refine wl_move (by decide) rfl ?_
        refine wl_len (by decide) Try.underlying29 rfl ?_
        refine wl_lss (by decide) rfl rfl ?_
        refine wl_nil ?_
        refine wk_norm ?_
        refine wc_cond rfl (fun hlt => ?_) (fun hlt => ?_)
        ·
          try replace hlt := of_decide_eq_true hlt
          obtain ⟨aL, BL, dL, hAL, hatL, hvL⟩ := HS.el h k (by omega)
          refine wc_skip ?_
          refine wk_norm ?_
          refine wc_seq ?_
          refine wc_block ?_
          refine wc_seq ?_
          by_cases h5 : 0 < (hop H k).e
          ·
            by_cases h17 : (hop H k).e < (hop H i).b
            ·
              apply wc_drawL [SP.eq _, SP.eq _, SP.eq _, SP.eq _, SP.eq _, SP.eq (.bool true), SP.eq (.bool true), SP.eq _, SP.eq _, SP.eq _, SP.eq _, SP.eq _, SP.eq _, SP.eq _, SP.eq _, SP.eq _, SP.eq _, SP.eq (.bool true), SP.eq (.bool true), SP.eq (.bool true), SP.eq _, SP.eq _, SP.eq _, SP.eq _, SP.eq _] (by kernel_rfl) (by kernel_rfl)
              · refine ⟨?_, ?_, ?_, ?_, ?_, ?_, ?_, ?_, ?_, ?_, ?_, ?_, ?_, ?_, ?_, ?_, ?_, ?_, ?_, ?_, ?_, ?_, ?_, ?_, ?_, trivial⟩
                ·
                  intro F wF hER hk
                  have e0 := hk.init 0 _ rfl (by kernel_rfl)
                  refine wl_move (by decide) e0 ?_
                  exact wl_nil (qr_some ⟨Chg.refl _ _, rfl⟩)
                ·
                  intro F wF hER hk
                  have e9 := hk.init 9 _ rfl (by kernel_rfl)
                  refine wl_move (by decide) e9 ?_
                  exact wl_nil (qr_some ⟨Chg.refl _ _, rfl⟩)
                ·
                  intro F wF hER hk
                  obtain ⟨u37, e37, h37⟩ := hk.pred 0 (by kernel_rfl) 37 rfl
                  obtain rfl := h37
                  obtain ⟨u38, e38, h38⟩ := hk.pred 1 (by kernel_rfl) 38 rfl
                  obtain rfl := h38
                  refine wl_idx0 (by decide) Try.sl29 e37 e38 hAL k rfl (by omega) ?_
                  exact wl_nil (qr_some ⟨Chg.refl _ _, rfl⟩)
                ·
                  intro F wF hER hk
                  obtain ⟨u39, e39, h39⟩ := hk.pred 2 (by kernel_rfl) 39 rfl
                  obtain rfl := h39
                  refine wl_fld (by decide) Try.fld56_3 e39 ?_
                  exact wl_nil (qr_some ⟨Chg.refl _ _, rfl⟩)
                ·
                  intro F wF hER hk
                  obtain ⟨u40, e40, h40⟩ := hk.pred 3 (by kernel_rfl) 40 rfl
                  obtain rfl := h40
                  refine wl_load (by decide) Try.sc3 e40 ((hatL.ext hER).get rfl) ?_
                  exact wl_nil (qr_some ⟨Chg.refl _ _, rfl⟩)
                ·
                  intro F wF hER hk
                  obtain ⟨u41, e41, h41⟩ := hk.pred 4 (by kernel_rfl) 41 rfl
                  obtain rfl := h41
                  refine wl_gtr (by decide) e41 rfl ?_
                  refine wl_re (k := 42) (v := .bool true) rfl (congrArg Value.bool (decide_eq_true (by first | exact h5 | omega | simpa using h5))) ?_
                  exact wl_nil (qr_re ⟨Chg.refl _ _, rfl⟩)
                ·
                  intro F wF hER hk
                  obtain ⟨u42, e42, h42⟩ := hk.pred 5 (by kernel_rfl) 42 rfl
                  obtain rfl := h42
                  refine wl_move (by decide) e42 ?_
                  exact wl_nil (qr_some ⟨Chg.refl _ _, rfl⟩)
                ·
                  intro F wF hER hk
                  have e0 := hk.init 0 _ rfl (by kernel_rfl)
                  obtain ⟨u43, e43, h43⟩ := hk.pred 6 (by kernel_rfl) 43 rfl
                  obtain rfl := h43
                  refine wl_gyes rfl e43 ?_
                  refine wl_move (by decide) e0 ?_
                  exact wl_nil (qr_some ⟨Chg.refl _ _, rfl⟩)
                ·
                  intro F wF hER hk
                  have e9 := hk.init 9 _ rfl (by kernel_rfl)
                  obtain ⟨u43, e43, h43⟩ := hk.pred 6 (by kernel_rfl) 43 rfl
                  obtain rfl := h43
                  refine wl_gyes rfl e43 ?_
                  refine wl_move (by decide) e9 ?_
                  exact wl_nil (qr_some ⟨Chg.refl _ _, rfl⟩)
                ·
                  intro F wF hER hk
                  obtain ⟨u44, e44, h44⟩ := hk.pred 7 (by kernel_rfl) 44 rfl
                  obtain rfl := h44
                  obtain ⟨u45, e45, h45⟩ := hk.pred 8 (by kernel_rfl) 45 rfl
                  obtain rfl := h45
                  obtain ⟨u43, e43, h43⟩ := hk.pred 6 (by kernel_rfl) 43 rfl
                  obtain rfl := h43
                  refine wl_gyes rfl e43 ?_
                  refine wl_idx0 (by decide) Try.sl29 e44 e45 hAL k rfl (by omega) ?_
                  exact wl_nil (qr_some ⟨Chg.refl _ _, rfl⟩)
                ·
                  intro F wF hER hk
                  obtain ⟨u46, e46, h46⟩ := hk.pred 9 (by kernel_rfl) 46 rfl
                  obtain rfl := h46
                  obtain ⟨u43, e43, h43⟩ := hk.pred 6 (by kernel_rfl) 43 rfl
                  obtain rfl := h43
                  refine wl_gyes rfl e43 ?_
                  refine wl_fld (by decide) Try.fld56_3 e46 ?_
                  exact wl_nil (qr_some ⟨Chg.refl _ _, rfl⟩)
                ·
                  intro F wF hER hk
                  obtain ⟨u47, e47, h47⟩ := hk.pred 10 (by kernel_rfl) 47 rfl
                  obtain rfl := h47
                  obtain ⟨u43, e43, h43⟩ := hk.pred 6 (by kernel_rfl) 43 rfl
                  obtain rfl := h43
                  refine wl_gyes rfl e43 ?_
                  refine wl_load (by decide) Try.sc3 e47 ((hatL.ext hER).get rfl) ?_
                  exact wl_nil (qr_some ⟨Chg.refl _ _, rfl⟩)
                ·
                  intro F wF hER hk
                  have e0 := hk.init 0 _ rfl (by kernel_rfl)
                  obtain ⟨u43, e43, h43⟩ := hk.pred 6 (by kernel_rfl) 43 rfl
                  obtain rfl := h43
                  refine wl_gyes rfl e43 ?_
                  refine wl_move (by decide) e0 ?_
                  exact wl_nil (qr_some ⟨Chg.refl _ _, rfl⟩)
                ·
                  intro F wF hER hk
                  have e3 := hk.init 3 _ rfl (by kernel_rfl)
                  obtain ⟨u43, e43, h43⟩ := hk.pred 6 (by kernel_rfl) 43 rfl
                  obtain rfl := h43
                  refine wl_gyes rfl e43 ?_
                  refine wl_move (by decide) e3 ?_
                  exact wl_nil (qr_some ⟨Chg.refl _ _, rfl⟩)
                ·
                  intro F wF hER hk
                  obtain ⟨u49, e49, h49⟩ := hk.pred 12 (by kernel_rfl) 49 rfl
                  obtain rfl := h49
                  obtain ⟨u50, e50, h50⟩ := hk.pred 13 (by kernel_rfl) 50 rfl
                  obtain rfl := h50
                  obtain ⟨u43, e43, h43⟩ := hk.pred 6 (by kernel_rfl) 43 rfl
                  obtain rfl := h43
                  refine wl_gyes rfl e43 ?_
                  refine wl_idx0 (by decide) Try.sl29 e49 e50 hAI i rfl (by omega) ?_
                  exact wl_nil (qr_some ⟨Chg.refl _ _, rfl⟩)
                ·
                  intro F wF hER hk
                  obtain ⟨u51, e51, h51⟩ := hk.pred 14 (by kernel_rfl) 51 rfl
                  obtain rfl := h51
                  obtain ⟨u43, e43, h43⟩ := hk.pred 6 (by kernel_rfl) 43 rfl
                  obtain rfl := h43
                  refine wl_gyes rfl e43 ?_
                  refine wl_fld (by decide) Try.fld56_2 e51 ?_
                  exact wl_nil (qr_some ⟨Chg.refl _ _, rfl⟩)
                ·
                  intro F wF hER hk
                  obtain ⟨u52, e52, h52⟩ := hk.pred 15 (by kernel_rfl) 52 rfl
                  obtain rfl := h52
                  obtain ⟨u43, e43, h43⟩ := hk.pred 6 (by kernel_rfl) 43 rfl
                  obtain rfl := h43
                  refine wl_gyes rfl e43 ?_
                  refine wl_load (by decide) Try.sc3 e52 ((hatI.ext hER).get rfl) ?_
                  exact wl_nil (qr_some ⟨Chg.refl _ _, rfl⟩)
                ·
                  intro F wF hER hk
                  obtain ⟨u48, e48, h48⟩ := hk.pred 11 (by kernel_rfl) 48 rfl
                  obtain rfl := h48
                  obtain ⟨u53, e53, h53⟩ := hk.pred 16 (by kernel_rfl) 53 rfl
                  obtain rfl := h53
                  obtain ⟨u43, e43, h43⟩ := hk.pred 6 (by kernel_rfl) 43 rfl
                  obtain rfl := h43
                  refine wl_gyes rfl e43 ?_
                  refine wl_lss (by decide) e48 e53 ?_
                  refine wl_re (k := 54) (v := .bool true) rfl (congrArg Value.bool (decide_eq_true (by first | exact h17 | omega | simpa using h17))) ?_
                  exact wl_nil (qr_re ⟨Chg.refl _ _, rfl⟩)
                ·
                  intro F wF hER hk
                  obtain ⟨u43, e43, h43⟩ := hk.pred 6 (by kernel_rfl) 43 rfl
                  obtain rfl := h43
                  obtain ⟨u54, e54, h54⟩ := hk.pred 17 (by kernel_rfl) 54 rfl
                  obtain rfl := h54
                  refine wl_pick (by decide) e43 e54 ?_
                  exact wl_nil (qr_some ⟨Chg.refl _ _, rfl⟩)
                ·
                  intro F wF hER hk
                  obtain ⟨u55, e55, h55⟩ := hk.pred 18 (by kernel_rfl) 55 rfl
                  obtain rfl := h55
                  refine wl_move (by decide) e55 ?_
                  exact wl_nil (qr_some ⟨Chg.refl _ _, rfl⟩)
                ·
                  intro F wF hER hk
                  have e1 := hk.init 1 _ rfl (by kernel_rfl)
                  obtain ⟨u56, e56, h56⟩ := hk.pred 19 (by kernel_rfl) 56 rfl
                  obtain rfl := h56
                  refine wl_gyes rfl e56 ?_
                  refine wl_move (by decide) e1 ?_
                  exact wl_nil (qr_some ⟨Chg.refl _ _, rfl⟩)
                ·
                  intro F wF hER hk
                  have e9 := hk.init 9 _ rfl (by kernel_rfl)
                  obtain ⟨u56, e56, h56⟩ := hk.pred 19 (by kernel_rfl) 56 rfl
                  obtain rfl := h56
                  refine wl_gyes rfl e56 ?_
                  refine wl_move (by decide) e9 ?_
                  exact wl_nil (qr_some ⟨Chg.refl _ _, rfl⟩)
                ·
                  intro F wF hER hk
                  obtain ⟨u57, e57, h57⟩ := hk.pred 20 (by kernel_rfl) 57 rfl
                  obtain rfl := h57
                  obtain ⟨u58, e58, h58⟩ := hk.pred 21 (by kernel_rfl) 58 rfl
                  obtain rfl := h58
                  obtain ⟨u56, e56, h56⟩ := hk.pred 19 (by kernel_rfl) 56 rfl
                  obtain rfl := h56
                  refine wl_gyes rfl e56 ?_
                  refine wl_call (by decide) Try.cl40 (by simp only [evs, ev, e57, e58]; first | done | rfl) (has_ok (ho.ext hER)) ?_
                  rintro _ w7 ⟨rfl, hE7⟩
                  exact wl_nil (qr_some ⟨hE7, rfl⟩)
                ·
                  intro F wF hER hk
                  obtain ⟨u59, e59, h59⟩ := hk.pred 22 (by kernel_rfl) 59 rfl
                  obtain rfl := h59
                  obtain ⟨u56, e56, h56⟩ := hk.pred 19 (by kernel_rfl) 56 rfl
                  obtain rfl := h56
                  refine wl_gyes rfl e56 ?_
                  first | refine wl_notd (by decide) e59 ?_ | refine wl_not (by decide) e59 ?_
                  exact wl_nil (qr_some ⟨Chg.refl _ _, rfl⟩)
                ·
                  intro F wF hER hk
                  obtain ⟨u56, e56, h56⟩ := hk.pred 19 (by kernel_rfl) 56 rfl
                  obtain rfl := h56
                  obtain ⟨u60, e60, h60⟩ := hk.pred 23 (by kernel_rfl) 60 rfl
                  obtain rfl := h60
                  refine wl_pick (by decide) e56 e60 ?_
                  exact wl_nil (qr_some ⟨Chg.refl _ _, rfl⟩)
              ·
                intro F wD hED hini hdo
                have e0 := hini 0 _ rfl (by kernel_rfl)
                have e1 := hini 1 _ rfl (by kernel_rfl)
                have e3 := hini 3 _ rfl (by kernel_rfl)
                have e9 := hini 9 _ rfl (by kernel_rfl)
                obtain ⟨u61, e61, h61⟩ := hdo 24 61 rfl
                obtain rfl := h61
                refine wk_drop [(0, _), (1, _), (3, _), (9, _), (61, _)] ⟨e0, e1, e3, e9, e61, trivial⟩ ?_
                clear e0 e1 e3 e9 e61 hini hdo
                replace h := h.ext hED
                replace ho := ho.ext hED
                replace hatI := hatI.ext hED
                replace hEc := hEc.trans hED
                refine wk_norm ?_
                refine wc_cond rfl (fun hq => ?_) (fun hq => ?_)
                ·
                  try replace hq := of_decide_eq_true hq
                  have hz : s.testBit k = false := by rw [hs]; exact decide_eq_false (fun hm => hq (nats_mem.2 hm))
                  refine wc_seq ?_
                  refine wc_region ?_
                  refine wl_assign (by decide) rfl ?_
                  refine wl_nil ?_
                  refine wk_norm ?_
                  refine wc_ret ?_
                  refine wk_blk_ret ?_
                  refine wk_then_ret ?_
                  refine wk_then_ret ?_
                  refine wk_blk_ret ?_
                  refine wk_then_ret ?_
                  refine wk_post1 (.inl rfl) Try.results38 rfl ?_
                  exact ⟨_, rfl, by rw [allow_no_ahead (k := k) (by omega) h5 h17 hz], hEc⟩
                ·
                  try replace hq := of_decide_eq_false hq
                  replace hq : 0 < (hop H k).e → (hop H k).e < (hop H i).b → s.testBit k = true := fun _ _ => by rw [hs]; exact decide_eq_true (nats_mem.1 (Decidable.not_not.1 hq))
                  refine wc_skip ?_
                  refine wk_blk_norm ?_
                  refine wk_norm ?_
                  refine wc_region ?_
                  refine wl_move (by decide) rfl ?_
                  refine wl_add (by decide) rfl rfl (w64 (by omega) (by omega)) ?_
                  refine wl_assign (by decide) rfl ?_
                  refine wl_nil ?_
                  refine wk_norm ?_
                  refine wk_drop [(0, .slice A H.length c), (1, .slice B (nats p).length d), (3, .int .i64 (i : Int)), (9, .int .i64 ((k + 1) : Int))] ⟨rfl, rfl, rfl, rfl, trivial⟩ (hKL1 _ _ (m2 := H.length - (k + 1)) ?_ ?_)
                  ·
                    refine ⟨(k + 1), rfl, ?_, ?_, ?_, ?_, ?_, ?_, rfl⟩
                    · omega
                    · intro j hj he hb
                      by_cases e : j = k
                      · subst e; first | exact hq he hb | omega
                      · exact hall j (by omega) he hb
                    · exact h
                    · exact ho
                    · exact hatI
                    · exact hEc
                  · omega
            ·
              apply wc_drawL [SP.eq _, SP.eq _, SP.eq _, SP.eq _, SP.eq _, SP.eq (.bool true), SP.eq (.bool true), SP.eq _, SP.eq _, SP.eq _, SP.eq _, SP.eq _, SP.eq _, SP.eq _, SP.eq _, SP.eq _, SP.eq _, SP.eq (.bool false), SP.eq (.bool false), SP.eq (.bool false), SP.eq undef, SP.eq undef, SP.eq undef, SP.eq undef, SP.eq (.bool false)] (by kernel_rfl) (by kernel_rfl)
              · refine ⟨?_, ?_, ?_, ?_, ?_, ?_, ?_, ?_, ?_, ?_, ?_, ?_, ?_, ?_, ?_, ?_, ?_, ?_, ?_, ?_, ?_, ?_, ?_, ?_, ?_, trivial⟩
                ·
                  intro F wF hER hk
                  have e0 := hk.init 0 _ rfl (by kernel_rfl)
                  refine wl_move (by decide) e0 ?_
                  exact wl_nil (qr_some ⟨Chg.refl _ _, rfl⟩)
                ·
                  intro F wF hER hk
                  have e9 := hk.init 9 _ rfl (by kernel_rfl)
                  refine wl_move (by decide) e9 ?_
                  exact wl_nil (qr_some ⟨Chg.refl _ _, rfl⟩)
                ·
                  intro F wF hER hk
                  obtain ⟨u37, e37, h37⟩ := hk.pred 0 (by kernel_rfl) 37 rfl
                  obtain rfl := h37
                  obtain ⟨u38, e38, h38⟩ := hk.pred 1 (by kernel_rfl) 38 rfl
                  obtain rfl := h38
                  refine wl_idx0 (by decide) Try.sl29 e37 e38 hAL k rfl (by omega) ?_
                  exact wl_nil (qr_some ⟨Chg.refl _ _, rfl⟩)
                ·
                  intro F wF hER hk
                  obtain ⟨u39, e39, h39⟩ := hk.pred 2 (by kernel_rfl) 39 rfl
                  obtain rfl := h39
                  refine wl_fld (by decide) Try.fld56_3 e39 ?_
                  exact wl_nil (qr_some ⟨Chg.refl _ _, rfl⟩)
                ·
                  intro F wF hER hk
                  obtain ⟨u40, e40, h40⟩ := hk.pred 3 (by kernel_rfl) 40 rfl
                  obtain rfl := h40
                  refine wl_load (by decide) Try.sc3 e40 ((hatL.ext hER).get rfl) ?_
                  exact wl_nil (qr_some ⟨Chg.refl _ _, rfl⟩)
                ·
                  intro F wF hER hk
                  obtain ⟨u41, e41, h41⟩ := hk.pred 4 (by kernel_rfl) 41 rfl
                  obtain rfl := h41
                  refine wl_gtr (by decide) e41 rfl ?_
                  refine wl_re (k := 42) (v := .bool true) rfl (congrArg Value.bool (decide_eq_true (by first | exact h5 | omega | simpa using h5))) ?_
                  exact wl_nil (qr_re ⟨Chg.refl _ _, rfl⟩)
                ·
                  intro F wF hER hk
                  obtain ⟨u42, e42, h42⟩ := hk.pred 5 (by kernel_rfl) 42 rfl
                  obtain rfl := h42
                  refine wl_move (by decide) e42 ?_
                  exact wl_nil (qr_some ⟨Chg.refl _ _, rfl⟩)
                ·
                  intro F wF hER hk
                  have e0 := hk.init 0 _ rfl (by kernel_rfl)
                  obtain ⟨u43, e43, h43⟩ := hk.pred 6 (by kernel_rfl) 43 rfl
                  obtain rfl := h43
                  refine wl_gyes rfl e43 ?_
                  refine wl_move (by decide) e0 ?_
                  exact wl_nil (qr_some ⟨Chg.refl _ _, rfl⟩)
                ·
                  intro F wF hER hk
                  have e9 := hk.init 9 _ rfl (by kernel_rfl)
                  obtain ⟨u43, e43, h43⟩ := hk.pred 6 (by kernel_rfl) 43 rfl
                  obtain rfl := h43
                  refine wl_gyes rfl e43 ?_
                  refine wl_move (by decide) e9 ?_
                  exact wl_nil (qr_some ⟨Chg.refl _ _, rfl⟩)
                ·
                  intro F wF hER hk
                  obtain ⟨u44, e44, h44⟩ := hk.pred 7 (by kernel_rfl) 44 rfl
                  obtain rfl := h44
                  obtain ⟨u45, e45, h45⟩ := hk.pred 8 (by kernel_rfl) 45 rfl
                  obtain rfl := h45
                  obtain ⟨u43, e43, h43⟩ := hk.pred 6 (by kernel_rfl) 43 rfl
                  obtain rfl := h43
                  refine wl_gyes rfl e43 ?_
                  refine wl_idx0 (by decide) Try.sl29 e44 e45 hAL k rfl (by omega) ?_
                  exact wl_nil (qr_some ⟨Chg.refl _ _, rfl⟩)
                ·
                  intro F wF hER hk
                  obtain ⟨u46, e46, h46⟩ := hk.pred 9 (by kernel_rfl) 46 rfl
                  obtain rfl := h46
                  obtain ⟨u43, e43, h43⟩ := hk.pred 6 (by kernel_rfl) 43 rfl
                  obtain rfl := h43
                  refine wl_gyes rfl e43 ?_
                  refine wl_fld (by decide) Try.fld56_3 e46 ?_
                  exact wl_nil (qr_some ⟨Chg.refl _ _, rfl⟩)
                ·
                  intro F wF hER hk
                  obtain ⟨u47, e47, h47⟩ := hk.pred 10 (by kernel_rfl) 47 rfl
                  obtain rfl := h47
                  obtain ⟨u43, e43, h43⟩ := hk.pred 6 (by kernel_rfl) 43 rfl
                  obtain rfl := h43
                  refine wl_gyes rfl e43 ?_
                  refine wl_load (by decide) Try.sc3 e47 ((hatL.ext hER).get rfl) ?_
                  exact wl_nil (qr_some ⟨Chg.refl _ _, rfl⟩)
                ·
                  intro F wF hER hk
                  have e0 := hk.init 0 _ rfl (by kernel_rfl)
                  obtain ⟨u43, e43, h43⟩ := hk.pred 6 (by kernel_rfl) 43 rfl
                  obtain rfl := h43
                  refine wl_gyes rfl e43 ?_
                  refine wl_move (by decide) e0 ?_
                  exact wl_nil (qr_some ⟨Chg.refl _ _, rfl⟩)
                ·
                  intro F wF hER hk
                  have e3 := hk.init 3 _ rfl (by kernel_rfl)
                  obtain ⟨u43, e43, h43⟩ := hk.pred 6 (by kernel_rfl) 43 rfl
                  obtain rfl := h43
                  refine wl_gyes rfl e43 ?_
                  refine wl_move (by decide) e3 ?_
                  exact wl_nil (qr_some ⟨Chg.refl _ _, rfl⟩)
                ·
                  intro F wF hER hk
                  obtain ⟨u49, e49, h49⟩ := hk.pred 12 (by kernel_rfl) 49 rfl
                  obtain rfl := h49
                  obtain ⟨u50, e50, h50⟩ := hk.pred 13 (by kernel_rfl) 50 rfl
                  obtain rfl := h50
                  obtain ⟨u43, e43, h43⟩ := hk.pred 6 (by kernel_rfl) 43 rfl
                  obtain rfl := h43
                  refine wl_gyes rfl e43 ?_
                  refine wl_idx0 (by decide) Try.sl29 e49 e50 hAI i rfl (by omega) ?_
                  exact wl_nil (qr_some ⟨Chg.refl _ _, rfl⟩)
                ·
                  intro F wF hER hk
                  obtain ⟨u51, e51, h51⟩ := hk.pred 14 (by kernel_rfl) 51 rfl
                  obtain rfl := h51
                  obtain ⟨u43, e43, h43⟩ := hk.pred 6 (by kernel_rfl) 43 rfl
                  obtain rfl := h43
                  refine wl_gyes rfl e43 ?_
                  refine wl_fld (by decide) Try.fld56_2 e51 ?_
                  exact wl_nil (qr_some ⟨Chg.refl _ _, rfl⟩)
                ·
                  intro F wF hER hk
                  obtain ⟨u52, e52, h52⟩ := hk.pred 15 (by kernel_rfl) 52 rfl
                  obtain rfl := h52
                  obtain ⟨u43, e43, h43⟩ := hk.pred 6 (by kernel_rfl) 43 rfl
                  obtain rfl := h43
                  refine wl_gyes rfl e43 ?_
                  refine wl_load (by decide) Try.sc3 e52 ((hatI.ext hER).get rfl) ?_
                  exact wl_nil (qr_some ⟨Chg.refl _ _, rfl⟩)
                ·
                  intro F wF hER hk
                  obtain ⟨u48, e48, h48⟩ := hk.pred 11 (by kernel_rfl) 48 rfl
                  obtain rfl := h48
                  obtain ⟨u53, e53, h53⟩ := hk.pred 16 (by kernel_rfl) 53 rfl
                  obtain rfl := h53
                  obtain ⟨u43, e43, h43⟩ := hk.pred 6 (by kernel_rfl) 43 rfl
                  obtain rfl := h43
                  refine wl_gyes rfl e43 ?_
                  refine wl_lss (by decide) e48 e53 ?_
                  refine wl_re (k := 54) (v := .bool false) rfl (congrArg Value.bool (decide_eq_false (by first | exact h17 | omega | simpa using h17))) ?_
                  exact wl_nil (qr_re ⟨Chg.refl _ _, rfl⟩)
                ·
                  intro F wF hER hk
                  obtain ⟨u43, e43, h43⟩ := hk.pred 6 (by kernel_rfl) 43 rfl
                  obtain rfl := h43
                  obtain ⟨u54, e54, h54⟩ := hk.pred 17 (by kernel_rfl) 54 rfl
                  obtain rfl := h54
                  refine wl_pick (by decide) e43 e54 ?_
                  exact wl_nil (qr_some ⟨Chg.refl _ _, rfl⟩)
                ·
                  intro F wF hER hk
                  obtain ⟨u55, e55, h55⟩ := hk.pred 18 (by kernel_rfl) 55 rfl
                  obtain rfl := h55
                  refine wl_move (by decide) e55 ?_
                  exact wl_nil (qr_some ⟨Chg.refl _ _, rfl⟩)
                ·
                  intro F wF hER hk
                  obtain ⟨u56, e56, h56⟩ := hk.pred 19 (by kernel_rfl) 56 rfl
                  obtain rfl := h56
                  refine wl_gno (by decide) rfl e56 (.inl rfl) ?_
                  exact wl_nil (qr_some ⟨Chg.refl _ _, rfl⟩)
                ·
                  intro F wF hER hk
                  obtain ⟨u56, e56, h56⟩ := hk.pred 19 (by kernel_rfl) 56 rfl
                  obtain rfl := h56
                  refine wl_gno (by decide) rfl e56 (.inl rfl) ?_
                  exact wl_nil (qr_some ⟨Chg.refl _ _, rfl⟩)
                ·
                  intro F wF hER hk
                  obtain ⟨u56, e56, h56⟩ := hk.pred 19 (by kernel_rfl) 56 rfl
                  obtain rfl := h56
                  refine wl_gno (by decide) rfl e56 (.inl rfl) ?_
                  exact wl_nil (qr_some ⟨Chg.refl _ _, rfl⟩)
                ·
                  intro F wF hER hk
                  obtain ⟨u56, e56, h56⟩ := hk.pred 19 (by kernel_rfl) 56 rfl
                  obtain rfl := h56
                  refine wl_gno (by decide) rfl e56 (.inl rfl) ?_
                  exact wl_nil (qr_some ⟨Chg.refl _ _, rfl⟩)
                ·
                  intro F wF hER hk
                  obtain ⟨u56, e56, h56⟩ := hk.pred 19 (by kernel_rfl) 56 rfl
                  obtain rfl := h56
                  obtain ⟨u60, e60, h60⟩ := hk.pred 23 (by kernel_rfl) 60 rfl
                  obtain rfl := h60
                  refine wl_pick (by decide) e56 rfl ?_
                  exact wl_nil (qr_some ⟨Chg.refl _ _, rfl⟩)
              ·
                intro F wD hED hini hdo
                have e0 := hini 0 _ rfl (by kernel_rfl)
                have e1 := hini 1 _ rfl (by kernel_rfl)
                have e3 := hini 3 _ rfl (by kernel_rfl)
                have e9 := hini 9 _ rfl (by kernel_rfl)
                obtain ⟨u61, e61, h61⟩ := hdo 24 61 rfl
                obtain rfl := h61
                refine wk_drop [(0, _), (1, _), (3, _), (9, _), (61, _)] ⟨e0, e1, e3, e9, e61, trivial⟩ ?_
                clear e0 e1 e3 e9 e61 hini hdo
                replace h := h.ext hED
                replace ho := ho.ext hED
                replace hatI := hatI.ext hED
                replace hEc := hEc.trans hED
                refine wk_norm ?_
                refine wc_cond_f rfl ?_
                refine wc_skip ?_
                refine wk_blk_norm ?_
                refine wk_norm ?_
                refine wc_region ?_
                refine wl_move (by decide) rfl ?_
                refine wl_add (by decide) rfl rfl (w64 (by omega) (by omega)) ?_
                refine wl_assign (by decide) rfl ?_
                refine wl_nil ?_
                refine wk_norm ?_
                refine wk_drop [(0, .slice A H.length c), (1, .slice B (nats p).length d), (3, .int .i64 (i : Int)), (9, .int .i64 ((k + 1) : Int))] ⟨rfl, rfl, rfl, rfl, trivial⟩ (hKL1 _ _ (m2 := H.length - (k + 1)) ?_ ?_)
                ·
                  refine ⟨(k + 1), rfl, ?_, ?_, ?_, ?_, ?_, ?_, rfl⟩
                  · omega
                  · intro j hj he hb
                    by_cases e : j = k
                    · subst e; first | exact hq he hb | omega
                    · exact hall j (by omega) he hb
                  · exact h
                  · exact ho
                  · exact hatI
                  · exact hEc
                · omega
          ·
            apply wc_drawL [SP.eq _, SP.eq _, SP.eq _, SP.eq _, SP.eq _, SP.eq (.bool false), SP.eq (.bool false), SP.eq undef, SP.eq undef, SP.eq undef, SP.eq undef, SP.eq undef, SP.eq undef, SP.eq undef, SP.eq undef, SP.eq undef, SP.eq undef, SP.eq undef, SP.eq (.bool false), SP.eq (.bool false), SP.eq undef, SP.eq undef, SP.eq undef, SP.eq undef, SP.eq (.bool false)] (by kernel_rfl) (by kernel_rfl)
            · refine ⟨?_, ?_, ?_, ?_, ?_, ?_, ?_, ?_, ?_, ?_, ?_, ?_, ?_, ?_, ?_, ?_, ?_, ?_, ?_, ?_, ?_, ?_, ?_, ?_, ?_, trivial⟩
              ·
                intro F wF hER hk
                have e0 := hk.init 0 _ rfl (by kernel_rfl)
                refine wl_move (by decide) e0 ?_
                exact wl_nil (qr_some ⟨Chg.refl _ _, rfl⟩)
              ·
                intro F wF hER hk
                have e9 := hk.init 9 _ rfl (by kernel_rfl)
                refine wl_move (by decide) e9 ?_
                exact wl_nil (qr_some ⟨Chg.refl _ _, rfl⟩)
              ·
                intro F wF hER hk
                obtain ⟨u37, e37, h37⟩ := hk.pred 0 (by kernel_rfl) 37 rfl
                obtain rfl := h37
                obtain ⟨u38, e38, h38⟩ := hk.pred 1 (by kernel_rfl) 38 rfl
                obtain rfl := h38
                refine wl_idx0 (by decide) Try.sl29 e37 e38 hAL k rfl (by omega) ?_
                exact wl_nil (qr_some ⟨Chg.refl _ _, rfl⟩)
              ·
                intro F wF hER hk
                obtain ⟨u39, e39, h39⟩ := hk.pred 2 (by kernel_rfl) 39 rfl
                obtain rfl := h39
                refine wl_fld (by decide) Try.fld56_3 e39 ?_
                exact wl_nil (qr_some ⟨Chg.refl _ _, rfl⟩)
              ·
                intro F wF hER hk
                obtain ⟨u40, e40, h40⟩ := hk.pred 3 (by kernel_rfl) 40 rfl
                obtain rfl := h40
                refine wl_load (by decide) Try.sc3 e40 ((hatL.ext hER).get rfl) ?_
                exact wl_nil (qr_some ⟨Chg.refl _ _, rfl⟩)
              ·
                intro F wF hER hk
                obtain ⟨u41, e41, h41⟩ := hk.pred 4 (by kernel_rfl) 41 rfl
                obtain rfl := h41
                refine wl_gtr (by decide) e41 rfl ?_
                refine wl_re (k := 42) (v := .bool false) rfl (congrArg Value.bool (decide_eq_false (by first | exact h5 | omega | simpa using h5))) ?_
                exact wl_nil (qr_re ⟨Chg.refl _ _, rfl⟩)
              ·
                intro F wF hER hk
                obtain ⟨u42, e42, h42⟩ := hk.pred 5 (by kernel_rfl) 42 rfl
                obtain rfl := h42
                refine wl_move (by decide) e42 ?_
                exact wl_nil (qr_some ⟨Chg.refl _ _, rfl⟩)
              ·
                intro F wF hER hk
                obtain ⟨u43, e43, h43⟩ := hk.pred 6 (by kernel_rfl) 43 rfl
                obtain rfl := h43
                refine wl_gno (by decide) rfl e43 (.inl rfl) ?_
                exact wl_nil (qr_some ⟨Chg.refl _ _, rfl⟩)
              ·
                intro F wF hER hk
                obtain ⟨u43, e43, h43⟩ := hk.pred 6 (by kernel_rfl) 43 rfl
                obtain rfl := h43
                refine wl_gno (by decide) rfl e43 (.inl rfl) ?_
                exact wl_nil (qr_some ⟨Chg.refl _ _, rfl⟩)
              ·
                intro F wF hER hk
                obtain ⟨u43, e43, h43⟩ := hk.pred 6 (by kernel_rfl) 43 rfl
                obtain rfl := h43
                refine wl_gno (by decide) rfl e43 (.inl rfl) ?_
                exact wl_nil (qr_some ⟨Chg.refl _ _, rfl⟩)
              ·
                intro F wF hER hk
                obtain ⟨u43, e43, h43⟩ := hk.pred 6 (by kernel_rfl) 43 rfl
                obtain rfl := h43
                refine wl_gno (by decide) rfl e43 (.inl rfl) ?_
                exact wl_nil (qr_some ⟨Chg.refl _ _, rfl⟩)
              ·
                intro F wF hER hk
                obtain ⟨u43, e43, h43⟩ := hk.pred 6 (by kernel_rfl) 43 rfl
                obtain rfl := h43
                refine wl_gno (by decide) rfl e43 (.inl rfl) ?_
                exact wl_nil (qr_some ⟨Chg.refl _ _, rfl⟩)
              ·
                intro F wF hER hk
                obtain ⟨u43, e43, h43⟩ := hk.pred 6 (by kernel_rfl) 43 rfl
                obtain rfl := h43
                refine wl_gno (by decide) rfl e43 (.inl rfl) ?_
                exact wl_nil (qr_some ⟨Chg.refl _ _, rfl⟩)
              ·
                intro F wF hER hk
                obtain ⟨u43, e43, h43⟩ := hk.pred 6 (by kernel_rfl) 43 rfl
                obtain rfl := h43
                refine wl_gno (by decide) rfl e43 (.inl rfl) ?_
                exact wl_nil (qr_some ⟨Chg.refl _ _, rfl⟩)
              ·
                intro F wF hER hk
                obtain ⟨u43, e43, h43⟩ := hk.pred 6 (by kernel_rfl) 43 rfl
                obtain rfl := h43
                refine wl_gno (by decide) rfl e43 (.inl rfl) ?_
                exact wl_nil (qr_some ⟨Chg.refl _ _, rfl⟩)
              ·
                intro F wF hER hk
                obtain ⟨u43, e43, h43⟩ := hk.pred 6 (by kernel_rfl) 43 rfl
                obtain rfl := h43
                refine wl_gno (by decide) rfl e43 (.inl rfl) ?_
                exact wl_nil (qr_some ⟨Chg.refl _ _, rfl⟩)
              ·
                intro F wF hER hk
                obtain ⟨u43, e43, h43⟩ := hk.pred 6 (by kernel_rfl) 43 rfl
                obtain rfl := h43
                refine wl_gno (by decide) rfl e43 (.inl rfl) ?_
                exact wl_nil (qr_some ⟨Chg.refl _ _, rfl⟩)
              ·
                intro F wF hER hk
                obtain ⟨u43, e43, h43⟩ := hk.pred 6 (by kernel_rfl) 43 rfl
                obtain rfl := h43
                refine wl_gno (by decide) rfl e43 (.inl rfl) ?_
                exact wl_nil (qr_some ⟨Chg.refl _ _, rfl⟩)
              ·
                intro F wF hER hk
                obtain ⟨u43, e43, h43⟩ := hk.pred 6 (by kernel_rfl) 43 rfl
                obtain rfl := h43
                obtain ⟨u54, e54, h54⟩ := hk.pred 17 (by kernel_rfl) 54 rfl
                obtain rfl := h54
                refine wl_pick (by decide) e43 rfl ?_
                exact wl_nil (qr_some ⟨Chg.refl _ _, rfl⟩)
              ·
                intro F wF hER hk
                obtain ⟨u55, e55, h55⟩ := hk.pred 18 (by kernel_rfl) 55 rfl
                obtain rfl := h55
                refine wl_move (by decide) e55 ?_
                exact wl_nil (qr_some ⟨Chg.refl _ _, rfl⟩)
              ·
                intro F wF hER hk
                obtain ⟨u56, e56, h56⟩ := hk.pred 19 (by kernel_rfl) 56 rfl
                obtain rfl := h56
                refine wl_gno (by decide) rfl e56 (.inl rfl) ?_
                exact wl_nil (qr_some ⟨Chg.refl _ _, rfl⟩)
              ·
                intro F wF hER hk
                obtain ⟨u56, e56, h56⟩ := hk.pred 19 (by kernel_rfl) 56 rfl
                obtain rfl := h56
                refine wl_gno (by decide) rfl e56 (.inl rfl) ?_
                exact wl_nil (qr_some ⟨Chg.refl _ _, rfl⟩)
              ·
                intro F wF hER hk
                obtain ⟨u56, e56, h56⟩ := hk.pred 19 (by kernel_rfl) 56 rfl
                obtain rfl := h56
                refine wl_gno (by decide) rfl e56 (.inl rfl) ?_
                exact wl_nil (qr_some ⟨Chg.refl _ _, rfl⟩)
              ·
                intro F wF hER hk
                obtain ⟨u56, e56, h56⟩ := hk.pred 19 (by kernel_rfl) 56 rfl
                obtain rfl := h56
                refine wl_gno (by decide) rfl e56 (.inl rfl) ?_
                exact wl_nil (qr_some ⟨Chg.refl _ _, rfl⟩)
              ·
                intro F wF hER hk
                obtain ⟨u56, e56, h56⟩ := hk.pred 19 (by kernel_rfl) 56 rfl
                obtain rfl := h56
                obtain ⟨u60, e60, h60⟩ := hk.pred 23 (by kernel_rfl) 60 rfl
                obtain rfl := h60
                refine wl_pick (by decide) e56 rfl ?_
                exact wl_nil (qr_some ⟨Chg.refl _ _, rfl⟩)
            ·
              intro F wD hED hini hdo
              have e0 := hini 0 _ rfl (by kernel_rfl)
              have e1 := hini 1 _ rfl (by kernel_rfl)
              have e3 := hini 3 _ rfl (by kernel_rfl)
              have e9 := hini 9 _ rfl (by kernel_rfl)
              obtain ⟨u61, e61, h61⟩ := hdo 24 61 rfl
              obtain rfl := h61
              refine wk_drop [(0, _), (1, _), (3, _), (9, _), (61, _)] ⟨e0, e1, e3, e9, e61, trivial⟩ ?_
              clear e0 e1 e3 e9 e61 hini hdo
              replace h := h.ext hED
              replace ho := ho.ext hED
              replace hatI := hatI.ext hED
              replace hEc := hEc.trans hED
              refine wk_norm ?_
              refine wc_cond_f rfl ?_
              refine wc_skip ?_
              refine wk_blk_norm ?_
              refine wk_norm ?_
              refine wc_region ?_
              refine wl_move (by decide) rfl ?_
              refine wl_add (by decide) rfl rfl (w64 (by omega) (by omega)) ?_
              refine wl_assign (by decide) rfl ?_
              refine wl_nil ?_
              refine wk_norm ?_
              refine wk_drop [(0, .slice A H.length c), (1, .slice B (nats p).length d), (3, .int .i64 (i : Int)), (9, .int .i64 ((k + 1) : Int))] ⟨rfl, rfl, rfl, rfl, trivial⟩ (hKL1 _ _ (m2 := H.length - (k + 1)) ?_ ?_)
              ·
                refine ⟨(k + 1), rfl, ?_, ?_, ?_, ?_, ?_, ?_, rfl⟩
                · omega
                · intro j hj he hb
                  by_cases e : j = k
                  · subst e; first | exact hq he hb | omega
                  · exact hall j (by omega) he hb
                · exact h
                · exact ho
                · exact hatI
                · exact hEc
              · omega
        ·
          try replace hlt := of_decide_eq_false hlt
          refine wc_exit ?_
          refine wk_then_exit ?_
          refine wk_then_exit ?_
          refine wk_blk_exit ?_
          refine wk_norm ?_
          refine wc_seq ?_
          refine wc_region ?_
          refine wl_assign (by decide) rfl ?_
          refine wl_nil ?_
          refine wk_norm ?_
          refine wc_ret ?_
          refine wk_post1 (.inl rfl) Try.results38 rfl ?_
          exact ⟨_, rfl, by rw [allow_yes hin (fun j hj => hall j (by omega)) hval], hEc⟩
    ·
      try replace hwr := of_decide_eq_false hwr
      replace hwr : (hop H i).wr = true := by simpa using hwr
      have hval : (hop H i).wr = true ∨ (hop H i).val = valueOf H first last := .inl hwr
      refine wl_gno (by decide) rfl rfl (.inl rfl) ?_
      refine wl_gno (by decide) rfl rfl (.inl rfl) ?_
      refine wl_gno (by decide) rfl rfl (.inl rfl) ?_
      refine wl_gno (by decide) rfl rfl (.inl rfl) ?_
      refine wl_gno (by decide) rfl rfl (.inl rfl) ?_
      refine wl_gno (by decide) rfl rfl (.inl rfl) ?_
      refine wl_gno (by decide) rfl rfl (.inl rfl) ?_
      refine wl_gno (by decide) rfl rfl (.inl rfl) ?_
      refine wl_gyes rfl rfl ?_
      refine wl_pick (by decide) rfl rfl ?_
      refine wl_pick (by decide) rfl rfl ?_
      refine wl_nil ?_
      refine wk_norm ?_
      refine wc_cond_f rfl ?_
      refine wc_skip ?_
      refine wk_norm ?_
      refine wc_seq ?_
      refine wc_seq ?_
      refine wc_region ?_
      refine wl_assign (by decide) rfl ?_
      refine wl_nil ?_
      refine wk_norm ?_
      refine wc_block ?_
      refine wc_loop (fun L' w' mes => ∃ (k : Nat), L' = [(0, .slice A H.length c), (1, .slice B (nats p).length d), (3, .int .i64 (i : Int)), (9, .int .i64 (k : Int))] ∧ (k ≤ H.length) ∧ (∀ j, j < k → 0 < (hop H j).e → (hop H j).e < (hop H i).b → s.testBit j = true) ∧ (HS S w' A c H) ∧ (IS S2 w' B d (nats p)) ∧ (AtF S w' (aI.add (i * 4)) _) ∧ (Ext w w') ∧ H.length - k = mes) [(0, .slice A H.length c), (1, .slice B (nats p).length d), (3, .int .i64 (i : Int)), (9, .int .i64 (0 : Int))] (H.length - 0) (by
          refine ⟨0, rfl, ?_, ?_, ?_, ?_, ?_, ?_, rfl⟩
          · omega
          · intro j hj; omega
          · exact h
          · exact ho
          · exact hatI
          · exact hEc) ⟨rfl, rfl, rfl, rfl, trivial⟩ ?_
      rintro _ wr _ ⟨k, rfl, hk, hall, h, ho, hatI, hEc, rfl⟩ KL1 hKL1
      have hmx := h.mx
      refine wc_seq ?_
      refine wc_seq ?_
      refine wc_region ?_
      refine wl_move (by decide) rfl ?_
      refine wl_move (by decide) rfl ?_
      refine wl_len (by decide) Try.underlying29 rfl ?_
      refine wl_lss (by decide) rfl rfl ?_
      refine wl_nil ?_
      refine wk_norm ?_
      refine wc_cond rfl (fun hlt => ?_) (fun hlt => ?_)
      ·
        try replace hlt := of_decide_eq_true hlt
        obtain ⟨aL, BL, dL, hAL, hatL, hvL⟩ := HS.el h k (by omega)
        refine wc_skip ?_
        refine wk_norm ?_
        refine wc_seq ?_
        refine wc_block ?_
        refine wc_seq ?_
        by_cases h5 : 0 < (hop H k).e
        ·
          by_cases h17 : (hop H k).e < (hop H i).b
          ·
            apply wc_drawL [SP.eq _, SP.eq _, SP.eq _, SP.eq _, SP.eq _, SP.eq (.bool true), SP.eq (.bool true), SP.eq _, SP.eq _, SP.eq _, SP.eq _, SP.eq _, SP.eq _, SP.eq _, SP.eq _, SP.eq _, SP.eq _, SP.eq (.bool true), SP.eq (.bool true), SP.eq (.bool true), SP.eq _, SP.eq _, SP.eq _, SP.eq _, SP.eq _] (by kernel_rfl) (by kernel_rfl)
            · refine ⟨?_, ?_, ?_, ?_, ?_, ?_, ?_, ?_, ?_, ?_, ?_, ?_, ?_, ?_, ?_, ?_, ?_, ?_, ?_, ?_, ?_, ?_, ?_, ?_, ?_, trivial⟩
              ·
                intro F wF hER hk
                have e0 := hk.init 0 _ rfl (by kernel_rfl)
                refine wl_move (by decide) e0 ?_
                exact wl_nil (qr_some ⟨Chg.refl _ _, rfl⟩)
              ·
                intro F wF hER hk
                have e9 := hk.init 9 _ rfl (by kernel_rfl)
                refine wl_move (by decide) e9 ?_
                exact wl_nil (qr_some ⟨Chg.refl _ _, rfl⟩)
              ·
                intro F wF hER hk
                obtain ⟨u37, e37, h37⟩ := hk.pred 0 (by kernel_rfl) 37 rfl
                obtain rfl := h37
                obtain ⟨u38, e38, h38⟩ := hk.pred 1 (by kernel_rfl) 38 rfl
                obtain rfl := h38
                refine wl_idx0 (by decide) Try.sl29 e37 e38 hAL k rfl (by omega) ?_
                exact wl_nil (qr_some ⟨Chg.refl _ _, rfl⟩)
              ·
                intro F wF hER hk
                obtain ⟨u39, e39, h39⟩ := hk.pred 2 (by kernel_rfl) 39 rfl
                obtain rfl := h39
                refine wl_fld (by decide) Try.fld56_3 e39 ?_
                exact wl_nil (qr_some ⟨Chg.refl _ _, rfl⟩)
              ·
                intro F wF hER hk
                obtain ⟨u40, e40, h40⟩ := hk.pred 3 (by kernel_rfl) 40 rfl
                obtain rfl := h40
                refine wl_load (by decide) Try.sc3 e40 ((hatL.ext hER).get rfl) ?_
                exact wl_nil (qr_some ⟨Chg.refl _ _, rfl⟩)
              ·
                intro F wF hER hk
                obtain ⟨u41, e41, h41⟩ := hk.pred 4 (by kernel_rfl) 41 rfl
                obtain rfl := h41
                refine wl_gtr (by decide) e41 rfl ?_
                refine wl_re (k := 42) (v := .bool true) rfl (congrArg Value.bool (decide_eq_true (by first | exact h5 | omega | simpa using h5))) ?_
                exact wl_nil (qr_re ⟨Chg.refl _ _, rfl⟩)
              ·
                intro F wF hER hk
                obtain ⟨u42, e42, h42⟩ := hk.pred 5 (by kernel_rfl) 42 rfl
                obtain rfl := h42
                refine wl_move (by decide) e42 ?_
                exact wl_nil (qr_some ⟨Chg.refl _ _, rfl⟩)
              ·
                intro F wF hER hk
                have e0 := hk.init 0 _ rfl (by kernel_rfl)
                obtain ⟨u43, e43, h43⟩ := hk.pred 6 (by kernel_rfl) 43 rfl
                obtain rfl := h43
                refine wl_gyes rfl e43 ?_
                refine wl_move (by decide) e0 ?_
                exact wl_nil (qr_some ⟨Chg.refl _ _, rfl⟩)
              ·
                intro F wF hER hk
                have e9 := hk.init 9 _ rfl (by kernel_rfl)
                obtain ⟨u43, e43, h43⟩ := hk.pred 6 (by kernel_rfl) 43 rfl
                obtain rfl := h43
                refine wl_gyes rfl e43 ?_
                refine wl_move (by decide) e9 ?_
                exact wl_nil (qr_some ⟨Chg.refl _ _, rfl⟩)
              ·
                intro F wF hER hk
                obtain ⟨u44, e44, h44⟩ := hk.pred 7 (by kernel_rfl) 44 rfl
                obtain rfl := h44
                obtain ⟨u45, e45, h45⟩ := hk.pred 8 (by kernel_rfl) 45 rfl
                obtain rfl := h45
                obtain ⟨u43, e43, h43⟩ := hk.pred 6 (by kernel_rfl) 43 rfl
                obtain rfl := h43
                refine wl_gyes rfl e43 ?_
                refine wl_idx0 (by decide) Try.sl29 e44 e45 hAL k rfl (by omega) ?_
                exact wl_nil (qr_some ⟨Chg.refl _ _, rfl⟩)
              ·
                intro F wF hER hk
                obtain ⟨u46, e46, h46⟩ := hk.pred 9 (by kernel_rfl) 46 rfl
                obtain rfl := h46
                obtain ⟨u43, e43, h43⟩ := hk.pred 6 (by kernel_rfl) 43 rfl
                obtain rfl := h43
                refine wl_gyes rfl e43 ?_
                refine wl_fld (by decide) Try.fld56_3 e46 ?_
                exact wl_nil (qr_some ⟨Chg.refl _ _, rfl⟩)
              ·
                intro F wF hER hk
                obtain ⟨u47, e47, h47⟩ := hk.pred 10 (by kernel_rfl) 47 rfl
                obtain rfl := h47
                obtain ⟨u43, e43, h43⟩ := hk.pred 6 (by kernel_rfl) 43 rfl
                obtain rfl := h43
                refine wl_gyes rfl e43 ?_
                refine wl_load (by decide) Try.sc3 e47 ((hatL.ext hER).get rfl) ?_
                exact wl_nil (qr_some ⟨Chg.refl _ _, rfl⟩)
              ·
                intro F wF hER hk
                have e0 := hk.init 0 _ rfl (by kernel_rfl)
                obtain ⟨u43, e43, h43⟩ := hk.pred 6 (by kernel_rfl) 43 rfl
                obtain rfl := h43
                refine wl_gyes rfl e43 ?_
                refine wl_move (by decide) e0 ?_
                exact wl_nil (qr_some ⟨Chg.refl _ _, rfl⟩)
              ·
                intro F wF hER hk
                have e3 := hk.init 3 _ rfl (by kernel_rfl)
                obtain ⟨u43, e43, h43⟩ := hk.pred 6 (by kernel_rfl) 43 rfl
                obtain rfl := h43
                refine wl_gyes rfl e43 ?_
                refine wl_move (by decide) e3 ?_
                exact wl_nil (qr_some ⟨Chg.refl _ _, rfl⟩)
              ·
                intro F wF hER hk
                obtain ⟨u49, e49, h49⟩ := hk.pred 12 (by kernel_rfl) 49 rfl
                obtain rfl := h49
                obtain ⟨u50, e50, h50⟩ := hk.pred 13 (by kernel_rfl) 50 rfl
                obtain rfl := h50
                obtain ⟨u43, e43, h43⟩ := hk.pred 6 (by kernel_rfl) 43 rfl
                obtain rfl := h43
                refine wl_gyes rfl e43 ?_
                refine wl_idx0 (by decide) Try.sl29 e49 e50 hAI i rfl (by omega) ?_
                exact wl_nil (qr_some ⟨Chg.refl _ _, rfl⟩)
              ·
                intro F wF hER hk
                obtain ⟨u51, e51, h51⟩ := hk.pred 14 (by kernel_rfl) 51 rfl
                obtain rfl := h51
                obtain ⟨u43, e43, h43⟩ := hk.pred 6 (by kernel_rfl) 43 rfl
                obtain rfl := h43
                refine wl_gyes rfl e43 ?_
                refine wl_fld (by decide) Try.fld56_2 e51 ?_
                exact wl_nil (qr_some ⟨Chg.refl _ _, rfl⟩)
              ·
                intro F wF hER hk
                obtain ⟨u52, e52, h52⟩ := hk.pred 15 (by kernel_rfl) 52 rfl
                obtain rfl := h52
                obtain ⟨u43, e43, h43⟩ := hk.pred 6 (by kernel_rfl) 43 rfl
                obtain rfl := h43
                refine wl_gyes rfl e43 ?_
                refine wl_load (by decide) Try.sc3 e52 ((hatI.ext hER).get rfl) ?_
                exact wl_nil (qr_some ⟨Chg.refl _ _, rfl⟩)
              ·
                intro F wF hER hk
                obtain ⟨u48, e48, h48⟩ := hk.pred 11 (by kernel_rfl) 48 rfl
                obtain rfl := h48
                obtain ⟨u53, e53, h53⟩ := hk.pred 16 (by kernel_rfl) 53 rfl
                obtain rfl := h53
                obtain ⟨u43, e43, h43⟩ := hk.pred 6 (by kernel_rfl) 43 rfl
                obtain rfl := h43
                refine wl_gyes rfl e43 ?_
                refine wl_lss (by decide) e48 e53 ?_
                refine wl_re (k := 54) (v := .bool true) rfl (congrArg Value.bool (decide_eq_true (by first | exact h17 | omega | simpa using h17))) ?_
                exact wl_nil (qr_re ⟨Chg.refl _ _, rfl⟩)
              ·
                intro F wF hER hk
                obtain ⟨u43, e43, h43⟩ := hk.pred 6 (by kernel_rfl) 43 rfl
                obtain rfl := h43
                obtain ⟨u54, e54, h54⟩ := hk.pred 17 (by kernel_rfl) 54 rfl
                obtain rfl := h54
                refine wl_pick (by decide) e43 e54 ?_
                exact wl_nil (qr_some ⟨Chg.refl _ _, rfl⟩)
              ·
                intro F wF hER hk
                obtain ⟨u55, e55, h55⟩ := hk.pred 18 (by kernel_rfl) 55 rfl
                obtain rfl := h55
                refine wl_move (by decide) e55 ?_
                exact wl_nil (qr_some ⟨Chg.refl _ _, rfl⟩)
              ·
                intro F wF hER hk
                have e1 := hk.init 1 _ rfl (by kernel_rfl)
                obtain ⟨u56, e56, h56⟩ := hk.pred 19 (by kernel_rfl) 56 rfl
                obtain rfl := h56
                refine wl_gyes rfl e56 ?_
                refine wl_move (by decide) e1 ?_
                exact wl_nil (qr_some ⟨Chg.refl _ _, rfl⟩)
              ·
                intro F wF hER hk
                have e9 := hk.init 9 _ rfl (by kernel_rfl)
                obtain ⟨u56, e56, h56⟩ := hk.pred 19 (by kernel_rfl) 56 rfl
                obtain rfl := h56
                refine wl_gyes rfl e56 ?_
                refine wl_move (by decide) e9 ?_
                exact wl_nil (qr_some ⟨Chg.refl _ _, rfl⟩)
              ·
                intro F wF hER hk
                obtain ⟨u57, e57, h57⟩ := hk.pred 20 (by kernel_rfl) 57 rfl
                obtain rfl := h57
                obtain ⟨u58, e58, h58⟩ := hk.pred 21 (by kernel_rfl) 58 rfl
                obtain rfl := h58
                obtain ⟨u56, e56, h56⟩ := hk.pred 19 (by kernel_rfl) 56 rfl
                obtain rfl := h56
                refine wl_gyes rfl e56 ?_
                refine wl_call (by decide) Try.cl40 (by simp only [evs, ev, e57, e58]; first | done | rfl) (has_ok (ho.ext hER)) ?_
                rintro _ w7 ⟨rfl, hE7⟩
                exact wl_nil (qr_some ⟨hE7, rfl⟩)
              ·
                intro F wF hER hk
                obtain ⟨u59, e59, h59⟩ := hk.pred 22 (by kernel_rfl) 59 rfl
                obtain rfl := h59
                obtain ⟨u56, e56, h56⟩ := hk.pred 19 (by kernel_rfl) 56 rfl
                obtain rfl := h56
                refine wl_gyes rfl e56 ?_
                first | refine wl_notd (by decide) e59 ?_ | refine wl_not (by decide) e59 ?_
                exact wl_nil (qr_some ⟨Chg.refl _ _, rfl⟩)
              ·
                intro F wF hER hk
                obtain ⟨u56, e56, h56⟩ := hk.pred 19 (by kernel_rfl) 56 rfl
                obtain rfl := h56
                obtain ⟨u60, e60, h60⟩ := hk.pred 23 (by kernel_rfl) 60 rfl
                obtain rfl := h60
                refine wl_pick (by decide) e56 e60 ?_
                exact wl_nil (qr_some ⟨Chg.refl _ _, rfl⟩)
            ·
              intro F wD hED hini hdo
              have e0 := hini 0 _ rfl (by kernel_rfl)
              have e1 := hini 1 _ rfl (by kernel_rfl)
              have e3 := hini 3 _ rfl (by kernel_rfl)
              have e9 := hini 9 _ rfl (by kernel_rfl)
              obtain ⟨u61, e61, h61⟩ := hdo 24 61 rfl
              obtain rfl := h61
              refine wk_drop [(0, _), (1, _), (3, _), (9, _), (61, _)] ⟨e0, e1, e3, e9, e61, trivial⟩ ?_
              clear e0 e1 e3 e9 e61 hini hdo
              replace h := h.ext hED
              replace ho := ho.ext hED
              replace hatI := hatI.ext hED
              replace hEc := hEc.trans hED
              refine wk_norm ?_
              refine wc_cond rfl (fun hq => ?_) (fun hq => ?_)
              ·
                try replace hq := of_decide_eq_true hq
                have hz : s.testBit k = false := by rw [hs]; exact decide_eq_false (fun hm => hq (nats_mem.2 hm))
                refine wc_seq ?_
                refine wc_region ?_
                refine wl_assign (by decide) rfl ?_
                refine wl_nil ?_
                refine wk_norm ?_
                refine wc_ret ?_
                refine wk_blk_ret ?_
                refine wk_then_ret ?_
                refine wk_then_ret ?_
                refine wk_blk_ret ?_
                refine wk_then_ret ?_
                refine wk_post1 (.inl rfl) Try.results38 rfl ?_
                exact ⟨_, rfl, by rw [allow_no_ahead (k := k) (by omega) h5 h17 hz], hEc⟩
              ·
                try replace hq := of_decide_eq_false hq
                replace hq : 0 < (hop H k).e → (hop H k).e < (hop H i).b → s.testBit k = true := fun _ _ => by rw [hs]; exact decide_eq_true (nats_mem.1 (Decidable.not_not.1 hq))
                refine wc_skip ?_
                refine wk_blk_norm ?_
                refine wk_norm ?_
                refine wc_region ?_
                refine wl_move (by decide) rfl ?_
                refine wl_add (by decide) rfl rfl (w64 (by omega) (by omega)) ?_
                refine wl_assign (by decide) rfl ?_
                refine wl_nil ?_
                refine wk_norm ?_
                refine wk_drop [(0, .slice A H.length c), (1, .slice B (nats p).length d), (3, .int .i64 (i : Int)), (9, .int .i64 ((k + 1) : Int))] ⟨rfl, rfl, rfl, rfl, trivial⟩ (hKL1 _ _ (m2 := H.length - (k + 1)) ?_ ?_)
                ·
                  refine ⟨(k + 1), rfl, ?_, ?_, ?_, ?_, ?_, ?_, rfl⟩
                  · omega
                  · intro j hj he hb
                    by_cases e : j = k
                    · subst e; first | exact hq he hb | omega
                    · exact hall j (by omega) he hb
                  · exact h
                  · exact ho
                  · exact hatI
                  · exact hEc
                · omega
          ·
            apply wc_drawL [SP.eq _, SP.eq _, SP.eq _, SP.eq _, SP.eq _, SP.eq (.bool true), SP.eq (.bool true), SP.eq _, SP.eq _, SP.eq _, SP.eq _, SP.eq _, SP.eq _, SP.eq _, SP.eq _, SP.eq _, SP.eq _, SP.eq (.bool false), SP.eq (.bool false), SP.eq (.bool false), SP.eq undef, SP.eq undef, SP.eq undef, SP.eq undef, SP.eq (.bool false)] (by kernel_rfl) (by kernel_rfl)
            · refine ⟨?_, ?_, ?_, ?_, ?_, ?_, ?_, ?_, ?_, ?_, ?_, ?_, ?_, ?_, ?_, ?_, ?_, ?_, ?_, ?_, ?_, ?_, ?_, ?_, ?_, trivial⟩
              ·
                intro F wF hER hk
                have e0 := hk.init 0 _ rfl (by kernel_rfl)
                refine wl_move (by decide) e0 ?_
                exact wl_nil (qr_some ⟨Chg.refl _ _, rfl⟩)
              ·
                intro F wF hER hk
                have e9 := hk.init 9 _ rfl (by kernel_rfl)
                refine wl_move (by decide) e9 ?_
                exact wl_nil (qr_some ⟨Chg.refl _ _, rfl⟩)
              ·
                intro F wF hER hk
                obtain ⟨u37, e37, h37⟩ := hk.pred 0 (by kernel_rfl) 37 rfl
                obtain rfl := h37
                obtain ⟨u38, e38, h38⟩ := hk.pred 1 (by kernel_rfl) 38 rfl
                obtain rfl := h38
                refine wl_idx0 (by decide) Try.sl29 e37 e38 hAL k rfl (by omega) ?_
                exact wl_nil (qr_some ⟨Chg.refl _ _, rfl⟩)
              ·
                intro F wF hER hk
                obtain ⟨u39, e39, h39⟩ := hk.pred 2 (by kernel_rfl) 39 rfl
                obtain rfl := h39
                refine wl_fld (by decide) Try.fld56_3 e39 ?_
                exact wl_nil (qr_some ⟨Chg.refl _ _, rfl⟩)
              ·
                intro F wF hER hk
                obtain ⟨u40, e40, h40⟩ := hk.pred 3 (by kernel_rfl) 40 rfl
                obtain rfl := h40
                refine wl_load (by decide) Try.sc3 e40 ((hatL.ext hER).get rfl) ?_
                exact wl_nil (qr_some ⟨Chg.refl _ _, rfl⟩)
              ·
                intro F wF hER hk
                obtain ⟨u41, e41, h41⟩ := hk.pred 4 (by kernel_rfl) 41 rfl
                obtain rfl := h41
                refine wl_gtr (by decide) e41 rfl ?_
                refine wl_re (k := 42) (v := .bool true) rfl (congrArg Value.bool (decide_eq_true (by first | exact h5 | omega | simpa using h5))) ?_
                exact wl_nil (qr_re ⟨Chg.refl _ _, rfl⟩)
              ·
                intro F wF hER hk
                obtain ⟨u42, e42, h42⟩ := hk.pred 5 (by kernel_rfl) 42 rfl
                obtain rfl := h42
                refine wl_move (by decide) e42 ?_
                exact wl_nil (qr_some ⟨Chg.refl _ _, rfl⟩)
              ·
                intro F wF hER hk
                have e0 := hk.init 0 _ rfl (by kernel_rfl)
                obtain ⟨u43, e43, h43⟩ := hk.pred 6 (by kernel_rfl) 43 rfl
                obtain rfl := h43
                refine wl_gyes rfl e43 ?_
                refine wl_move (by decide) e0 ?_
                exact wl_nil (qr_some ⟨Chg.refl _ _, rfl⟩)
              ·
                intro F wF hER hk
                have e9 := hk.init 9 _ rfl (by kernel_rfl)
                obtain ⟨u43, e43, h43⟩ := hk.pred 6 (by kernel_rfl) 43 rfl
                obtain rfl := h43
                refine wl_gyes rfl e43 ?_
                refine wl_move (by decide) e9 ?_
                exact wl_nil (qr_some ⟨Chg.refl _ _, rfl⟩)
              ·
                intro F wF hER hk
                obtain ⟨u44, e44, h44⟩ := hk.pred 7 (by kernel_rfl) 44 rfl
                obtain rfl := h44
                obtain ⟨u45, e45, h45⟩ := hk.pred 8 (by kernel_rfl) 45 rfl
                obtain rfl := h45
                obtain ⟨u43, e43, h43⟩ := hk.pred 6 (by kernel_rfl) 43 rfl
                obtain rfl := h43
                refine wl_gyes rfl e43 ?_
                refine wl_idx0 (by decide) Try.sl29 e44 e45 hAL k rfl (by omega) ?_
                exact wl_nil (qr_some ⟨Chg.refl _ _, rfl⟩)
              ·
                intro F wF hER hk
                obtain ⟨u46, e46, h46⟩ := hk.pred 9 (by kernel_rfl) 46 rfl
                obtain rfl := h46
                obtain ⟨u43, e43, h43⟩ := hk.pred 6 (by kernel_rfl) 43 rfl
                obtain rfl := h43
                refine wl_gyes rfl e43 ?_
                refine wl_fld (by decide) Try.fld56_3 e46 ?_
                exact wl_nil (qr_some ⟨Chg.refl _ _, rfl⟩)
              ·
                intro F wF hER hk
                obtain ⟨u47, e47, h47⟩ := hk.pred 10 (by kernel_rfl) 47 rfl
                obtain rfl := h47
                obtain ⟨u43, e43, h43⟩ := hk.pred 6 (by kernel_rfl) 43 rfl
                obtain rfl := h43
                refine wl_gyes rfl e43 ?_
                refine wl_load (by decide) Try.sc3 e47 ((hatL.ext hER).get rfl) ?_
                exact wl_nil (qr_some ⟨Chg.refl _ _, rfl⟩)
              ·
                intro F wF hER hk
                have e0 := hk.init 0 _ rfl (by kernel_rfl)
                obtain ⟨u43, e43, h43⟩ := hk.pred 6 (by kernel_rfl) 43 rfl
                obtain rfl := h43
                refine wl_gyes rfl e43 ?_
                refine wl_move (by decide) e0 ?_
                exact wl_nil (qr_some ⟨Chg.refl _ _, rfl⟩)
              ·
                intro F wF hER hk
                have e3 := hk.init 3 _ rfl (by kernel_rfl)
                obtain ⟨u43, e43, h43⟩ := hk.pred 6 (by kernel_rfl) 43 rfl
                obtain rfl := h43
                refine wl_gyes rfl e43 ?_
                refine wl_move (by decide) e3 ?_
                exact wl_nil (qr_some ⟨Chg.refl _ _, rfl⟩)
              ·
                intro F wF hER hk
                obtain ⟨u49, e49, h49⟩ := hk.pred 12 (by kernel_rfl) 49 rfl
                obtain rfl := h49
                obtain ⟨u50, e50, h50⟩ := hk.pred 13 (by kernel_rfl) 50 rfl
                obtain rfl := h50
                obtain ⟨u43, e43, h43⟩ := hk.pred 6 (by kernel_rfl) 43 rfl
                obtain rfl := h43
                refine wl_gyes rfl e43 ?_
                refine wl_idx0 (by decide) Try.sl29 e49 e50 hAI i rfl (by omega) ?_
                exact wl_nil (qr_some ⟨Chg.refl _ _, rfl⟩)
              ·
                intro F wF hER hk
                obtain ⟨u51, e51, h51⟩ := hk.pred 14 (by kernel_rfl) 51 rfl
                obtain rfl := h51
                obtain ⟨u43, e43, h43⟩ := hk.pred 6 (by kernel_rfl) 43 rfl
                obtain rfl := h43
                refine wl_gyes rfl e43 ?_
                refine wl_fld (by decide) Try.fld56_2 e51 ?_
                exact wl_nil (qr_some ⟨Chg.refl _ _, rfl⟩)
              ·
                intro F wF hER hk
                obtain ⟨u52, e52, h52⟩ := hk.pred 15 (by kernel_rfl) 52 rfl
                obtain rfl := h52
                obtain ⟨u43, e43, h43⟩ := hk.pred 6 (by kernel_rfl) 43 rfl
                obtain rfl := h43
                refine wl_gyes rfl e43 ?_
                refine wl_load (by decide) Try.sc3 e52 ((hatI.ext hER).get rfl) ?_
                exact wl_nil (qr_some ⟨Chg.refl _ _, rfl⟩)
              ·
                intro F wF hER hk
                obtain ⟨u48, e48, h48⟩ := hk.pred 11 (by kernel_rfl) 48 rfl
                obtain rfl := h48
                obtain ⟨u53, e53, h53⟩ := hk.pred 16 (by kernel_rfl) 53 rfl
                obtain rfl := h53
                obtain ⟨u43, e43, h43⟩ := hk.pred 6 (by kernel_rfl) 43 rfl
                obtain rfl := h43
                refine wl_gyes rfl e43 ?_
                refine wl_lss (by decide) e48 e53 ?_
                refine wl_re (k := 54) (v := .bool false) rfl (congrArg Value.bool (decide_eq_false (by first | exact h17 | omega | simpa using h17))) ?_
                exact wl_nil (qr_re ⟨Chg.refl _ _, rfl⟩)
              ·
                intro F wF hER hk
                obtain ⟨u43, e43, h43⟩ := hk.pred 6 (by kernel_rfl) 43 rfl
                obtain rfl := h43
                obtain ⟨u54, e54, h54⟩ := hk.pred 17 (by kernel_rfl) 54 rfl
                obtain rfl := h54
                refine wl_pick (by decide) e43 e54 ?_
                exact wl_nil (qr_some ⟨Chg.refl _ _, rfl⟩)
              ·
                intro F wF hER hk
                obtain ⟨u55, e55, h55⟩ := hk.pred 18 (by kernel_rfl) 55 rfl
                obtain rfl := h55
                refine wl_move (by decide) e55 ?_
                exact wl_nil (qr_some ⟨Chg.refl _ _, rfl⟩)
              ·
                intro F wF hER hk
                obtain ⟨u56, e56, h56⟩ := hk.pred 19 (by kernel_rfl) 56 rfl
                obtain rfl := h56
                refine wl_gno (by decide) rfl e56 (.inl rfl) ?_
                exact wl_nil (qr_some ⟨Chg.refl _ _, rfl⟩)
              ·
                intro F wF hER hk
                obtain ⟨u56, e56, h56⟩ := hk.pred 19 (by kernel_rfl) 56 rfl
                obtain rfl := h56
                refine wl_gno (by decide) rfl e56 (.inl rfl) ?_
                exact wl_nil (qr_some ⟨Chg.refl _ _, rfl⟩)
              ·
                intro F wF hER hk
                obtain ⟨u56, e56, h56⟩ := hk.pred 19 (by kernel_rfl) 56 rfl
                obtain rfl := h56
                refine wl_gno (by decide) rfl e56 (.inl rfl) ?_
                exact wl_nil (qr_some ⟨Chg.refl _ _, rfl⟩)
              ·
                intro F wF hER hk
                obtain ⟨u56, e56, h56⟩ := hk.pred 19 (by kernel_rfl) 56 rfl
                obtain rfl := h56
                refine wl_gno (by decide) rfl e56 (.inl rfl) ?_
                exact wl_nil (qr_some ⟨Chg.refl _ _, rfl⟩)
              ·
                intro F wF hER hk
                obtain ⟨u56, e56, h56⟩ := hk.pred 19 (by kernel_rfl) 56 rfl
                obtain rfl := h56
                obtain ⟨u60, e60, h60⟩ := hk.pred 23 (by kernel_rfl) 60 rfl
                obtain rfl := h60
                refine wl_pick (by decide) e56 rfl ?_
                exact wl_nil (qr_some ⟨Chg.refl _ _, rfl⟩)
            ·
              intro F wD hED hini hdo
              have e0 := hini 0 _ rfl (by kernel_rfl)
              have e1 := hini 1 _ rfl (by kernel_rfl)
              have e3 := hini 3 _ rfl (by kernel_rfl)
              have e9 := hini 9 _ rfl (by kernel_rfl)
              obtain ⟨u61, e61, h61⟩ := hdo 24 61 rfl
              obtain rfl := h61
              refine wk_drop [(0, _), (1, _), (3, _), (9, _), (61, _)] ⟨e0, e1, e3, e9, e61, trivial⟩ ?_
              clear e0 e1 e3 e9 e61 hini hdo
              replace h := h.ext hED
              replace ho := ho.ext hED
              replace hatI := hatI.ext hED
              replace hEc := hEc.trans hED
              refine wk_norm ?_
              refine wc_cond_f rfl ?_
              refine wc_skip ?_
              refine wk_blk_norm ?_
              refine wk_norm ?_
              refine wc_region ?_
              refine wl_move (by decide) rfl ?_
              refine wl_add (by decide) rfl rfl (w64 (by omega) (by omega)) ?_
              refine wl_assign (by decide) rfl ?_
              refine wl_nil ?_
              refine wk_norm ?_
              refine wk_drop [(0, .slice A H.length c), (1, .slice B (nats p).length d), (3, .int .i64 (i : Int)), (9, .int .i64 ((k + 1) : Int))] ⟨rfl, rfl, rfl, rfl, trivial⟩ (hKL1 _ _ (m2 := H.length - (k + 1)) ?_ ?_)
              ·
                refine ⟨(k + 1), rfl, ?_, ?_, ?_, ?_, ?_, ?_, rfl⟩
                · omega
                · intro j hj he hb
                  by_cases e : j = k
                  · subst e; first | exact hq he hb | omega
                  · exact hall j (by omega) he hb
                · exact h
                · exact ho
                · exact hatI
                · exact hEc
              · omega
        ·
          apply wc_drawL [SP.eq _, SP.eq _, SP.eq _, SP.eq _, SP.eq _, SP.eq (.bool false), SP.eq (.bool false), SP.eq undef, SP.eq undef, SP.eq undef, SP.eq undef, SP.eq undef, SP.eq undef, SP.eq undef, SP.eq undef, SP.eq undef, SP.eq undef, SP.eq undef, SP.eq (.bool false), SP.eq (.bool false), SP.eq undef, SP.eq undef, SP.eq undef, SP.eq undef, SP.eq (.bool false)] (by kernel_rfl) (by kernel_rfl)
          · refine ⟨?_, ?_, ?_, ?_, ?_, ?_, ?_, ?_, ?_, ?_, ?_, ?_, ?_, ?_, ?_, ?_, ?_, ?_, ?_, ?_, ?_, ?_, ?_, ?_, ?_, trivial⟩
            ·
              intro F wF hER hk
              have e0 := hk.init 0 _ rfl (by kernel_rfl)
              refine wl_move (by decide) e0 ?_
              exact wl_nil (qr_some ⟨Chg.refl _ _, rfl⟩)
            ·
              intro F wF hER hk
              have e9 := hk.init 9 _ rfl (by kernel_rfl)
              refine wl_move (by decide) e9 ?_
              exact wl_nil (qr_some ⟨Chg.refl _ _, rfl⟩)
            ·
              intro F wF hER hk
              obtain ⟨u37, e37, h37⟩ := hk.pred 0 (by kernel_rfl) 37 rfl
              obtain rfl := h37
              obtain ⟨u38, e38, h38⟩ := hk.pred 1 (by kernel_rfl) 38 rfl
              obtain rfl := h38
              refine wl_idx0 (by decide) Try.sl29 e37 e38 hAL k rfl (by omega) ?_
              exact wl_nil (qr_some ⟨Chg.refl _ _, rfl⟩)
            ·
              intro F wF hER hk
              obtain ⟨u39, e39, h39⟩ := hk.pred 2 (by kernel_rfl) 39 rfl
              obtain rfl := h39
              refine wl_fld (by decide) Try.fld56_3 e39 ?_
              exact wl_nil (qr_some ⟨Chg.refl _ _, rfl⟩)
            ·
              intro F wF hER hk
              obtain ⟨u40, e40, h40⟩ := hk.pred 3 (by kernel_rfl) 40 rfl
              obtain rfl := h40
              refine wl_load (by decide) Try.sc3 e40 ((hatL.ext hER).get rfl) ?_
              exact wl_nil (qr_some ⟨Chg.refl _ _, rfl⟩)
            ·
              intro F wF hER hk
              obtain ⟨u41, e41, h41⟩ := hk.pred 4 (by kernel_rfl) 41 rfl
              obtain rfl := h41
              refine wl_gtr (by decide) e41 rfl ?_
              refine wl_re (k := 42) (v := .bool false) rfl (congrArg Value.bool (decide_eq_false (by first | exact h5 | omega | simpa using h5))) ?_
              exact wl_nil (qr_re ⟨Chg.refl _ _, rfl⟩)
            ·
              intro F wF hER hk
              obtain ⟨u42, e42, h42⟩ := hk.pred 5 (by kernel_rfl) 42 rfl
              obtain rfl := h42
              refine wl_move (by decide) e42 ?_
              exact wl_nil (qr_some ⟨Chg.refl _ _, rfl⟩)
            ·
              intro F wF hER hk
              obtain ⟨u43, e43, h43⟩ := hk.pred 6 (by kernel_rfl) 43 rfl
              obtain rfl := h43
              refine wl_gno (by decide) rfl e43 (.inl rfl) ?_
              exact wl_nil (qr_some ⟨Chg.refl _ _, rfl⟩)
            ·
              intro F wF hER hk
              obtain ⟨u43, e43, h43⟩ := hk.pred 6 (by kernel_rfl) 43 rfl
              obtain rfl := h43
              refine wl_gno (by decide) rfl e43 (.inl rfl) ?_
              exact wl_nil (qr_some ⟨Chg.refl _ _, rfl⟩)
            ·
              intro F wF hER hk
              obtain ⟨u43, e43, h43⟩ := hk.pred 6 (by kernel_rfl) 43 rfl
              obtain rfl := h43
              refine wl_gno (by decide) rfl e43 (.inl rfl) ?_
              exact wl_nil (qr_some ⟨Chg.refl _ _, rfl⟩)
            ·
              intro F wF hER hk
              obtain ⟨u43, e43, h43⟩ := hk.pred 6 (by kernel_rfl) 43 rfl
              obtain rfl := h43
              refine wl_gno (by decide) rfl e43 (.inl rfl) ?_
              exact wl_nil (qr_some ⟨Chg.refl _ _, rfl⟩)
            ·
              intro F wF hER hk
              obtain ⟨u43, e43, h43⟩ := hk.pred 6 (by kernel_rfl) 43 rfl
              obtain rfl := h43
              refine wl_gno (by decide) rfl e43 (.inl rfl) ?_
              exact wl_nil (qr_some ⟨Chg.refl _ _, rfl⟩)
            ·
              intro F wF hER hk
              obtain ⟨u43, e43, h43⟩ := hk.pred 6 (by kernel_rfl) 43 rfl
              obtain rfl := h43
              refine wl_gno (by decide) rfl e43 (.inl rfl) ?_
              exact wl_nil (qr_some ⟨Chg.refl _ _, rfl⟩)
            ·
              intro F wF hER hk
              obtain ⟨u43, e43, h43⟩ := hk.pred 6 (by kernel_rfl) 43 rfl
              obtain rfl := h43
              refine wl_gno (by decide) rfl e43 (.inl rfl) ?_
              exact wl_nil (qr_some ⟨Chg.refl _ _, rfl⟩)
            ·
              intro F wF hER hk
              obtain ⟨u43, e43, h43⟩ := hk.pred 6 (by kernel_rfl) 43 rfl
              obtain rfl := h43
              refine wl_gno (by decide) rfl e43 (.inl rfl) ?_
              exact wl_nil (qr_some ⟨Chg.refl _ _, rfl⟩)
            ·
              intro F wF hER hk
              obtain ⟨u43, e43, h43⟩ := hk.pred 6 (by kernel_rfl) 43 rfl
              obtain rfl := h43
              refine wl_gno (by decide) rfl e43 (.inl rfl) ?_
              exact wl_nil (qr_some ⟨Chg.refl _ _, rfl⟩)
            ·
              intro F wF hER hk
              obtain ⟨u43, e43, h43⟩ := hk.pred 6 (by kernel_rfl) 43 rfl
              obtain rfl := h43
              refine wl_gno (by decide) rfl e43 (.inl rfl) ?_
              exact wl_nil (qr_some ⟨Chg.refl _ _, rfl⟩)
            ·
              intro F wF hER hk
              obtain ⟨u43, e43, h43⟩ := hk.pred 6 (by kernel_rfl) 43 rfl
              obtain rfl := h43
              refine wl_gno (by decide) rfl e43 (.inl rfl) ?_
              exact wl_nil (qr_some ⟨Chg.refl _ _, rfl⟩)
            ·
              intro F wF hER hk
              obtain ⟨u43, e43, h43⟩ := hk.pred 6 (by kernel_rfl) 43 rfl
              obtain rfl := h43
              obtain ⟨u54, e54, h54⟩ := hk.pred 17 (by kernel_rfl) 54 rfl
              obtain rfl := h54
              refine wl_pick (by decide) e43 rfl ?_
              exact wl_nil (qr_some ⟨Chg.refl _ _, rfl⟩)
            ·
              intro F wF hER hk
              obtain ⟨u55, e55, h55⟩ := hk.pred 18 (by kernel_rfl) 55 rfl
              obtain rfl := h55
              refine wl_move (by decide) e55 ?_
              exact wl_nil (qr_some ⟨Chg.refl _ _, rfl⟩)
            ·
              intro F wF hER hk
              obtain ⟨u56, e56, h56⟩ := hk.pred 19 (by kernel_rfl) 56 rfl
              obtain rfl := h56
              refine wl_gno (by decide) rfl e56 (.inl rfl) ?_
              exact wl_nil (qr_some ⟨Chg.refl _ _, rfl⟩)
            ·
              intro F wF hER hk
              obtain ⟨u56, e56, h56⟩ := hk.pred 19 (by kernel_rfl) 56 rfl
              obtain rfl := h56
              refine wl_gno (by decide) rfl e56 (.inl rfl) ?_
              exact wl_nil (qr_some ⟨Chg.refl _ _, rfl⟩)
            ·
              intro F wF hER hk
              obtain ⟨u56, e56, h56⟩ := hk.pred 19 (by kernel_rfl) 56 rfl
              obtain rfl := h56
              refine wl_gno (by decide) rfl e56 (.inl rfl) ?_
              exact wl_nil (qr_some ⟨Chg.refl _ _, rfl⟩)
            ·
              intro F wF hER hk
              obtain ⟨u56, e56, h56⟩ := hk.pred 19 (by kernel_rfl) 56 rfl
              obtain rfl := h56
              refine wl_gno (by decide) rfl e56 (.inl rfl) ?_
              exact wl_nil (qr_some ⟨Chg.refl _ _, rfl⟩)
            ·
              intro F wF hER hk
              obtain ⟨u56, e56, h56⟩ := hk.pred 19 (by kernel_rfl) 56 rfl
              obtain rfl := h56
              obtain ⟨u60, e60, h60⟩ := hk.pred 23 (by kernel_rfl) 60 rfl
              obtain rfl := h60
              refine wl_pick (by decide) e56 rfl ?_
              exact wl_nil (qr_some ⟨Chg.refl _ _, rfl⟩)
          ·
            intro F wD hED hini hdo
            have e0 := hini 0 _ rfl (by kernel_rfl)
            have e1 := hini 1 _ rfl (by kernel_rfl)
            have e3 := hini 3 _ rfl (by kernel_rfl)
            have e9 := hini 9 _ rfl (by kernel_rfl)
            obtain ⟨u61, e61, h61⟩ := hdo 24 61 rfl
            obtain rfl := h61
            refine wk_drop [(0, _), (1, _), (3, _), (9, _), (61, _)] ⟨e0, e1, e3, e9, e61, trivial⟩ ?_
            clear e0 e1 e3 e9 e61 hini hdo
            replace h := h.ext hED
            replace ho := ho.ext hED
            replace hatI := hatI.ext hED
            replace hEc := hEc.trans hED
            refine wk_norm ?_
            refine wc_cond_f rfl ?_
            refine wc_skip ?_
            refine wk_blk_norm ?_
            refine wk_norm ?_
            refine wc_region ?_
            refine wl_move (by decide) rfl ?_
            refine wl_add (by decide) rfl rfl (w64 (by omega) (by omega)) ?_
            refine wl_assign (by decide) rfl ?_
            refine wl_nil ?_
            refine wk_norm ?_
            refine wk_drop [(0, .slice A H.length c), (1, .slice B (nats p).length d), (3, .int .i64 (i : Int)), (9, .int .i64 ((k + 1) : Int))] ⟨rfl, rfl, rfl, rfl, trivial⟩ (hKL1 _ _ (m2 := H.length - (k + 1)) ?_ ?_)
            ·
              refine ⟨(k + 1), rfl, ?_, ?_, ?_, ?_, ?_, ?_, rfl⟩
              · omega
              · intro j hj he hb
                by_cases e : j = k
                · subst e; first | exact hq he hb | omega
                · exact hall j (by omega) he hb
              · exact h
              · exact ho
              · exact hatI
              · exact hEc
            · omega
      ·
        try replace hlt := of_decide_eq_false hlt
        refine wc_exit ?_
        refine wk_then_exit ?_
        refine wk_then_exit ?_
        refine wk_blk_exit ?_
        refine wk_norm ?_
        refine wc_seq ?_
        refine wc_region ?_
        refine wl_assign (by decide) rfl ?_
        refine wl_nil ?_
        refine wk_norm ?_
        refine wc_ret ?_
        refine wk_post1 (.inl rfl) Try.results38 rfl ?_
        exact ⟨_, rfl, by rw [allow_yes hin (fun j hj => hall j (by omega)) hval], hEc⟩

theorem chk_long {H : List HOp} (h : 14 < H.length) : chkH H = 5 := by rw [chkH, if_pos h]
theorem chk_bad {H : List HOp} {k : Nat} (hl : ¬ 14 < H.length) (hk : k < H.length) (hb : badOp (hop H k) = true) : chkH H = 2 := by
  rw [chkH, if_neg hl, if_pos]
  rw [List.any_eq_true]
  exact ⟨hop H k, by rw [hop_get H hk]; exact List.getElem_mem _, hb⟩
theorem chk_ok {H : List HOp} (hl : ¬ 14 < H.length) (hb : ∀ k, k < H.length → badOp (hop H k) = false) : chkH H = 0 := by
  rw [chkH_zero]
  refine ⟨by omega, fun x hx => ?_⟩
  obtain ⟨k, hk, rfl⟩ := List.mem_iff_getElem.1 hx
  rw [← hop_get H hk]
  exact hb k hk

theorem rcheck_ok {A : Option Addr} {c : Nat} {H : List HOp} {S : Nat → Prop} {w : World} (h : HS S w A c H) : Ret Try.prog 13 #[.slice A H.length c] w (fun v w' => v = .int .i64 (chkH H) ∧ Ext w w') := by
  refine ret_of_wk Try.func13 rfl Try.ntmps13 (Nat.le_of_ble_eq_true rfl) ?_
  refine wc_seq ?_
  refine wc_region ?_
  refine wl_assign (by decide) rfl ?_
  refine wl_nil ?_
  refine wk_norm ?_
  refine wc_seq ?_
  refine wc_seq ?_
  refine wc_region ?_
  refine wl_move (by decide) rfl ?_
  refine wl_len (by decide) Try.underlying29 rfl ?_
  refine wl_gtr (by decide) rfl rfl ?_
  refine wl_nil ?_
  refine wk_norm ?_
  refine wc_cond rfl (fun hl => ?_) (fun hl => ?_)
  ·
    try replace hl := of_decide_eq_true hl
    refine wc_seq ?_
    refine wc_region ?_
    refine wl_assign (by decide) rfl ?_
    refine wl_nil ?_
    refine wk_norm ?_
    refine wc_ret ?_
    refine wk_then_ret ?_
    refine wk_post1 (.inl rfl) Try.results13 rfl ?_
    exact ⟨_, rfl, by rw [chk_long (by omega)], Chg.refl _ _⟩
  ·
    try replace hl := of_decide_eq_false hl
    refine wc_skip ?_
    refine wk_norm ?_
    refine wc_seq ?_
    refine wc_seq ?_
    refine wc_region ?_
    refine wl_assign (by decide) rfl ?_
    refine wl_nil ?_
    refine wk_norm ?_
    refine wc_block ?_
    refine wc_loop (fun L' w' mes => ∃ (k : Nat), L' = [(0, .slice A H.length c), (3, .int .i64 (k : Int))] ∧ (k ≤ H.length) ∧ (∀ j, j < k → badOp (hop H j) = false) ∧ (Ext w w') ∧ H.length - k = mes) [(0, .slice A H.length c), (3, .int .i64 (0 : Int))] (H.length - 0) (by
        refine ⟨0, rfl, ?_, ?_, ?_, rfl⟩
        · omega
        · intro j hj; omega
        · exact Chg.refl _ _) ⟨rfl, rfl, trivial⟩ ?_
    rintro _ wr _ ⟨k, rfl, hk, hall, hw, rfl⟩ KL1 hKL1
    have hmx := h.mx
    refine wc_seq ?_
    refine wc_seq ?_
    refine wc_region ?_
    refine wl_move (by decide) rfl ?_
    refine wl_move (by decide) rfl ?_
    refine wl_len (by decide) Try.underlying29 rfl ?_
    refine wl_lss (by decide) rfl rfl ?_
    refine wl_nil ?_
    refine wk_norm ?_
    refine wc_cond rfl (fun hlt => ?_) (fun hlt => ?_)
    ·
      try replace hlt := of_decide_eq_true hlt
      obtain ⟨aL, BL, dL, hAL, hatL, hvL⟩ := HS.el (h.ext hw) k (by omega)
      refine wc_skip ?_
      refine wk_norm ?_
      refine wc_seq ?_
      refine wc_block ?_
      refine wc_seq ?_
      by_cases h5 : (hop H k).b < 1
      ·
        apply wc_drawL [SP.eq _, SP.eq _, SP.eq _, SP.eq _, SP.eq _, SP.eq (.bool true), SP.eq (.bool true), SP.eq undef, SP.eq undef, SP.eq undef, SP.eq undef, SP.eq undef, SP.eq undef, SP.eq undef, SP.eq undef, SP.eq undef, SP.eq undef, SP.eq undef, SP.eq undef, SP.eq undef, SP.eq undef, SP.eq undef, SP.eq undef, SP.eq undef, SP.eq undef, SP.eq undef, SP.eq (.bool true)] (by kernel_rfl) (by kernel_rfl)
        · refine ⟨?_, ?_, ?_, ?_, ?_, ?_, ?_, ?_, ?_, ?_, ?_, ?_, ?_, ?_, ?_, ?_, ?_, ?_, ?_, ?_, ?_, ?_, ?_, ?_, ?_, ?_, ?_, trivial⟩
          ·
            intro F wF hER hk
            have e0 := hk.init 0 _ rfl (by kernel_rfl)
            refine wl_move (by decide) e0 ?_
            exact wl_nil (qr_some ⟨Chg.refl _ _, rfl⟩)
          ·
            intro F wF hER hk
            have e3 := hk.init 3 _ rfl (by kernel_rfl)
            refine wl_move (by decide) e3 ?_
            exact wl_nil (qr_some ⟨Chg.refl _ _, rfl⟩)
          ·
            intro F wF hER hk
            obtain ⟨u13, e13, h13⟩ := hk.pred 0 (by kernel_rfl) 13 rfl
            obtain rfl := h13
            obtain ⟨u14, e14, h14⟩ := hk.pred 1 (by kernel_rfl) 14 rfl
            obtain rfl := h14
            refine wl_idx0 (by decide) Try.sl29 e13 e14 hAL k rfl (by omega) ?_
            exact wl_nil (qr_some ⟨Chg.refl _ _, rfl⟩)
          ·
            intro F wF hER hk
            obtain ⟨u15, e15, h15⟩ := hk.pred 2 (by kernel_rfl) 15 rfl
            obtain rfl := h15
            refine wl_fld (by decide) Try.fld56_2 e15 ?_
            exact wl_nil (qr_some ⟨Chg.refl _ _, rfl⟩)
          ·
            intro F wF hER hk
            obtain ⟨u16, e16, h16⟩ := hk.pred 3 (by kernel_rfl) 16 rfl
            obtain rfl := h16
            refine wl_load (by decide) Try.sc3 e16 ((hatL.ext hER).get rfl) ?_
            exact wl_nil (qr_some ⟨Chg.refl _ _, rfl⟩)
          ·
            intro F wF hER hk
            obtain ⟨u17, e17, h17⟩ := hk.pred 4 (by kernel_rfl) 17 rfl
            obtain rfl := h17
            refine wl_lss (by decide) e17 rfl ?_
            refine wl_re (k := 18) (v := .bool true) rfl (congrArg Value.bool (decide_eq_true (by first | exact h5 | omega | simpa using h5))) ?_
            exact wl_nil (qr_re ⟨Chg.refl _ _, rfl⟩)
          ·
            intro F wF hER hk
            obtain ⟨u18, e18, h18⟩ := hk.pred 5 (by kernel_rfl) 18 rfl
            obtain rfl := h18
            refine wl_move (by decide) e18 ?_
            exact wl_nil (qr_some ⟨Chg.refl _ _, rfl⟩)
          ·
            intro F wF hER hk
            obtain ⟨u19, e19, h19⟩ := hk.pred 6 (by kernel_rfl) 19 rfl
            obtain rfl := h19
            refine wl_gno (by decide) rfl e19 (.inl rfl) ?_
            exact wl_nil (qr_some ⟨Chg.refl _ _, rfl⟩)
          ·
            intro F wF hER hk
            obtain ⟨u19, e19, h19⟩ := hk.pred 6 (by kernel_rfl) 19 rfl
            obtain rfl := h19
            refine wl_gno (by decide) rfl e19 (.inl rfl) ?_
            exact wl_nil (qr_some ⟨Chg.refl _ _, rfl⟩)
          ·
            intro F wF hER hk
            obtain ⟨u19, e19, h19⟩ := hk.pred 6 (by kernel_rfl) 19 rfl
            obtain rfl := h19
            refine wl_gno (by decide) rfl e19 (.inl rfl) ?_
            exact wl_nil (qr_some ⟨Chg.refl _ _, rfl⟩)
          ·
            intro F wF hER hk
            obtain ⟨u19, e19, h19⟩ := hk.pred 6 (by kernel_rfl) 19 rfl
            obtain rfl := h19
            refine wl_gno (by decide) rfl e19 (.inl rfl) ?_
            exact wl_nil (qr_some ⟨Chg.refl _ _, rfl⟩)
          ·
            intro F wF hER hk
            obtain ⟨u19, e19, h19⟩ := hk.pred 6 (by kernel_rfl) 19 rfl
            obtain rfl := h19
            refine wl_gno (by decide) rfl e19 (.inl rfl) ?_
            exact wl_nil (qr_some ⟨Chg.refl _ _, rfl⟩)
          ·
            intro F wF hER hk
            obtain ⟨u19, e19, h19⟩ := hk.pred 6 (by kernel_rfl) 19 rfl
            obtain rfl := h19
            refine wl_gno (by decide) rfl e19 (.inl rfl) ?_
            exact wl_nil (qr_some ⟨Chg.refl _ _, rfl⟩)
          ·
            intro F wF hER hk
            obtain ⟨u19, e19, h19⟩ := hk.pred 6 (by kernel_rfl) 19 rfl
            obtain rfl := h19
            refine wl_gno (by decide) rfl e19 (.inl rfl) ?_
            exact wl_nil (qr_some ⟨Chg.refl _ _, rfl⟩)
          ·
            intro F wF hER hk
            obtain ⟨u26, e26, h26⟩ := hk.pred 13 (by kernel_rfl) 26 rfl
            obtain rfl := h26
            refine wl_gno (by decide) rfl e26 (.inr rfl) ?_
            exact wl_nil (qr_some ⟨Chg.refl _ _, rfl⟩)
          ·
            intro F wF hER hk
            obtain ⟨u26, e26, h26⟩ := hk.pred 13 (by kernel_rfl) 26 rfl
            obtain rfl := h26
            refine wl_gno (by decide) rfl e26 (.inr rfl) ?_
            exact wl_nil (qr_some ⟨Chg.refl _ _, rfl⟩)
          ·
            intro F wF hER hk
            obtain ⟨u26, e26, h26⟩ := hk.pred 13 (by kernel_rfl) 26 rfl
            obtain rfl := h26
            refine wl_gno (by decide) rfl e26 (.inr rfl) ?_
            exact wl_nil (qr_some ⟨Chg.refl _ _, rfl⟩)
          ·
            intro F wF hER hk
            obtain ⟨u26, e26, h26⟩ := hk.pred 13 (by kernel_rfl) 26 rfl
            obtain rfl := h26
            refine wl_gno (by decide) rfl e26 (.inr rfl) ?_
            exact wl_nil (qr_some ⟨Chg.refl _ _, rfl⟩)
          ·
            intro F wF hER hk
            obtain ⟨u26, e26, h26⟩ := hk.pred 13 (by kernel_rfl) 26 rfl
            obtain rfl := h26
            refine wl_gno (by decide) rfl e26 (.inr rfl) ?_
            exact wl_nil (qr_some ⟨Chg.refl _ _, rfl⟩)
          ·
            intro F wF hER hk
            obtain ⟨u26, e26, h26⟩ := hk.pred 13 (by kernel_rfl) 26 rfl
            obtain rfl := h26
            refine wl_gno (by decide) rfl e26 (.inr rfl) ?_
            exact wl_nil (qr_some ⟨Chg.refl _ _, rfl⟩)
          ·
            intro F wF hER hk
            obtain ⟨u26, e26, h26⟩ := hk.pred 13 (by kernel_rfl) 26 rfl
            obtain rfl := h26
            refine wl_gno (by decide) rfl e26 (.inr rfl) ?_
            exact wl_nil (qr_some ⟨Chg.refl _ _, rfl⟩)
          ·
            intro F wF hER hk
            obtain ⟨u26, e26, h26⟩ := hk.pred 13 (by kernel_rfl) 26 rfl
            obtain rfl := h26
            refine wl_gno (by decide) rfl e26 (.inr rfl) ?_
            exact wl_nil (qr_some ⟨Chg.refl _ _, rfl⟩)
          ·
            intro F wF hER hk
            obtain ⟨u26, e26, h26⟩ := hk.pred 13 (by kernel_rfl) 26 rfl
            obtain rfl := h26
            refine wl_gno (by decide) rfl e26 (.inr rfl) ?_
            exact wl_nil (qr_some ⟨Chg.refl _ _, rfl⟩)
          ·
            intro F wF hER hk
            obtain ⟨u26, e26, h26⟩ := hk.pred 13 (by kernel_rfl) 26 rfl
            obtain rfl := h26
            refine wl_gno (by decide) rfl e26 (.inr rfl) ?_
            exact wl_nil (qr_some ⟨Chg.refl _ _, rfl⟩)
          ·
            intro F wF hER hk
            obtain ⟨u26, e26, h26⟩ := hk.pred 13 (by kernel_rfl) 26 rfl
            obtain rfl := h26
            refine wl_gno (by decide) rfl e26 (.inr rfl) ?_
            exact wl_nil (qr_some ⟨Chg.refl _ _, rfl⟩)
          ·
            intro F wF hER hk
            obtain ⟨u19, e19, h19⟩ := hk.pred 6 (by kernel_rfl) 19 rfl
            obtain rfl := h19
            refine wl_gno (by decide) rfl e19 (.inl rfl) ?_
            exact wl_nil (qr_some ⟨Chg.refl _ _, rfl⟩)
          ·
            intro F wF hER hk
            obtain ⟨u19, e19, h19⟩ := hk.pred 6 (by kernel_rfl) 19 rfl
            obtain rfl := h19
            obtain ⟨u38, e38, h38⟩ := hk.pred 25 (by kernel_rfl) 38 rfl
            obtain rfl := h38
            refine wl_pick (by decide) e19 rfl ?_
            exact wl_nil (qr_some ⟨Chg.refl _ _, rfl⟩)
        ·
          intro F wD hED hini hdo
          have e0 := hini 0 _ rfl (by kernel_rfl)
          have e3 := hini 3 _ rfl (by kernel_rfl)
          obtain ⟨u39, e39, h39⟩ := hdo 26 39 rfl
          obtain rfl := h39
          refine wk_drop [(0, _), (3, _), (39, _)] ⟨e0, e3, e39, trivial⟩ ?_
          clear e0 e3 e39 hini hdo
          refine wk_norm ?_
          refine wc_cond_t rfl ?_
          refine wc_seq ?_
          refine wc_region ?_
          refine wl_assign (by decide) rfl ?_
          refine wl_nil ?_
          refine wk_norm ?_
          refine wc_ret ?_
          refine wk_blk_ret ?_
          refine wk_then_ret ?_
          refine wk_then_ret ?_
          refine wk_blk_ret ?_
          refine wk_then_ret ?_
          refine wk_post1 (.inl rfl) Try.results13 rfl ?_
          exact ⟨_, rfl, by rw [chk_bad (k := k) (by omega) (by omega) (by unfold badOp; exact decide_eq_true (by omega))], hw.trans hED⟩
      ·
        by_cases h12 : (hop H k).e ≠ 0
        ·
          apply wc_drawL [SP.eq _, SP.eq _, SP.eq _, SP.eq _, SP.eq _, SP.eq (.bool false), SP.eq (.bool false), SP.eq _, SP.eq _, SP.eq _, SP.eq _, SP.eq _, SP.eq (.bool true), SP.eq (.bool true), SP.eq _, SP.eq _, SP.eq _, SP.eq _, SP.eq _, SP.eq _, SP.eq _, SP.eq _, SP.eq _, SP.eq _, SP.eq _, SP.eq _, SP.eq _] (by kernel_rfl) (by kernel_rfl)
          · refine ⟨?_, ?_, ?_, ?_, ?_, ?_, ?_, ?_, ?_, ?_, ?_, ?_, ?_, ?_, ?_, ?_, ?_, ?_, ?_, ?_, ?_, ?_, ?_, ?_, ?_, ?_, ?_, trivial⟩
            ·
              intro F wF hER hk
              have e0 := hk.init 0 _ rfl (by kernel_rfl)
              refine wl_move (by decide) e0 ?_
              exact wl_nil (qr_some ⟨Chg.refl _ _, rfl⟩)
            ·
              intro F wF hER hk
              have e3 := hk.init 3 _ rfl (by kernel_rfl)
              refine wl_move (by decide) e3 ?_
              exact wl_nil (qr_some ⟨Chg.refl _ _, rfl⟩)
            ·
              intro F wF hER hk
              obtain ⟨u13, e13, h13⟩ := hk.pred 0 (by kernel_rfl) 13 rfl
              obtain rfl := h13
              obtain ⟨u14, e14, h14⟩ := hk.pred 1 (by kernel_rfl) 14 rfl
              obtain rfl := h14
              refine wl_idx0 (by decide) Try.sl29 e13 e14 hAL k rfl (by omega) ?_
              exact wl_nil (qr_some ⟨Chg.refl _ _, rfl⟩)
            ·
              intro F wF hER hk
              obtain ⟨u15, e15, h15⟩ := hk.pred 2 (by kernel_rfl) 15 rfl
              obtain rfl := h15
              refine wl_fld (by decide) Try.fld56_2 e15 ?_
              exact wl_nil (qr_some ⟨Chg.refl _ _, rfl⟩)
            ·
              intro F wF hER hk
              obtain ⟨u16, e16, h16⟩ := hk.pred 3 (by kernel_rfl) 16 rfl
              obtain rfl := h16
              refine wl_load (by decide) Try.sc3 e16 ((hatL.ext hER).get rfl) ?_
              exact wl_nil (qr_some ⟨Chg.refl _ _, rfl⟩)
            ·
              intro F wF hER hk
              obtain ⟨u17, e17, h17⟩ := hk.pred 4 (by kernel_rfl) 17 rfl
              obtain rfl := h17
              refine wl_lss (by decide) e17 rfl ?_
              refine wl_re (k := 18) (v := .bool false) rfl (congrArg Value.bool (decide_eq_false (by first | exact h5 | omega | simpa using h5))) ?_
              exact wl_nil (qr_re ⟨Chg.refl _ _, rfl⟩)
            ·
              intro F wF hER hk
              obtain ⟨u18, e18, h18⟩ := hk.pred 5 (by kernel_rfl) 18 rfl
              obtain rfl := h18
              refine wl_move (by decide) e18 ?_
              exact wl_nil (qr_some ⟨Chg.refl _ _, rfl⟩)
            ·
              intro F wF hER hk
              have e0 := hk.init 0 _ rfl (by kernel_rfl)
              obtain ⟨u19, e19, h19⟩ := hk.pred 6 (by kernel_rfl) 19 rfl
              obtain rfl := h19
              refine wl_gyes rfl e19 ?_
              refine wl_move (by decide) e0 ?_
              exact wl_nil (qr_some ⟨Chg.refl _ _, rfl⟩)
            ·
              intro F wF hER hk
              have e3 := hk.init 3 _ rfl (by kernel_rfl)
              obtain ⟨u19, e19, h19⟩ := hk.pred 6 (by kernel_rfl) 19 rfl
              obtain rfl := h19
              refine wl_gyes rfl e19 ?_
              refine wl_move (by decide) e3 ?_
              exact wl_nil (qr_some ⟨Chg.refl _ _, rfl⟩)
            ·
              intro F wF hER hk
              obtain ⟨u20, e20, h20⟩ := hk.pred 7 (by kernel_rfl) 20 rfl
              obtain rfl := h20
              obtain ⟨u21, e21, h21⟩ := hk.pred 8 (by kernel_rfl) 21 rfl
              obtain rfl := h21
              obtain ⟨u19, e19, h19⟩ := hk.pred 6 (by kernel_rfl) 19 rfl
              obtain rfl := h19
              refine wl_gyes rfl e19 ?_
              refine wl_idx0 (by decide) Try.sl29 e20 e21 hAL k rfl (by omega) ?_
              exact wl_nil (qr_some ⟨Chg.refl _ _, rfl⟩)
            ·
              intro F wF hER hk
              obtain ⟨u22, e22, h22⟩ := hk.pred 9 (by kernel_rfl) 22 rfl
              obtain rfl := h22
              obtain ⟨u19, e19, h19⟩ := hk.pred 6 (by kernel_rfl) 19 rfl
              obtain rfl := h19
              refine wl_gyes rfl e19 ?_
              refine wl_fld (by decide) Try.fld56_3 e22 ?_
              exact wl_nil (qr_some ⟨Chg.refl _ _, rfl⟩)
            ·
              intro F wF hER hk
              obtain ⟨u23, e23, h23⟩ := hk.pred 10 (by kernel_rfl) 23 rfl
              obtain rfl := h23
              obtain ⟨u19, e19, h19⟩ := hk.pred 6 (by kernel_rfl) 19 rfl
              obtain rfl := h19
              refine wl_gyes rfl e19 ?_
              refine wl_load (by decide) Try.sc3 e23 ((hatL.ext hER).get rfl) ?_
              exact wl_nil (qr_some ⟨Chg.refl _ _, rfl⟩)
            ·
              intro F wF hER hk
              obtain ⟨u24, e24, h24⟩ := hk.pred 11 (by kernel_rfl) 24 rfl
              obtain rfl := h24
              obtain ⟨u19, e19, h19⟩ := hk.pred 6 (by kernel_rfl) 19 rfl
              obtain rfl := h19
              refine wl_gyes rfl e19 ?_
              refine wl_neq (by decide) e24 rfl ?_
              refine wl_re (k := 25) (v := .bool true) rfl (congrArg Value.bool (decide_eq_true (by first | exact h12 | omega | simpa using h12))) ?_
              exact wl_nil (qr_re ⟨Chg.refl _ _, rfl⟩)
            ·
              intro F wF hER hk
              obtain ⟨u25, e25, h25⟩ := hk.pred 12 (by kernel_rfl) 25 rfl
              obtain rfl := h25
              obtain ⟨u19, e19, h19⟩ := hk.pred 6 (by kernel_rfl) 19 rfl
              obtain rfl := h19
              refine wl_gyes rfl e19 ?_
              refine wl_move (by decide) e25 ?_
              exact wl_nil (qr_some ⟨Chg.refl _ _, rfl⟩)
            ·
              intro F wF hER hk
              have e0 := hk.init 0 _ rfl (by kernel_rfl)
              obtain ⟨u26, e26, h26⟩ := hk.pred 13 (by kernel_rfl) 26 rfl
              obtain rfl := h26
              refine wl_gyes rfl e26 ?_
              refine wl_move (by decide) e0 ?_
              exact wl_nil (qr_some ⟨Chg.refl _ _, rfl⟩)
            ·
              intro F wF hER hk
              have e3 := hk.init 3 _ rfl (by kernel_rfl)
              obtain ⟨u26, e26, h26⟩ := hk.pred 13 (by kernel_rfl) 26 rfl
              obtain rfl := h26
              refine wl_gyes rfl e26 ?_
              refine wl_move (by decide) e3 ?_
              exact wl_nil (qr_some ⟨Chg.refl _ _, rfl⟩)
            ·
              intro F wF hER hk
              obtain ⟨u27, e27, h27⟩ := hk.pred 14 (by kernel_rfl) 27 rfl
              obtain rfl := h27
              obtain ⟨u28, e28, h28⟩ := hk.pred 15 (by kernel_rfl) 28 rfl
              obtain rfl := h28
              obtain ⟨u26, e26, h26⟩ := hk.pred 13 (by kernel_rfl) 26 rfl
              obtain rfl := h26
              refine wl_gyes rfl e26 ?_
              refine wl_idx0 (by decide) Try.sl29 e27 e28 hAL k rfl (by omega) ?_
              exact wl_nil (qr_some ⟨Chg.refl _ _, rfl⟩)
            ·
              intro F wF hER hk
              obtain ⟨u29, e29, h29⟩ := hk.pred 16 (by kernel_rfl) 29 rfl
              obtain rfl := h29
              obtain ⟨u26, e26, h26⟩ := hk.pred 13 (by kernel_rfl) 26 rfl
              obtain rfl := h26
              refine wl_gyes rfl e26 ?_
              refine wl_fld (by decide) Try.fld56_3 e29 ?_
              exact wl_nil (qr_some ⟨Chg.refl _ _, rfl⟩)
            ·
              intro F wF hER hk
              obtain ⟨u30, e30, h30⟩ := hk.pred 17 (by kernel_rfl) 30 rfl
              obtain rfl := h30
              obtain ⟨u26, e26, h26⟩ := hk.pred 13 (by kernel_rfl) 26 rfl
              obtain rfl := h26
              refine wl_gyes rfl e26 ?_
              refine wl_load (by decide) Try.sc3 e30 ((hatL.ext hER).get rfl) ?_
              exact wl_nil (qr_some ⟨Chg.refl _ _, rfl⟩)
            ·
              intro F wF hER hk
              have e0 := hk.init 0 _ rfl (by kernel_rfl)
              obtain ⟨u26, e26, h26⟩ := hk.pred 13 (by kernel_rfl) 26 rfl
              obtain rfl := h26
              refine wl_gyes rfl e26 ?_
              refine wl_move (by decide) e0 ?_
              exact wl_nil (qr_some ⟨Chg.refl _ _, rfl⟩)
            ·
              intro F wF hER hk
              have e3 := hk.init 3 _ rfl (by kernel_rfl)
              obtain ⟨u26, e26, h26⟩ := hk.pred 13 (by kernel_rfl) 26 rfl
              obtain rfl := h26
              refine wl_gyes rfl e26 ?_
              refine wl_move (by decide) e3 ?_
              exact wl_nil (qr_some ⟨Chg.refl _ _, rfl⟩)
            ·
              intro F wF hER hk
              obtain ⟨u32, e32, h32⟩ := hk.pred 19 (by kernel_rfl) 32 rfl
              obtain rfl := h32
              obtain ⟨u33, e33, h33⟩ := hk.pred 20 (by kernel_rfl) 33 rfl
              obtain rfl := h33
              obtain ⟨u26, e26, h26⟩ := hk.pred 13 (by kernel_rfl) 26 rfl
              obtain rfl := h26
              refine wl_gyes rfl e26 ?_
              refine wl_idx0 (by decide) Try.sl29 e32 e33 hAL k rfl (by omega) ?_
              exact wl_nil (qr_some ⟨Chg.refl _ _, rfl⟩)
            ·
              intro F wF hER hk
              obtain ⟨u34, e34, h34⟩ := hk.pred 21 (by kernel_rfl) 34 rfl
              obtain rfl := h34
              obtain ⟨u26, e26, h26⟩ := hk.pred 13 (by kernel_rfl) 26 rfl
              obtain rfl := h26
              refine wl_gyes rfl e26 ?_
              refine wl_fld (by decide) Try.fld56_2 e34 ?_
              exact wl_nil (qr_some ⟨Chg.refl _ _, rfl⟩)
            ·
              intro F wF hER hk
              obtain ⟨u35, e35, h35⟩ := hk.pred 22 (by kernel_rfl) 35 rfl
              obtain rfl := h35
              obtain ⟨u26, e26, h26⟩ := hk.pred 13 (by kernel_rfl) 26 rfl
              obtain rfl := h26
              refine wl_gyes rfl e26 ?_
              refine wl_load (by decide) Try.sc3 e35 ((hatL.ext hER).get rfl) ?_
              exact wl_nil (qr_some ⟨Chg.refl _ _, rfl⟩)
            ·
              intro F wF hER hk
              obtain ⟨u31, e31, h31⟩ := hk.pred 18 (by kernel_rfl) 31 rfl
              obtain rfl := h31
              obtain ⟨u36, e36, h36⟩ := hk.pred 23 (by kernel_rfl) 36 rfl
              obtain rfl := h36
              obtain ⟨u26, e26, h26⟩ := hk.pred 13 (by kernel_rfl) 26 rfl
              obtain rfl := h26
              refine wl_gyes rfl e26 ?_
              refine wl_leq (by decide) e31 e36 ?_
              exact wl_nil (qr_some ⟨Chg.refl _ _, rfl⟩)
            ·
              intro F wF hER hk
              obtain ⟨u26, e26, h26⟩ := hk.pred 13 (by kernel_rfl) 26 rfl
              obtain rfl := h26
              obtain ⟨u37, e37, h37⟩ := hk.pred 24 (by kernel_rfl) 37 rfl
              obtain rfl := h37
              obtain ⟨u19, e19, h19⟩ := hk.pred 6 (by kernel_rfl) 19 rfl
              obtain rfl := h19
              refine wl_gyes rfl e19 ?_
              refine wl_pick (by decide) e26 e37 ?_
              exact wl_nil (qr_some ⟨Chg.refl _ _, rfl⟩)
            ·
              intro F wF hER hk
              obtain ⟨u19, e19, h19⟩ := hk.pred 6 (by kernel_rfl) 19 rfl
              obtain rfl := h19
              obtain ⟨u38, e38, h38⟩ := hk.pred 25 (by kernel_rfl) 38 rfl
              obtain rfl := h38
              refine wl_pick (by decide) e19 e38 ?_
              exact wl_nil (qr_some ⟨Chg.refl _ _, rfl⟩)
          ·
            intro F wD hED hini hdo
            have e0 := hini 0 _ rfl (by kernel_rfl)
            have e3 := hini 3 _ rfl (by kernel_rfl)
            obtain ⟨u39, e39, h39⟩ := hdo 26 39 rfl
            obtain rfl := h39
            refine wk_drop [(0, _), (3, _), (39, _)] ⟨e0, e3, e39, trivial⟩ ?_
            clear e0 e3 e39 hini hdo
            refine wk_norm ?_
            refine wc_cond rfl (fun hq => ?_) (fun hq => ?_)
            ·
              try replace hq := of_decide_eq_true hq
              refine wc_seq ?_
              refine wc_region ?_
              refine wl_assign (by decide) rfl ?_
              refine wl_nil ?_
              refine wk_norm ?_
              refine wc_ret ?_
              refine wk_blk_ret ?_
              refine wk_then_ret ?_
              refine wk_then_ret ?_
              refine wk_blk_ret ?_
              refine wk_then_ret ?_
              refine wk_post1 (.inl rfl) Try.results13 rfl ?_
              exact ⟨_, rfl, by rw [chk_bad (k := k) (by omega) (by omega) (by unfold badOp; exact decide_eq_true (by omega))], hw.trans hED⟩
            ·
              try replace hq := of_decide_eq_false hq
              refine wc_skip ?_
              refine wk_blk_norm ?_
              refine wk_norm ?_
              refine wc_region ?_
              refine wl_move (by decide) rfl ?_
              refine wl_add (by decide) rfl rfl (w64 (by omega) (by omega)) ?_
              refine wl_assign (by decide) rfl ?_
              refine wl_nil ?_
              refine wk_norm ?_
              refine wk_drop [(0, .slice A H.length c), (3, .int .i64 ((k + 1) : Int))] ⟨rfl, rfl, trivial⟩ (hKL1 _ _ (m2 := H.length - (k + 1)) ?_ ?_)
              ·
                refine ⟨(k + 1), rfl, ?_, ?_, ?_, rfl⟩
                · omega
                · intro j hj
                  by_cases e : j = k
                  · subst e; unfold badOp; exact decide_eq_false (by omega)
                  · exact hall j (by omega)
                · exact hw.trans hED
              · omega
        ·
          apply wc_drawL [SP.eq _, SP.eq _, SP.eq _, SP.eq _, SP.eq _, SP.eq (.bool false), SP.eq (.bool false), SP.eq _, SP.eq _, SP.eq _, SP.eq _, SP.eq _, SP.eq (.bool false), SP.eq (.bool false), SP.eq undef, SP.eq undef, SP.eq undef, SP.eq undef, SP.eq undef, SP.eq undef, SP.eq undef, SP.eq undef, SP.eq undef, SP.eq undef, SP.eq undef, SP.eq (.bool false), SP.eq (.bool false)] (by kernel_rfl) (by kernel_rfl)
          · refine ⟨?_, ?_, ?_, ?_, ?_, ?_, ?_, ?_, ?_, ?_, ?_, ?_, ?_, ?_, ?_, ?_, ?_, ?_, ?_, ?_, ?_, ?_, ?_, ?_, ?_, ?_, ?_, trivial⟩
            ·
              intro F wF hER hk
              have e0 := hk.init 0 _ rfl (by kernel_rfl)
              refine wl_move (by decide) e0 ?_
              exact wl_nil (qr_some ⟨Chg.refl _ _, rfl⟩)
            ·
              intro F wF hER hk
              have e3 := hk.init 3 _ rfl (by kernel_rfl)
              refine wl_move (by decide) e3 ?_
              exact wl_nil (qr_some ⟨Chg.refl _ _, rfl⟩)
            ·
              intro F wF hER hk
              obtain ⟨u13, e13, h13⟩ := hk.pred 0 (by kernel_rfl) 13 rfl
              obtain rfl := h13
              obtain ⟨u14, e14, h14⟩ := hk.pred 1 (by kernel_rfl) 14 rfl
              obtain rfl := h14
              refine wl_idx0 (by decide) Try.sl29 e13 e14 hAL k rfl (by omega) ?_
              exact wl_nil (qr_some ⟨Chg.refl _ _, rfl⟩)
            ·
              intro F wF hER hk
              obtain ⟨u15, e15, h15⟩ := hk.pred 2 (by kernel_rfl) 15 rfl
              obtain rfl := h15
              refine wl_fld (by decide) Try.fld56_2 e15 ?_
              exact wl_nil (qr_some ⟨Chg.refl _ _, rfl⟩)
            ·
              intro F wF hER hk
              obtain ⟨u16, e16, h16⟩ := hk.pred 3 (by kernel_rfl) 16 rfl
              obtain rfl := h16
              refine wl_load (by decide) Try.sc3 e16 ((hatL.ext hER).get rfl) ?_
              exact wl_nil (qr_some ⟨Chg.refl _ _, rfl⟩)
            ·
              intro F wF hER hk
              obtain ⟨u17, e17, h17⟩ := hk.pred 4 (by kernel_rfl) 17 rfl
              obtain rfl := h17
              refine wl_lss (by decide) e17 rfl ?_
              refine wl_re (k := 18) (v := .bool false) rfl (congrArg Value.bool (decide_eq_false (by first | exact h5 | omega | simpa using h5))) ?_
              exact wl_nil (qr_re ⟨Chg.refl _ _, rfl⟩)
            ·
              intro F wF hER hk
              obtain ⟨u18, e18, h18⟩ := hk.pred 5 (by kernel_rfl) 18 rfl
              obtain rfl := h18
              refine wl_move (by decide) e18 ?_
              exact wl_nil (qr_some ⟨Chg.refl _ _, rfl⟩)
            ·
              intro F wF hER hk
              have e0 := hk.init 0 _ rfl (by kernel_rfl)
              obtain ⟨u19, e19, h19⟩ := hk.pred 6 (by kernel_rfl) 19 rfl
              obtain rfl := h19
              refine wl_gyes rfl e19 ?_
              refine wl_move (by decide) e0 ?_
              exact wl_nil (qr_some ⟨Chg.refl _ _, rfl⟩)
            ·
              intro F wF hER hk
              have e3 := hk.init 3 _ rfl (by kernel_rfl)
              obtain ⟨u19, e19, h19⟩ := hk.pred 6 (by kernel_rfl) 19 rfl
              obtain rfl := h19
              refine wl_gyes rfl e19 ?_
              refine wl_move (by decide) e3 ?_
              exact wl_nil (qr_some ⟨Chg.refl _ _, rfl⟩)
            ·
              intro F wF hER hk
              obtain ⟨u20, e20, h20⟩ := hk.pred 7 (by kernel_rfl) 20 rfl
              obtain rfl := h20
              obtain ⟨u21, e21, h21⟩ := hk.pred 8 (by kernel_rfl) 21 rfl
              obtain rfl := h21
              obtain ⟨u19, e19, h19⟩ := hk.pred 6 (by kernel_rfl) 19 rfl
              obtain rfl := h19
              refine wl_gyes rfl e19 ?_
              refine wl_idx0 (by decide) Try.sl29 e20 e21 hAL k rfl (by omega) ?_
              exact wl_nil (qr_some ⟨Chg.refl _ _, rfl⟩)
            ·
              intro F wF hER hk
              obtain ⟨u22, e22, h22⟩ := hk.pred 9 (by kernel_rfl) 22 rfl
              obtain rfl := h22
              obtain ⟨u19, e19, h19⟩ := hk.pred 6 (by kernel_rfl) 19 rfl
              obtain rfl := h19
              refine wl_gyes rfl e19 ?_
              refine wl_fld (by decide) Try.fld56_3 e22 ?_
              exact wl_nil (qr_some ⟨Chg.refl _ _, rfl⟩)
            ·
              intro F wF hER hk
              obtain ⟨u23, e23, h23⟩ := hk.pred 10 (by kernel_rfl) 23 rfl
              obtain rfl := h23
              obtain ⟨u19, e19, h19⟩ := hk.pred 6 (by kernel_rfl) 19 rfl
              obtain rfl := h19
              refine wl_gyes rfl e19 ?_
              refine wl_load (by decide) Try.sc3 e23 ((hatL.ext hER).get rfl) ?_
              exact wl_nil (qr_some ⟨Chg.refl _ _, rfl⟩)
            ·
              intro F wF hER hk
              obtain ⟨u24, e24, h24⟩ := hk.pred 11 (by kernel_rfl) 24 rfl
              obtain rfl := h24
              obtain ⟨u19, e19, h19⟩ := hk.pred 6 (by kernel_rfl) 19 rfl
              obtain rfl := h19
              refine wl_gyes rfl e19 ?_
              refine wl_neq (by decide) e24 rfl ?_
              refine wl_re (k := 25) (v := .bool false) rfl (congrArg Value.bool (decide_eq_false (by first | exact h12 | omega | simpa using h12))) ?_
              exact wl_nil (qr_re ⟨Chg.refl _ _, rfl⟩)
            ·
              intro F wF hER hk
              obtain ⟨u25, e25, h25⟩ := hk.pred 12 (by kernel_rfl) 25 rfl
              obtain rfl := h25
              obtain ⟨u19, e19, h19⟩ := hk.pred 6 (by kernel_rfl) 19 rfl
              obtain rfl := h19
              refine wl_gyes rfl e19 ?_
              refine wl_move (by decide) e25 ?_
              exact wl_nil (qr_some ⟨Chg.refl _ _, rfl⟩)
            ·
              intro F wF hER hk
              obtain ⟨u26, e26, h26⟩ := hk.pred 13 (by kernel_rfl) 26 rfl
              obtain rfl := h26
              refine wl_gno (by decide) rfl e26 (.inl rfl) ?_
              exact wl_nil (qr_some ⟨Chg.refl _ _, rfl⟩)
            ·
              intro F wF hER hk
              obtain ⟨u26, e26, h26⟩ := hk.pred 13 (by kernel_rfl) 26 rfl
              obtain rfl := h26
              refine wl_gno (by decide) rfl e26 (.inl rfl) ?_
              exact wl_nil (qr_some ⟨Chg.refl _ _, rfl⟩)
            ·
              intro F wF hER hk
              obtain ⟨u26, e26, h26⟩ := hk.pred 13 (by kernel_rfl) 26 rfl
              obtain rfl := h26
              refine wl_gno (by decide) rfl e26 (.inl rfl) ?_
              exact wl_nil (qr_some ⟨Chg.refl _ _, rfl⟩)
            ·
              intro F wF hER hk
              obtain ⟨u26, e26, h26⟩ := hk.pred 13 (by kernel_rfl) 26 rfl
              obtain rfl := h26
              refine wl_gno (by decide) rfl e26 (.inl rfl) ?_
              exact wl_nil (qr_some ⟨Chg.refl _ _, rfl⟩)
            ·
              intro F wF hER hk
              obtain ⟨u26, e26, h26⟩ := hk.pred 13 (by kernel_rfl) 26 rfl
              obtain rfl := h26
              refine wl_gno (by decide) rfl e26 (.inl rfl) ?_
              exact wl_nil (qr_some ⟨Chg.refl _ _, rfl⟩)
            ·
              intro F wF hER hk
              obtain ⟨u26, e26, h26⟩ := hk.pred 13 (by kernel_rfl) 26 rfl
              obtain rfl := h26
              refine wl_gno (by decide) rfl e26 (.inl rfl) ?_
              exact wl_nil (qr_some ⟨Chg.refl _ _, rfl⟩)
            ·
              intro F wF hER hk
              obtain ⟨u26, e26, h26⟩ := hk.pred 13 (by kernel_rfl) 26 rfl
              obtain rfl := h26
              refine wl_gno (by decide) rfl e26 (.inl rfl) ?_
              exact wl_nil (qr_some ⟨Chg.refl _ _, rfl⟩)
            ·
              intro F wF hER hk
              obtain ⟨u26, e26, h26⟩ := hk.pred 13 (by kernel_rfl) 26 rfl
              obtain rfl := h26
              refine wl_gno (by decide) rfl e26 (.inl rfl) ?_
              exact wl_nil (qr_some ⟨Chg.refl _ _, rfl⟩)
            ·
              intro F wF hER hk
              obtain ⟨u26, e26, h26⟩ := hk.pred 13 (by kernel_rfl) 26 rfl
              obtain rfl := h26
              refine wl_gno (by decide) rfl e26 (.inl rfl) ?_
              exact wl_nil (qr_some ⟨Chg.refl _ _, rfl⟩)
            ·
              intro F wF hER hk
              obtain ⟨u26, e26, h26⟩ := hk.pred 13 (by kernel_rfl) 26 rfl
              obtain rfl := h26
              refine wl_gno (by decide) rfl e26 (.inl rfl) ?_
              exact wl_nil (qr_some ⟨Chg.refl _ _, rfl⟩)
            ·
              intro F wF hER hk
              obtain ⟨u26, e26, h26⟩ := hk.pred 13 (by kernel_rfl) 26 rfl
              obtain rfl := h26
              refine wl_gno (by decide) rfl e26 (.inl rfl) ?_
              exact wl_nil (qr_some ⟨Chg.refl _ _, rfl⟩)
            ·
              intro F wF hER hk
              obtain ⟨u26, e26, h26⟩ := hk.pred 13 (by kernel_rfl) 26 rfl
              obtain rfl := h26
              obtain ⟨u37, e37, h37⟩ := hk.pred 24 (by kernel_rfl) 37 rfl
              obtain rfl := h37
              obtain ⟨u19, e19, h19⟩ := hk.pred 6 (by kernel_rfl) 19 rfl
              obtain rfl := h19
              refine wl_gyes rfl e19 ?_
              refine wl_pick (by decide) e26 rfl ?_
              exact wl_nil (qr_some ⟨Chg.refl _ _, rfl⟩)
            ·
              intro F wF hER hk
              obtain ⟨u19, e19, h19⟩ := hk.pred 6 (by kernel_rfl) 19 rfl
              obtain rfl := h19
              obtain ⟨u38, e38, h38⟩ := hk.pred 25 (by kernel_rfl) 38 rfl
              obtain rfl := h38
              refine wl_pick (by decide) e19 e38 ?_
              exact wl_nil (qr_some ⟨Chg.refl _ _, rfl⟩)
          ·
            intro F wD hED hini hdo
            have e0 := hini 0 _ rfl (by kernel_rfl)
            have e3 := hini 3 _ rfl (by kernel_rfl)
            obtain ⟨u39, e39, h39⟩ := hdo 26 39 rfl
            obtain rfl := h39
            refine wk_drop [(0, _), (3, _), (39, _)] ⟨e0, e3, e39, trivial⟩ ?_
            clear e0 e3 e39 hini hdo
            refine wk_norm ?_
            refine wc_cond_f rfl ?_
            refine wc_skip ?_
            refine wk_blk_norm ?_
            refine wk_norm ?_
            refine wc_region ?_
            refine wl_move (by decide) rfl ?_
            refine wl_add (by decide) rfl rfl (w64 (by omega) (by omega)) ?_
            refine wl_assign (by decide) rfl ?_
            refine wl_nil ?_
            refine wk_norm ?_
            refine wk_drop [(0, .slice A H.length c), (3, .int .i64 ((k + 1) : Int))] ⟨rfl, rfl, trivial⟩ (hKL1 _ _ (m2 := H.length - (k + 1)) ?_ ?_)
            ·
              refine ⟨(k + 1), rfl, ?_, ?_, ?_, rfl⟩
              · omega
              · intro j hj
                by_cases e : j = k
                · subst e; unfold badOp; exact decide_eq_false (by omega)
                · exact hall j (by omega)
              · exact hw.trans hED
            · omega
    ·
      try replace hlt := of_decide_eq_false hlt
      refine wc_exit ?_
      refine wk_then_exit ?_
      refine wk_then_exit ?_
      refine wk_blk_exit ?_
      refine wk_norm ?_
      refine wc_seq ?_
      refine wc_region ?_
      refine wl_assign (by decide) rfl ?_
      refine wl_nil ?_
      refine wk_norm ?_
      refine wc_ret ?_
      refine wk_post1 (.inl rfl) Try.results13 rfl ?_
      exact ⟨_, rfl, by rw [chk_ok (by omega) (fun j hj => hall j (by omega))], hw⟩

theorem chk1_ok {x : HOp} {A : Option Addr} {c : Nat} {w : World} : Ret Try.prog 30 #[.agg #[.bool x.wr, .slice A x.val.length c, .int .i64 x.b, .int .i64 x.e]] w (fun v w' => v = .bool (badOp x) ∧ Ext w w') := by
  refine ret_of_wk Try.func30 rfl Try.ntmps30 (Nat.le_of_ble_eq_true rfl) ?_
  have hp := HP.begin_ w
  refine wc_seq ?_
  refine wc_region ?_
  refine wl_hbox (by decide) rfl hp ?_
  rintro gs1 w1 hp1 hE1
  replace hp := hp1
  refine wl_assign (by decide) rfl ?_
  refine wl_nil ?_
  refine wk_norm ?_
  refine wc_seq ?_
  refine wc_region ?_
  refine wl_fld' (o' := 2) (by decide) Try.fld45_2 rfl rfl ?_
  refine wl_hload (i := 0) (by decide) Try.sc3 rfl hp rfl rfl ?_
  refine wl_lss (by decide) rfl rfl ?_
  refine wl_move (by decide) rfl ?_
  refine wl_gsplit (dj := 6) rfl (fun h5 => ?_) (fun h5 => ?_)
  ·
    try replace h5 := of_decide_eq_true h5
    refine wl_gno (by decide) rfl rfl (.inl rfl) ?_
    refine wl_gno (by decide) rfl rfl (.inl rfl) ?_
    refine wl_gno (by decide) rfl rfl (.inl rfl) ?_
    refine wl_gno (by decide) rfl rfl (.inl rfl) ?_
    refine wl_gno (by decide) rfl rfl (.inr rfl) ?_
    refine wl_gno (by decide) rfl rfl (.inr rfl) ?_
    refine wl_gno (by decide) rfl rfl (.inr rfl) ?_
    refine wl_gno (by decide) rfl rfl (.inr rfl) ?_
    refine wl_gno (by decide) rfl rfl (.inr rfl) ?_
    refine wl_gno (by decide) rfl rfl (.inl rfl) ?_
    refine wl_pick (by decide) rfl rfl ?_
    refine wl_assign (by decide) rfl ?_
    refine wl_nil ?_
    refine wk_norm ?_
    refine wc_ret ?_
    refine wk_post1 (.inl rfl) Try.results30 rfl ?_
    exact ⟨_, rfl, by unfold badOp; refine congrArg Value.bool ?_; first | exact (decide_eq_true (by omega)).symm | exact (decide_eq_false (by omega)).symm | exact decide_eq_decide.2 (by omega), hp.chg⟩
  ·
    try replace h5 := of_decide_eq_false h5
    refine wl_gyes rfl rfl ?_
    refine wl_fld' (o' := 3) (by decide) Try.fld45_3 rfl rfl ?_
    refine wl_gyes rfl rfl ?_
    refine wl_hload (i := 0) (by decide) Try.sc3 rfl hp rfl rfl ?_
    refine wl_gyes rfl rfl ?_
    refine wl_neq (by decide) rfl rfl ?_
    refine wl_gyes rfl rfl ?_
    refine wl_move (by decide) rfl ?_
    refine wl_gsplit (dj := 10) rfl (fun h12 => ?_) (fun h12 => ?_)
    ·
      try replace h12 := of_decide_eq_true h12
      refine wl_gyes rfl rfl ?_
      refine wl_fld' (o' := 3) (by decide) Try.fld45_3 rfl rfl ?_
      refine wl_gyes rfl rfl ?_
      refine wl_hload (i := 0) (by decide) Try.sc3 rfl hp rfl rfl ?_
      refine wl_gyes rfl rfl ?_
      refine wl_fld' (o' := 2) (by decide) Try.fld45_2 rfl rfl ?_
      refine wl_gyes rfl rfl ?_
      refine wl_hload (i := 0) (by decide) Try.sc3 rfl hp rfl rfl ?_
      refine wl_gyes rfl rfl ?_
      refine wl_leq (by decide) rfl rfl ?_
      refine wl_gyes rfl rfl ?_
      refine wl_pick (by decide) rfl rfl ?_
      refine wl_pick (by decide) rfl rfl ?_
      refine wl_assign (by decide) rfl ?_
      refine wl_nil ?_
      refine wk_norm ?_
      refine wc_ret ?_
      refine wk_post1 (.inl rfl) Try.results30 rfl ?_
      exact ⟨_, rfl, by unfold badOp; refine congrArg Value.bool ?_; first | exact (decide_eq_true (by omega)).symm | exact (decide_eq_false (by omega)).symm | exact decide_eq_decide.2 (by omega), hp.chg⟩
    ·
      try replace h12 := of_decide_eq_false h12
      refine wl_gno (by decide) rfl rfl (.inl rfl) ?_
      refine wl_gno (by decide) rfl rfl (.inl rfl) ?_
      refine wl_gno (by decide) rfl rfl (.inl rfl) ?_
      refine wl_gno (by decide) rfl rfl (.inl rfl) ?_
      refine wl_gno (by decide) rfl rfl (.inl rfl) ?_
      refine wl_gyes rfl rfl ?_
      refine wl_pick (by decide) rfl rfl ?_
      refine wl_pick (by decide) rfl rfl ?_
      refine wl_assign (by decide) rfl ?_
      refine wl_nil ?_
      refine wk_norm ?_
      refine wc_ret ?_
      refine wk_post1 (.inl rfl) Try.results30 rfl ?_
      exact ⟨_, rfl, by unfold badOp; refine congrArg Value.bool ?_; first | exact (decide_eq_true (by omega)).symm | exact (decide_eq_false (by omega)).symm | exact decide_eq_decide.2 (by omega), hp.chg⟩

theorem idx_ok {A : Option Addr} {c : Nat} {H : List HOp} {S : Nat → Prop} {w : World} (h : HS S w A c H) : Ret Try.prog 35 #[.slice A H.length c, .func (.func 30) #[] #[]] w (fun v w' => ∃ r, v = .int .i64 r ∧ decide (0 ≤ r) = H.any badOp ∧ Ext w w') := by
  refine ret_of_wk Try.func35 rfl Try.ntmps35 (Nat.le_of_ble_eq_true rfl) ?_
  refine wc_seq ?_
  refine wc_region ?_
  refine wl_assign (by decide) rfl ?_
  refine wl_nil ?_
  refine wk_norm ?_
  refine wc_seq ?_
  refine wc_seq ?_
  refine wc_region ?_
  refine wl_move (by decide) rfl ?_
  refine wl_len (by decide) Try.underlying22 rfl ?_
  refine wl_move (by decide) rfl ?_
  refine wl_nil ?_
  refine wk_norm ?_
  refine wc_block ?_
  refine wc_loop (fun L' w' mes => ∃ (k : Nat), L' = [(0, .slice A H.length c), (1, .func (.func 30) #[] #[]), (7, .int .i64 (H.length : Int)), (8, .int .i64 (k : Int))] ∧ (k ≤ H.length) ∧ (∀ j, j < k → badOp (hop H j) = false) ∧ (Ext w w') ∧ H.length - k = mes) [(0, .slice A H.length c), (1, .func (.func 30) #[] #[]), (7, .int .i64 (H.length : Int)), (8, .int .i64 (0 : Int))] (H.length - 0) (by
      refine ⟨0, rfl, ?_, ?_, ?_, rfl⟩
      · omega
      · intro j hj; omega
      · exact Chg.refl _ _) ⟨rfl, rfl, rfl, rfl, trivial⟩ ?_
  rintro _ wr _ ⟨k, rfl, hk, hall, hE, rfl⟩ KL1 hKL1
  have hmx := h.mx
  refine wc_seq ?_
  refine wc_region ?_
  refine wl_lss (by decide) rfl rfl ?_
  refine wl_nil ?_
  refine wk_norm ?_
  refine wc_seq ?_
  refine wc_cond rfl (fun hlt => ?_) (fun hlt => ?_)
  ·
    try replace hlt := of_decide_eq_true hlt
    obtain ⟨aL, BL, dL, hAL, hatL, hvL⟩ := HS.el (h.ext hE) k (by omega)
    refine wc_skip ?_
    refine wk_norm ?_
    refine wc_seq ?_
    refine wc_block ?_
    refine wc_seq ?_
    refine wc_region ?_
    refine wl_move (by decide) rfl ?_
    refine wl_assign (by decide) rfl ?_
    refine wl_nil ?_
    refine wk_norm ?_
    refine wc_seq ?_
    refine wc_region ?_
    refine wl_move (by decide) rfl ?_
    refine wl_move (by decide) rfl ?_
    refine wl_move (by decide) rfl ?_
    refine wl_idx0 (by decide) Try.sl22 rfl rfl hAL k rfl (by omega) ?_
    refine wl_loadA (by decide) Try.ag45 rfl hatL.at_ rfl ?_
    refine wl_callv (f := 30) (first := []) (cap := []) (by decide) Try.cl30 rfl rfl (chk1_ok (x := hop H k)) ?_
    rintro _ w5 ⟨rfl, hE5⟩
    refine wl_nil ?_
    refine wk_norm ?_
    refine wc_cond rfl (fun hq => ?_) (fun hq => ?_)
    ·
      try replace hq := of_decide_eq_true hq
      replace hq : badOp (hop H k) = true := by first | exact hq | exact decide_eq_true hq
      refine wc_seq ?_
      refine wc_region ?_
      refine wl_move (by decide) rfl ?_
      refine wl_assign (by decide) rfl ?_
      refine wl_nil ?_
      refine wk_norm ?_
      refine wc_ret ?_
      refine wk_blk_ret ?_
      refine wk_then_ret ?_
      refine wk_then_ret ?_
      refine wk_blk_ret ?_
      refine wk_then_ret ?_
      refine wk_post1 (.inl rfl) Try.results35 rfl ?_
      exact ⟨_, rfl, _, rfl, by rw [decide_eq_true (by omega)]; exact (List.any_eq_true.2 ⟨hop H k, by rw [hop_get H (by omega)]; exact List.getElem_mem _, hq⟩).symm, hE.trans hE5⟩
    ·
      try replace hq := of_decide_eq_false hq
      replace hq : badOp (hop H k) = false := by first | exact hq | exact decide_eq_false hq
      refine wc_skip ?_
      refine wk_blk_norm ?_
      refine wk_norm ?_
      refine wc_region ?_
      refine wl_add (by decide) rfl rfl (w64 (by omega) (by omega)) ?_
      refine wl_move (by decide) rfl ?_
      refine wl_nil ?_
      refine wk_norm ?_
      refine wk_drop [(0, .slice A H.length c), (1, .func (.func 30) #[] #[]), (7, .int .i64 (H.length : Int)), (8, .int .i64 ((k + 1) : Int))] ⟨rfl, rfl, rfl, rfl, trivial⟩ (hKL1 _ _ (m2 := H.length - (k + 1)) ?_ ?_)
      ·
        refine ⟨(k + 1), rfl, ?_, ?_, ?_, rfl⟩
        · omega
        · intro j hj
          by_cases e : j = k
          · subst e; exact hq
          · exact hall j (by omega)
        · exact hE.trans hE5
      · omega
  ·
    try replace hlt := of_decide_eq_false hlt
    refine wc_exit ?_
    refine wk_then_exit ?_
    refine wk_then_exit ?_
    refine wk_blk_exit ?_
    refine wk_norm ?_
    refine wc_seq ?_
    refine wc_region ?_
    refine wl_assign (by decide) rfl ?_
    refine wl_nil ?_
    refine wk_norm ?_
    refine wc_ret ?_
    refine wk_post1 (.inl rfl) Try.results35 rfl ?_
    have hf : H.any badOp = false := by
      cases hb : H.any badOp
      · rfl
      · obtain ⟨x, hx, hxb⟩ := List.any_eq_true.1 hb
        obtain ⟨j, hj, rfl⟩ := List.mem_iff_getElem.1 hx
        rw [← hop_get H hj, hall j (by omega)] at hxb
        cases hxb
    exact ⟨_, rfl, _, rfl, by rw [hf]; rfl, hE⟩

theorem con_ok {A : Option Addr} {c : Nat} {H : List HOp} {S : Nat → Prop} {w : World} (h : HS S w A c H) : Ret Try.prog 29 #[.slice A H.length c, .func (.func 30) #[] #[]] w (fun v w' => v = .bool (H.any badOp) ∧ Ext w w') := by
  refine ret_of_wk Try.func29 rfl Try.ntmps29 (Nat.le_of_ble_eq_true rfl) ?_
  refine wc_seq ?_
  refine wc_region ?_
  refine wl_assign (by decide) rfl ?_
  refine wl_nil ?_
  refine wk_norm ?_
  refine wc_seq ?_
  refine wc_region ?_
  refine wl_move (by decide) rfl ?_
  refine wl_move (by decide) rfl ?_
  have hcl := idx_ok h
  refine wl_call (by decide) Try.cl35 rfl hcl ?_
  clear hcl
  rintro _ w1 ⟨r, rfl, hr, hE1⟩
  refine wl_geq (by decide) rfl rfl ?_
  refine wl_assign (by decide) rfl ?_
  refine wl_nil ?_
  refine wk_norm ?_
  refine wc_ret ?_
  refine wk_post1 (.inl rfl) Try.results29 rfl ?_
  exact ⟨_, rfl, by rw [← hr], hE1⟩

theorem check_ok {A : Option Addr} {c : Nat} {H : List HOp} {S : Nat → Prop} {w : World} (h : HS S w A c H) : Ret Try.prog 12 #[.slice A H.length c] w (fun v w' => v = .int .i64 (chkH H) ∧ Ext w w') := by
  refine ret_of_wk Try.func12 rfl Try.ntmps12 (Nat.le_of_ble_eq_true rfl) ?_
  refine wc_seq ?_
  refine wc_region ?_
  refine wl_assign (by decide) rfl ?_
  refine wl_nil ?_
  refine wk_norm ?_
  refine wc_seq ?_
  refine wc_seq ?_
  refine wc_region ?_
  refine wl_move (by decide) rfl ?_
  refine wl_len (by decide) Try.underlying22 rfl ?_
  refine wl_gtr (by decide) rfl rfl ?_
  refine wl_nil ?_
  refine wk_norm ?_
  refine wc_cond rfl (fun hl => ?_) (fun hl => ?_)
  ·
    try replace hl := of_decide_eq_true hl
    refine wc_seq ?_
    refine wc_region ?_
    refine wl_assign (by decide) rfl ?_
    refine wl_nil ?_
    refine wk_norm ?_
    refine wc_ret ?_
    refine wk_then_ret ?_
    refine wk_post1 (.inl rfl) Try.results12 rfl ?_
    exact ⟨_, rfl, by rw [chk_long (by omega)], Chg.refl _ _⟩
  ·
    try replace hl := of_decide_eq_false hl
    refine wc_skip ?_
    refine wk_norm ?_
    refine wc_seq ?_
    refine wc_seq ?_
    refine wc_region ?_
    refine wl_move (by decide) rfl ?_
    have hcl := con_ok h
    refine wl_call (by decide) Try.cl29 rfl hcl ?_
    clear hcl
    rintro _ w1 ⟨rfl, hE1⟩
    refine wl_nil ?_
    refine wk_norm ?_
    refine wc_cond rfl (fun hq => ?_) (fun hq => ?_)
    ·
      try replace hq := of_decide_eq_true hq
      refine wc_seq ?_
      refine wc_region ?_
      refine wl_assign (by decide) rfl ?_
      refine wl_nil ?_
      refine wk_norm ?_
      refine wc_ret ?_
      refine wk_then_ret ?_
      refine wk_post1 (.inl rfl) Try.results12 rfl ?_
      exact ⟨_, rfl, by rw [chkH, if_neg (by omega), if_pos hq], hE1⟩
    ·
      try replace hq := of_decide_eq_false hq
      refine wc_skip ?_
      refine wk_norm ?_
      refine wc_seq ?_
      refine wc_region ?_
      refine wl_assign (by decide) rfl ?_
      refine wl_nil ?_
      refine wk_norm ?_
      refine wc_ret ?_
      refine wk_post1 (.inl rfl) Try.results12 rfl ?_
      exact ⟨_, rfl, by rw [chkH, if_neg (by omega), if_neg (by rw [hq]; simp)], hE1⟩

theorem bequal_ok {A B : Option Addr} {c d : Nat} {la lb : List UInt8} {Sa Sb : Nat → Prop} {w : World} (ha : BS Sa w A c la) (hb : BS Sb w B d lb) : Ret Try.prog 33 #[.slice A la.length c, .slice B lb.length d] w (fun v w' => v = .bool (decide (la = lb)) ∧ Ext w w') := by
  refine ret_of_wk Try.func33 rfl Try.ntmps33 (Nat.le_of_ble_eq_true rfl) ?_
  refine wc_seq ?_
  refine wc_region ?_
  refine wl_assign (by decide) rfl ?_
  refine wl_nil ?_
  refine wk_norm ?_
  refine wc_seq ?_
  refine wc_region ?_
  refine wl_move (by decide) rfl ?_
  refine wl_b2s (by decide) Try.underlying23 Try.underlying5 Try.underlying9 rfl ha ?_
  refine wl_move (by decide) rfl ?_
  refine wl_b2s (by decide) Try.underlying23 Try.underlying5 Try.underlying9 rfl hb ?_
  refine wl_eqls (by decide) rfl rfl ?_
  refine wl_assign (by decide) rfl ?_
  refine wl_nil ?_
  refine wk_norm ?_
  refine wc_ret ?_
  refine wk_post1 (.inl rfl) Try.results33 rfl ?_
  exact ⟨_, rfl, rfl, Chg.refl _ _⟩

end Go.Proofs.Ytnlpibfdobinoaa
