/- Bin (printed by program: wip/gen) -/
import Derived.Test.YtifnbemboednaaaHlp
namespace Go.Proofs.Ytifnbemboednaaa
open Go.RowKit Go.Eng

theorem num_ok {n : Int} {w : World} (h1 : -9223372036854775808 ≤ n) (h2 : n ≤ 9223372036854775807) : Ret Try.prog 17 #[.int .i64 n] w (fun v w' => ∃ A c, v = .tuple #[.slice A (numS n).1.length c, .int .i64 (numS n).2] ∧ OwnB 5 w.heap.size w' A c (numS n).1 ∧ Ext w w') := by
  refine ret_of_wk Try.func17 rfl Try.ntmps17 (Nat.le_of_ble_eq_true rfl) ?_
  refine wc_seq ?_
  refine wc_region ?_
  refine wl_assign (by decide) rfl ?_
  refine wl_assign (by decide) rfl ?_
  refine wl_nil ?_
  refine wk_norm ?_
  refine wc_seq ?_
  refine wc_seq ?_
  refine wc_region ?_
  refine wl_move (by decide) rfl ?_
  refine wl_lss (by decide) rfl rfl ?_
  refine wl_move (by decide) rfl ?_
  refine wl_gsplit (dj := 9) rfl (fun hg => ?_) (fun hg => ?_)
  ·
    try replace hg := of_decide_eq_true hg
    refine wl_gno (by decide) rfl rfl (.inl rfl) ?_
    refine wl_gno (by decide) rfl rfl (.inl rfl) ?_
    refine wl_pick (by decide) rfl rfl ?_
    refine wl_nil ?_
    refine wk_norm ?_
    refine wc_cond_t rfl ?_
    refine wc_seq ?_
    refine wc_region ?_
    refine wl_assign (by decide) rfl ?_
    refine wl_assign (by decide) rfl ?_
    refine wl_nil ?_
    refine wk_norm ?_
    refine wc_ret ?_
    refine wk_then_ret ?_
    refine wk_post2 (.inl rfl) Try.results17 rfl rfl ?_
    exact ⟨_, rfl, none, 0, by rw [numS, if_pos (by omega)]; rfl, by rw [numS, if_pos (by omega)]; exact OwnRow.nil _ _ _ _ _, Chg.refl _ _⟩
  ·
    try replace hg := of_decide_eq_false hg
    refine wl_gyes rfl rfl ?_
    refine wl_move (by decide) rfl ?_
    refine wl_gyes rfl rfl ?_
    refine wl_gtr (by decide) rfl rfl ?_
    refine wl_pick (by decide) rfl rfl ?_
    refine wl_nil ?_
    refine wk_norm ?_
    refine wc_cond rfl (fun hc => ?_) (fun hc => ?_)
    ·
      try replace hc := of_decide_eq_true hc
      refine wc_seq ?_
      refine wc_region ?_
      refine wl_assign (by decide) rfl ?_
      refine wl_assign (by decide) rfl ?_
      refine wl_nil ?_
      refine wk_norm ?_
      refine wc_ret ?_
      refine wk_then_ret ?_
      refine wk_post2 (.inl rfl) Try.results17 rfl rfl ?_
      exact ⟨_, rfl, none, 0, by rw [numS, if_pos (by omega)]; rfl, by rw [numS, if_pos (by omega)]; exact OwnRow.nil _ _ _ _ _, Chg.refl _ _⟩
    ·
      try replace hc := of_decide_eq_false hc
      obtain ⟨N, rfl⟩ : ∃ N : Nat, n = N := ⟨n.toNat, by omega⟩
      have hs : numS (N : Int) = (numL N, 0) := by rw [numS, if_neg (by omega)]; simp
      have hN : N ≤ 9007199254740991 := by omega
      have h7 := digs_len N hN
      refine wc_skip ?_
      refine wk_norm ?_
      refine wc_seq ?_
      refine wc_region ?_
      refine wl_assign (by decide) rfl ?_
      refine wl_nil ?_
      refine wk_norm ?_
      refine wc_seq ?_
      refine wc_block ?_
      refine wc_loop (fun L' w' mes => ∃ (m : Nat), L' = [(0, .int .i64 (N : Int)), (4, .int .i64 (m : Int))] ∧ (m ≤ (digs N).length) ∧ (w = w') ∧ (digs N).length - m = mes) [(0, .int .i64 (N : Int)), (4, .int .i64 (0 : Int))] ((digs N).length - 0) (by
          refine ⟨0, rfl, ?_, ?_, rfl⟩
          · omega
          · rfl) ⟨rfl, rfl, trivial⟩ ?_
      rintro _ wr _ ⟨m, rfl, hm, hw, rfl⟩ KL1 hKL1
      subst hw
      refine wc_seq ?_
      refine wc_seq ?_
      refine wc_region ?_
      refine wl_move (by decide) rfl ?_
      refine wl_move (by decide) rfl ?_
      refine wl_mul (by decide) rfl rfl (w64 (by omega) (by omega)) ?_
      refine wl_shr (by decide) rfl rfl (by omega) (shr256 N m _ rfl (by omega)) ?_
      refine wl_gtr (by decide) rfl rfl ?_
      refine wl_nil ?_
      refine wk_norm ?_
      refine wc_cond rfl (fun hlt => ?_) (fun hlt => ?_)
      ·
        try replace hlt := of_decide_eq_true hlt
        have hml : m < (digs N).length := (digs_lt N m hN (by omega)).1 (by omega)
        refine wc_skip ?_
        refine wk_norm ?_
        refine wc_block ?_
        refine wc_region ?_
        refine wl_move (by decide) rfl ?_
        refine wl_add (by decide) rfl rfl (w64 (by omega) (by omega)) ?_
        refine wl_assign (by decide) rfl ?_
        refine wl_nil ?_
        refine wk_blk_norm ?_
        refine wk_norm ?_
        refine wk_drop [(0, .int .i64 (N : Int)), (4, .int .i64 ((m + 1) : Int))] ⟨rfl, rfl, trivial⟩ (hKL1 _ _ (m2 := (digs N).length - (m + 1)) ?_ ?_)
        ·
          refine ⟨(m + 1), rfl, ?_, ?_, rfl⟩
          · omega
          · rfl
        · omega
      ·
        try replace hlt := of_decide_eq_false hlt
        have hme : (digs N).length = m := by
          have := mt (digs_lt N m hN (by omega)).2 (by omega)
          omega
        refine wc_exit ?_
        refine wk_then_exit ?_
        refine wk_then_exit ?_
        refine wk_blk_exit ?_
        refine wk_norm ?_
        refine wc_seq ?_
        refine wc_region ?_
        refine wl_move (by decide) rfl ?_
        refine wl_conv (by decide) Try.it3 Try.it5 rfl (wrap_u8 _) ?_
        refine wl_bsliceB (xs := [.tmp 21]) (bs := [u8Of m]) (by decide) Try.sl22 rfl rfl rfl (by simp) w.heap.size (Nat.le_refl _) ?_
        rintro g w1 hg1 ho1 hE1
        refine wl_assign (by decide) rfl ?_
        refine wl_nil ?_
        refine wk_norm ?_
        refine wc_seq ?_
        refine wc_seq ?_
        refine wc_region ?_
        refine wl_move (by decide) rfl ?_
        refine wl_move (by decide) rfl ?_
        refine wl_nil ?_
        refine wk_norm ?_
        refine wc_block ?_
        refine wc_loop (fun L' w' mes => ∃ (i : Nat), ∃ (A : Option Addr), ∃ (c : Nat), L' = [(0, .int .i64 (N : Int)), (4, .int .i64 (m : Int)), (5, .slice A (UInt8.ofNat m :: (digs N).take i).length c), (23, .int .i64 (m : Int)), (24, .int .i64 (i : Int))] ∧ (i ≤ m) ∧ (OwnB 5 w.heap.size w' A c (UInt8.ofNat m :: (digs N).take i)) ∧ (Ext w w') ∧ m - i = mes) [(0, .int .i64 (N : Int)), (4, .int .i64 (m : Int)), (5, .slice _ (UInt8.ofNat m :: (digs N).take 0).length _), (23, .int .i64 (m : Int)), (24, .int .i64 (0 : Int))] (m - 0) (by
            refine ⟨0, _, _, rfl, ?_, ?_, ?_, rfl⟩
            · omega
            · rw [u8Of_nat] at ho1; exact ho1
            · exact hE1) ⟨rfl, rfl, rfl, rfl, rfl, trivial⟩ ?_
        rintro _ wr _ ⟨i, A, c, rfl, hi, ho, hE, rfl⟩ KL2 hKL2
        refine wc_seq ?_
        refine wc_region ?_
        refine wl_lss (by decide) rfl rfl ?_
        refine wl_nil ?_
        refine wk_norm ?_
        refine wc_seq ?_
        refine wc_cond rfl (fun hlt2 => ?_) (fun hlt2 => ?_)
        ·
          try replace hlt2 := of_decide_eq_true hlt2
          refine wc_skip ?_
          refine wk_norm ?_
          refine wc_seq ?_
          refine wc_block ?_
          refine wc_seq ?_
          refine wc_region ?_
          refine wl_move (by decide) rfl ?_
          refine wl_assign (by decide) rfl ?_
          refine wl_nil ?_
          refine wk_norm ?_
          have hsucc := digs_succ N i (by omega)
          rw [hme, ← u8Of_nat (N / _)] at hsucc
          refine wc_region ?_
          refine wl_move (by decide) rfl ?_
          refine wl_move (by decide) rfl ?_
          refine wl_move (by decide) rfl ?_
          refine wl_sub (by decide) rfl rfl (w64 (by omega) (by omega)) ?_
          refine wl_move (by decide) rfl ?_
          refine wl_sub (by decide) rfl rfl (w64 (by omega) (by omega)) ?_
          refine wl_mul (by decide) rfl rfl (w64 (by omega) (by omega)) ?_
          refine wl_shr (by decide) rfl rfl (by omega) (shr256 N (m - 1 - i) _ (by omega) (by omega)) ?_
          refine wl_conv (by decide) Try.it3 Try.it5 rfl (wrap_u8 _) ?_
          refine wl_bsliceB (xs := [.tmp 35]) (bs := [u8Of ((N / 256 ^ (m - 1 - i) : Nat) : Int)]) (by decide) Try.sl22 rfl rfl rfl (by simp) wr.heap.size (Nat.le_refl _) ?_
          rintro g2 w2 hg2 ho2 hE2
          refine wl_appendB (l2 := [u8Of ((N / 256 ^ (m - 1 - i) : Nat) : Int)]) (by decide) Try.sl22 rfl rfl (ho.ext hE2) ho2.bs (by have := ho.mx; have := digs_len N hN; simp; omega) (Nat.le_trans hE.size hE2.size) ?_
          rintro A3 c3 w3 ho3 ch3 _
          refine wl_assign (by decide) rfl ?_
          refine wl_nil ?_
          refine wk_blk_norm ?_
          refine wk_norm ?_
          refine wc_region ?_
          refine wl_add (by decide) rfl rfl (w64 (by omega) (by omega)) ?_
          refine wl_move (by decide) rfl ?_
          refine wl_nil ?_
          refine wk_norm ?_
          refine wk_drop [(0, .int .i64 (N : Int)), (4, .int .i64 (m : Int)), (5, .slice A3 (UInt8.ofNat m :: (digs N).take (i + 1)).length c3), (23, .int .i64 (m : Int)), (24, .int .i64 ((i + 1) : Int))] ⟨rfl, rfl, (by rw [hsucc]; rfl), rfl, rfl, trivial⟩ (hKL2 _ _ (m2 := m - (i + 1)) ?_ ?_)
          ·
            refine ⟨(i + 1), A3, c3, rfl, ?_, ?_, ?_, rfl⟩
            · omega
            · rw [hsucc]; exact ho3
            · exact (hE.trans hE2).own ch3 (Nat.le_refl _)
          · omega
        ·
          try replace hlt2 := of_decide_eq_false hlt2
          refine wc_exit ?_
          refine wk_then_exit ?_
          refine wk_then_exit ?_
          refine wk_blk_exit ?_
          refine wk_norm ?_
          refine wc_seq ?_
          refine wc_region ?_
          refine wl_move (by decide) rfl ?_
          refine wl_assign (by decide) rfl ?_
          refine wl_assign (by decide) rfl ?_
          refine wl_nil ?_
          refine wk_norm ?_
          refine wc_ret ?_
          refine wk_post2 (.inl rfl) Try.results17 rfl rfl ?_
          have hfin : UInt8.ofNat m :: (digs N).take i = numL N := by rw [List.take_of_length_le (by omega), ← hme]; rfl
          rw [hfin] at ho ⊢
          exact ⟨_, rfl, A, c, by rw [hs], by rw [hs]; exact ho, hE⟩

theorem digits_ok {N : Nat} {w : World} (hN : N ≤ 9007199254740991) : Ret Try.prog 34 #[.int .i64 (N : Int)] w (fun v w' => ∃ A c, v = .slice A (digs N).length c ∧ OwnB 5 w.heap.size w' A c (digs N) ∧ Ext w w') := by
  refine ret_of_wk Try.func34 rfl Try.ntmps34 (Nat.le_of_ble_eq_true rfl) ?_
  refine wc_seq ?_
  refine wc_region ?_
  refine wl_assign (by decide) rfl ?_
  refine wl_nil ?_
  refine wk_norm ?_
  refine wc_seq ?_
  refine wc_region ?_
  refine wl_assign (by decide) rfl ?_
  refine wl_nil ?_
  refine wk_norm ?_
  refine wc_seq ?_
  refine wc_block ?_
  refine wc_loop (fun L' w' mes => ∃ (m : Nat), ∃ (l : List UInt8), ∃ (A : Option Addr), ∃ (c : Nat), L' = [(0, .int .i64 (m : Int)), (3, .slice A l.length c)] ∧ (digs N = digF (8 - l.length) m ++ l) ∧ (m < 256 ^ (7 - l.length)) ∧ (l.length ≤ 7) ∧ (OwnB 5 w.heap.size w' A c l) ∧ (Ext w w') ∧ m = mes) [(0, .int .i64 (N : Int)), (3, .slice _ [].length _)] (N) (by
      refine ⟨N, [], _, _, rfl, ?_, ?_, ?_, ?_, ?_, rfl⟩
      · simp [digs]
      · simp only [List.length_nil]; omega
      · simp
      · exact OwnRow.nil _ _ _ _ _
      · exact Chg.refl _ _) ⟨rfl, rfl, trivial⟩ ?_
  rintro _ wr _ ⟨m, l, A, c, rfl, hd, hm, hll, ho, hE, rfl⟩ KL1 hKL1
  have hm0 : 0 < m → l.length < 7 := by
    intro h0
    rcases Nat.lt_or_ge l.length 7 with h | h
    · exact h
    · rw [show 7 - l.length = 0 by omega] at hm; simp at hm; omega
  refine wc_seq ?_
  refine wc_seq ?_
  refine wc_region ?_
  refine wl_move (by decide) rfl ?_
  refine wl_gtr (by decide) rfl rfl ?_
  refine wl_nil ?_
  refine wk_norm ?_
  refine wc_cond rfl (fun hlt => ?_) (fun hlt => ?_)
  ·
    try replace hlt := of_decide_eq_true hlt
    have hl7 := hm0 (by omega)
    have hmlt : m < 256 ^ 7 := Nat.lt_of_lt_of_le hm (Nat.pow_le_pow_right (by omega) (by omega))
    refine wc_skip ?_
    refine wk_norm ?_
    refine wc_block ?_
    refine wc_seq ?_
    refine wc_region ?_
    refine wl_move (by decide) rfl ?_
    refine wl_rem (by decide) rfl rfl (by omega) (Int.tmod_eq_emod_of_nonneg (by omega)) ?_
    refine wl_conv (by decide) Try.it3 Try.it5 rfl (wrap_u8 _) ?_
    have hbb : u8Of ((m : Int) % 256) = u8Of (m : Int) := by simp only [u8Of, Int.emod_emod_of_dvd _ (Int.dvd_refl _)]
    refine wl_re (k := 8) (v := bv (u8Of (m : Int))) rfl (by rw [hbb]) ?_
    refine wl_bsliceB (xs := [.tmp 8]) (bs := [u8Of (m : Int)]) (by decide) Try.sl22 rfl rfl rfl (by simp) wr.heap.size (Nat.le_refl _) ?_
    rintro g2 w2 hg2 ho2 hE2
    refine wl_move (by decide) rfl ?_
    refine wl_appendB (l := [u8Of (m : Int)]) (by decide) Try.sl22 rfl rfl ho2 (ho.ext hE2).bs (by have := ho.mx; simp; omega) hE2.size ?_
    rintro A3 c3 w3 ho3 ch3 _
    have hE3 := (hE.trans hE2).own ch3 hE.size
    replace ho3 := ho3.lower hE.size
    refine wl_assign (by decide) rfl ?_
    refine wl_nil ?_
    refine wk_norm ?_
    refine wc_region ?_
    refine wl_move (by decide) rfl ?_
    have hq : (m : Int).tdiv 256 = ((m / 256 : Nat) : Int) := by rw [Int.tdiv_eq_ediv_of_nonneg (by omega)]; omega
    refine wl_quo (by decide) rfl rfl (by omega) (w64 (by omega) (by omega)) ?_
    refine wl_assign (by decide) rfl ?_
    refine wl_nil ?_
    refine wk_blk_norm ?_
    refine wk_norm ?_
    refine wk_drop [(0, .int .i64 ((m / 256) : Int)), (3, .slice A3 (u8Of (m : Int) :: l).length c3)] ⟨(by rw [hq]; rfl), rfl, trivial⟩ (hKL1 _ _ (m2 := (m / 256)) ?_ ?_)
    ·
      refine ⟨(m / 256), (u8Of (m : Int) :: l), A3, c3, rfl, ?_, ?_, ?_, ?_, ?_, rfl⟩
      · rw [hd, show 8 - l.length = (7 - l.length) + 1 by omega, digF, if_neg (by omega), u8Of_nat]; simp [show 8 - (l.length + 1) = 7 - l.length by omega]
      · rw [List.length_cons, show 7 - l.length = (7 - (l.length + 1)) + 1 by omega, Nat.pow_succ] at *; omega
      · simp only [List.length_cons]; omega
      · exact ho3
      · exact hE3
    · omega
  ·
    try replace hlt := of_decide_eq_false hlt
    have h0 : m = 0 := by omega
    subst h0
    rw [digF_zero, List.nil_append] at hd
    refine wc_exit ?_
    refine wk_then_exit ?_
    refine wk_then_exit ?_
    refine wk_blk_exit ?_
    refine wk_norm ?_
    refine wc_seq ?_
    refine wc_region ?_
    refine wl_move (by decide) rfl ?_
    refine wl_assign (by decide) rfl ?_
    refine wl_nil ?_
    refine wk_norm ?_
    refine wc_ret ?_
    refine wk_post1 (.inl rfl) Try.results34 rfl ?_
    exact ⟨_, rfl, A, c, by rw [hd], by rw [hd]; exact ho, hE⟩

theorem rnum_ok {n : Int} {w : World} (h1 : -9223372036854775808 ≤ n) (h2 : n ≤ 9223372036854775807) : Ret Try.prog 18 #[.int .i64 n] w (fun v w' => ∃ A c, v = .tuple #[.slice A (numS n).1.length c, .int .i64 (numS n).2] ∧ OwnB 5 w.heap.size w' A c (numS n).1 ∧ Ext w w') := by
  refine ret_of_wk Try.func18 rfl Try.ntmps18 (Nat.le_of_ble_eq_true rfl) ?_
  refine wc_seq ?_
  refine wc_region ?_
  refine wl_assign (by decide) rfl ?_
  refine wl_assign (by decide) rfl ?_
  refine wl_nil ?_
  refine wk_norm ?_
  refine wc_seq ?_
  refine wc_seq ?_
  refine wc_region ?_
  refine wl_move (by decide) rfl ?_
  refine wl_lss (by decide) rfl rfl ?_
  refine wl_move (by decide) rfl ?_
  refine wl_gsplit (dj := 7) rfl (fun hg => ?_) (fun hg => ?_)
  ·
    try replace hg := of_decide_eq_true hg
    refine wl_gno (by decide) rfl rfl (.inl rfl) ?_
    refine wl_gno (by decide) rfl rfl (.inl rfl) ?_
    refine wl_pick (by decide) rfl rfl ?_
    refine wl_nil ?_
    refine wk_norm ?_
    refine wc_cond_t rfl ?_
    refine wc_seq ?_
    refine wc_region ?_
    refine wl_assign (by decide) rfl ?_
    refine wl_assign (by decide) rfl ?_
    refine wl_nil ?_
    refine wk_norm ?_
    refine wc_ret ?_
    refine wk_then_ret ?_
    refine wk_post2 (.inl rfl) Try.results18 rfl rfl ?_
    exact ⟨_, rfl, none, 0, by rw [numS, if_pos (by omega)]; rfl, by rw [numS, if_pos (by omega)]; exact OwnRow.nil _ _ _ _ _, Chg.refl _ _⟩
  ·
    try replace hg := of_decide_eq_false hg
    refine wl_gyes rfl rfl ?_
    refine wl_move (by decide) rfl ?_
    refine wl_gyes rfl rfl ?_
    refine wl_gtr (by decide) rfl rfl ?_
    refine wl_pick (by decide) rfl rfl ?_
    refine wl_nil ?_
    refine wk_norm ?_
    refine wc_cond rfl (fun hc => ?_) (fun hc => ?_)
    ·
      try replace hc := of_decide_eq_true hc
      refine wc_seq ?_
      refine wc_region ?_
      refine wl_assign (by decide) rfl ?_
      refine wl_assign (by decide) rfl ?_
      refine wl_nil ?_
      refine wk_norm ?_
      refine wc_ret ?_
      refine wk_then_ret ?_
      refine wk_post2 (.inl rfl) Try.results18 rfl rfl ?_
      exact ⟨_, rfl, none, 0, by rw [numS, if_pos (by omega)]; rfl, by rw [numS, if_pos (by omega)]; exact OwnRow.nil _ _ _ _ _, Chg.refl _ _⟩
    ·
      try replace hc := of_decide_eq_false hc
      obtain ⟨N, rfl⟩ : ∃ N : Nat, n = N := ⟨n.toNat, by omega⟩
      have hs : numS (N : Int) = (numL N, 0) := by rw [numS, if_neg (by omega)]; simp
      have hN : N ≤ 9007199254740991 := by omega
      have h7 := digs_len N hN
      refine wc_skip ?_
      refine wk_norm ?_
      refine wc_seq ?_
      refine wc_region ?_
      refine wl_move (by decide) rfl ?_
      refine wl_call (by decide) Try.cl34 rfl (digits_ok (N := N) (w := w) hN) ?_
      rintro _ w1 ⟨A1, c1, rfl, ho1, hE1⟩
      refine wl_assign (by decide) rfl ?_
      refine wl_nil ?_
      refine wk_norm ?_
      refine wc_seq ?_
      refine wc_region ?_
      refine wl_move (by decide) rfl ?_
      refine wl_len (by decide) Try.underlying22 rfl ?_
      refine wl_conv (by decide) Try.it3 Try.it5 rfl (wrap_u8 _) ?_
      refine wl_bsliceB (xs := [.tmp 15]) (bs := [u8Of ((digs N).length : Int)]) (by decide) Try.sl22 rfl rfl rfl (by simp) w1.heap.size (Nat.le_refl _) ?_
      rintro g2 w2 hg2 ho2 hE2
      refine wl_move (by decide) rfl ?_
      refine wl_appendB (l := [u8Of ((digs N).length : Int)]) (by decide) Try.sl22 rfl rfl ho2 (ho1.ext hE2).bs (by simp; omega) hE2.size ?_
      rintro A3 c3 w3 ho3 ch3 _
      have hE3 := (hE1.trans hE2).own ch3 hE1.size
      replace ho3 := ho3.lower hE1.size
      refine wl_assign (by decide) rfl ?_
      refine wl_assign (by decide) rfl ?_
      refine wl_nil ?_
      refine wk_norm ?_
      refine wc_ret ?_
      refine wk_post2 (.inl rfl) Try.results18 rfl rfl ?_
      have hfin : [u8Of ((digs N).length : Int)] ++ digs N = numL N := by rw [u8Of_nat]; rfl
      rw [hfin] at ho3 ⊢
      exact ⟨_, rfl, A3, c3, by rw [hs], by rw [hs]; exact ho3, hE3⟩

theorem join_ok {A : Option Addr} {c : Nat} {ls : List (List UInt8)} {Sa : Nat → Prop} {w : World} (h : GS (sliceR byteR) Sa w A c ls) (hb : ls.flatten.length ≤ 140737488355328) : Ret Try.prog 31 #[.slice A ls.length c] w (fun v w' => ∃ A' c', v = .slice A' ls.flatten.length c' ∧ OwnB 5 w.heap.size w' A' c' ls.flatten ∧ Ext w w') := by
  refine ret_of_wk Try.func31 rfl Try.ntmps31 (Nat.le_of_ble_eq_true rfl) ?_
  refine wc_seq ?_
  refine wc_region ?_
  refine wl_assign (by decide) rfl ?_
  refine wl_nil ?_
  refine wk_norm ?_
  refine wc_seq ?_
  refine wc_region ?_
  refine wl_assign (by decide) rfl ?_
  refine wl_nil ?_
  refine wk_norm ?_
  refine wc_seq ?_
  refine wc_seq ?_
  refine wc_region ?_
  refine wl_move (by decide) rfl ?_
  refine wl_len (by decide) Try.underlying45 rfl ?_
  refine wl_move (by decide) rfl ?_
  refine wl_nil ?_
  refine wk_norm ?_
  refine wc_block ?_
  refine wc_loop (fun L' w' mes => ∃ (k : Nat), ∃ (A2 : Option Addr), ∃ (c2 : Nat), L' = [(3, .slice A2 (ls.take k).flatten.length c2), (6, .slice A ls.length c), (7, .int .i64 (ls.length : Int)), (8, .int .i64 (k : Int))] ∧ (k ≤ ls.length) ∧ (OwnB 5 w.heap.size w' A2 c2 (ls.take k).flatten) ∧ (Ext w w') ∧ ls.length - k = mes) [(3, .slice _ (ls.take 0).flatten.length _), (6, .slice A ls.length c), (7, .int .i64 (ls.length : Int)), (8, .int .i64 (0 : Int))] (ls.length - 0) (by
      refine ⟨0, _, _, rfl, ?_, ?_, ?_, rfl⟩
      · omega
      · exact OwnRow.nil _ _ _ _ _
      · exact Chg.refl _ _) ⟨rfl, rfl, rfl, rfl, trivial⟩ ?_
  rintro _ wr _ ⟨k, A2, c2, rfl, hk, ho, hE, rfl⟩ KL1 hKL1
  have hmx := h.mx
  refine wc_seq ?_
  refine wc_region ?_
  refine wl_lss (by decide) rfl rfl ?_
  refine wl_nil ?_
  refine wk_norm ?_
  refine wc_seq ?_
  refine wc_cond rfl (fun hlt => ?_) (fun hlt => ?_)
  ·
    try replace hlt := of_decide_eq_true hlt
    refine wc_skip ?_
    refine wk_norm ?_
    refine wc_seq ?_
    refine wc_block ?_
    refine wc_seq ?_
    refine wc_region ?_
    refine wl_idx (r := sliceR byteR) (by decide) Try.sl45 rfl rfl (h.ext hE) k rfl (by omega) ?_
    rintro a cs hb1 _ hat ⟨Ak, ck, rfl, hgk⟩
    refine wl_load (by decide) Try.sc22 rfl hat.head ?_
    refine wl_assign (by decide) rfl ?_
    refine wl_nil ?_
    refine wk_norm ?_
    refine wc_region ?_
    refine wl_move (by decide) rfl ?_
    refine wl_move (by decide) rfl ?_
    have hsucc : (ls.take (k + 1)).flatten = (ls.take k).flatten ++ ls[k] := by rw [← List.take_append_getElem (by omega : k < ls.length), List.flatten_append]; simp only [List.flatten_cons, List.flatten_nil, List.append_nil]
    have hlen : (ls.take (k + 1)).flatten.length ≤ ls.flatten.length := by
      have e : ls.flatten = (ls.take (k + 1)).flatten ++ (ls.drop (k + 1)).flatten := by rw [← List.flatten_append, List.take_append_drop]
      rw [e, List.length_append]; omega
    rw [hsucc, List.length_append] at hlen
    refine wl_appendB (by decide) Try.sl22 rfl rfl ho hgk (by omega) hE.size ?_
    rintro A3 c3 w3 ho3 ch3 _
    refine wl_assign (by decide) rfl ?_
    refine wl_nil ?_
    refine wk_blk_norm ?_
    refine wk_norm ?_
    refine wc_region ?_
    refine wl_add (by decide) rfl rfl (w64 (by omega) (by omega)) ?_
    refine wl_move (by decide) rfl ?_
    refine wl_nil ?_
    refine wk_norm ?_
    refine wk_drop [(3, .slice A3 (ls.take (k + 1)).flatten.length c3), (6, .slice A ls.length c), (7, .int .i64 (ls.length : Int)), (8, .int .i64 ((k + 1) : Int))] ⟨(by rw [hsucc]; rfl), rfl, rfl, rfl, trivial⟩ (hKL1 _ _ (m2 := ls.length - (k + 1)) ?_ ?_)
    ·
      refine ⟨(k + 1), A3, c3, rfl, ?_, ?_, ?_, rfl⟩
      · omega
      · rw [hsucc]; exact ho3
      · exact hE.own ch3 (Nat.le_refl _)
    · omega
  ·
    try replace hlt := of_decide_eq_false hlt
    have hkl : k = ls.length := by omega
    refine wc_exit ?_
    refine wk_then_exit ?_
    refine wk_then_exit ?_
    refine wk_blk_exit ?_
    refine wk_norm ?_
    refine wc_seq ?_
    refine wc_region ?_
    refine wl_move (by decide) rfl ?_
    refine wl_assign (by decide) rfl ?_
    refine wl_nil ?_
    refine wk_norm ?_
    refine wc_ret ?_
    refine wk_post1 (.inl rfl) Try.results31 rfl ?_
    subst hkl
    rw [List.take_length] at ho ⊢
    exact ⟨_, rfl, A2, c2, rfl, ho, hE⟩

theorem rjoin_ok {A : Option Addr} {c : Nat} {ls : List (List UInt8)} {Sa : Nat → Prop} {w : World} (h : GS (sliceR byteR) Sa w A c ls) (hb : ls.flatten.length ≤ 140737488355328) : Ret Try.prog 32 #[.slice A ls.length c] w (fun v w' => ∃ A' c', v = .slice A' ls.flatten.length c' ∧ OwnB 5 w.heap.size w' A' c' ls.flatten ∧ Ext w w') := by
  refine ret_of_wk Try.func32 rfl Try.ntmps32 (Nat.le_of_ble_eq_true rfl) ?_
  refine wc_seq ?_
  refine wc_region ?_
  refine wl_assign (by decide) rfl ?_
  refine wl_nil ?_
  refine wk_norm ?_
  refine wc_seq ?_
  refine wc_region ?_
  refine wl_assign (by decide) rfl ?_
  refine wl_nil ?_
  refine wk_norm ?_
  refine wc_seq ?_
  refine wc_seq ?_
  refine wc_region ?_
  refine wl_assign (by decide) rfl ?_
  refine wl_nil ?_
  refine wk_norm ?_
  refine wc_block ?_
  refine wc_loop (fun L' w' mes => ∃ (k : Nat), ∃ (A2 : Option Addr), ∃ (c2 : Nat), L' = [(3, .slice A2 (ls.take k).flatten.length c2), (0, .slice A ls.length c), (4, .int .i64 (k : Int))] ∧ (k ≤ ls.length) ∧ (OwnB 5 w.heap.size w' A2 c2 (ls.take k).flatten) ∧ (Ext w w') ∧ ls.length - k = mes) [(3, .slice _ (ls.take 0).flatten.length _), (0, .slice A ls.length c), (4, .int .i64 (0 : Int))] (ls.length - 0) (by
      refine ⟨0, _, _, rfl, ?_, ?_, ?_, rfl⟩
      · omega
      · exact OwnRow.nil _ _ _ _ _
      · exact Chg.refl _ _) ⟨rfl, rfl, rfl, trivial⟩ ?_
  rintro _ wr _ ⟨k, A2, c2, rfl, hk, ho, hE, rfl⟩ KL1 hKL1
  have hmx := h.mx
  refine wc_seq ?_
  refine wc_seq ?_
  refine wc_region ?_
  refine wl_move (by decide) rfl ?_
  refine wl_move (by decide) rfl ?_
  refine wl_len (by decide) Try.underlying45 rfl ?_
  refine wl_lss (by decide) rfl rfl ?_
  refine wl_nil ?_
  refine wk_norm ?_
  refine wc_cond rfl (fun hlt => ?_) (fun hlt => ?_)
  ·
    try replace hlt := of_decide_eq_true hlt
    refine wc_skip ?_
    refine wk_norm ?_
    refine wc_seq ?_
    refine wc_block ?_
    refine wc_region ?_
    refine wl_move (by decide) rfl ?_
    refine wl_move (by decide) rfl ?_
    refine wl_move (by decide) rfl ?_
    refine wl_idx (r := sliceR byteR) (by decide) Try.sl45 rfl rfl (h.ext hE) k rfl (by omega) ?_
    rintro a cs hb1 _ hat ⟨Ak, ck, rfl, hgk⟩
    refine wl_load (by decide) Try.sc22 rfl hat.head ?_
    have hsucc : (ls.take (k + 1)).flatten = (ls.take k).flatten ++ ls[k] := by rw [← List.take_append_getElem (by omega : k < ls.length), List.flatten_append]; simp only [List.flatten_cons, List.flatten_nil, List.append_nil]
    have hlen : (ls.take (k + 1)).flatten.length ≤ ls.flatten.length := by
      have e : ls.flatten = (ls.take (k + 1)).flatten ++ (ls.drop (k + 1)).flatten := by rw [← List.flatten_append, List.take_append_drop]
      rw [e, List.length_append]; omega
    rw [hsucc, List.length_append] at hlen
    refine wl_appendB (by decide) Try.sl22 rfl rfl ho hgk (by omega) hE.size ?_
    rintro A3 c3 w3 ho3 ch3 _
    refine wl_assign (by decide) rfl ?_
    refine wl_nil ?_
    refine wk_blk_norm ?_
    refine wk_norm ?_
    refine wc_region ?_
    refine wl_move (by decide) rfl ?_
    refine wl_add (by decide) rfl rfl (w64 (by omega) (by omega)) ?_
    refine wl_assign (by decide) rfl ?_
    refine wl_nil ?_
    refine wk_norm ?_
    refine wk_drop [(3, .slice A3 (ls.take (k + 1)).flatten.length c3), (0, .slice A ls.length c), (4, .int .i64 ((k + 1) : Int))] ⟨(by rw [hsucc]; rfl), rfl, rfl, trivial⟩ (hKL1 _ _ (m2 := ls.length - (k + 1)) ?_ ?_)
    ·
      refine ⟨(k + 1), A3, c3, rfl, ?_, ?_, ?_, rfl⟩
      · omega
      · rw [hsucc]; exact ho3
      · exact hE.own ch3 (Nat.le_refl _)
    · omega
  ·
    try replace hlt := of_decide_eq_false hlt
    have hkl : k = ls.length := by omega
    refine wc_exit ?_
    refine wk_then_exit ?_
    refine wk_then_exit ?_
    refine wk_blk_exit ?_
    refine wk_norm ?_
    refine wc_seq ?_
    refine wc_region ?_
    refine wl_move (by decide) rfl ?_
    refine wl_assign (by decide) rfl ?_
    refine wl_nil ?_
    refine wk_norm ?_
    refine wc_ret ?_
    refine wk_post1 (.inl rfl) Try.results32 rfl ?_
    subst hkl
    rw [List.take_length] at ho ⊢
    exact ⟨_, rfl, A2, c2, rfl, ho, hE⟩

theorem takeNum_ok {A : Option Addr} {c : Nat} {b : List UInt8} {Sa : Nat → Prop} {w : World} (h : BS Sa w A c b) : Ret Try.prog 20 #[.slice A b.length c] w (fun v w' => ∃ A' c', v = .tuple #[.int .i64 (takeS b).1, .slice A' (takeS b).2.1.length c', .int .i64 (takeS b).2.2] ∧ OwnB 5 w.heap.size w' A' c' (takeS b).2.1 ∧ Ext w w') := by
  refine ret_of_wk Try.func20 rfl Try.ntmps20 (Nat.le_of_ble_eq_true rfl) ?_
  refine wc_seq ?_
  refine wc_region ?_
  refine wl_assign (by decide) rfl ?_
  refine wl_assign (by decide) rfl ?_
  refine wl_assign (by decide) rfl ?_
  refine wl_nil ?_
  refine wk_norm ?_
  refine wc_seq ?_
  refine wc_seq ?_
  refine wc_region ?_
  refine wl_move (by decide) rfl ?_
  refine wl_len (by decide) Try.underlying22 rfl ?_
  refine wl_eql (by decide) rfl rfl ?_
  refine wl_nil ?_
  refine wk_norm ?_
  refine wc_cond rfl (fun h0 => ?_) (fun h0 => ?_)
  ·
    try replace h0 := of_decide_eq_true h0
    have hb0 : b = [] := List.eq_nil_of_length_eq_zero (by omega)
    subst hb0
    refine wc_seq ?_
    refine wc_region ?_
    refine wl_assign (by decide) rfl ?_
    refine wl_assign (by decide) rfl ?_
    refine wl_assign (by decide) rfl ?_
    refine wl_nil ?_
    refine wk_norm ?_
    refine wc_ret ?_
    refine wk_then_ret ?_
    refine wk_post3 (.inl rfl) Try.results20 rfl rfl rfl ?_
    exact ⟨_, rfl, none, 0, by rw [show takeS [] = (0, [], 3) from rfl]; try rfl, by rw [show takeS [] = (0, [], 3) from rfl]; exact OwnRow.nil _ _ _ _ _, Chg.refl _ _⟩
  ·
    try replace h0 := of_decide_eq_false h0
    obtain ⟨x, t, rfl⟩ := List.exists_cons_of_ne_nil (show b ≠ [] by rintro rfl; simp at h0)
    have hx : x.toNat < 256 := x.toNat_lt
    refine wc_skip ?_
    refine wk_norm ?_
    refine wc_seq ?_
    refine wc_drawL [SP.eq (.slice A (x :: t).length c), SP.ptr (fun _ => True) [bv x], SP.eq (bv x), SP.eq (.int .i64 (x.toNat : Int)), SP.eq (.slice A (x :: t).length c), SP.gs byteR Sa t, SP.eq (.int .i64 (x.toNat : Int)), SP.gs byteR Sa t] (by kernel_rfl) (by kernel_rfl) ⟨?_, ?_, ?_, ?_, ?_, ?_, ?_, ?_, trivial⟩ ?_
    ·
      intro F wF hER hk
      have e0 := hk.init 0 _ rfl (by kernel_rfl)
      refine wl_move (by decide) e0 ?_
      exact wl_nil (qr_some ⟨Chg.refl _ _, rfl⟩)
    ·
      intro F wF hER hk
      obtain ⟨u11, e11, h11⟩ := hk.pred 0 (by kernel_rfl) 11 rfl
      obtain rfl := h11
      refine wl_idx (by decide) Try.sl22 e11 rfl (h.ext hER) 0 rfl (by simp) ?_
      rintro a cs hb1 _ hat rfl
      exact wl_nil (qr_some ⟨Chg.refl _ _, a, rfl, hb1, trivial, hat⟩)
    ·
      intro F wF hER hk
      obtain ⟨u12, e12, h12⟩ := hk.pred 1 (by kernel_rfl) 12 rfl
      obtain ⟨a12, rfl, _, _, hat12⟩ := h12
      refine wl_load (by decide) Try.sc5 e12 hat12.head ?_
      exact wl_nil (qr_some ⟨Chg.refl _ _, rfl⟩)
    ·
      intro F wF hER hk
      obtain ⟨u13, e13, h13⟩ := hk.pred 2 (by kernel_rfl) 13 rfl
      obtain rfl := h13
      refine wl_conv (by decide) Try.it5 Try.it3 e13 (w64 (by omega) (by omega)) ?_
      exact wl_nil (qr_some ⟨Chg.refl _ _, rfl⟩)
    ·
      intro F wF hER hk
      have e0 := hk.init 0 _ rfl (by kernel_rfl)
      refine wl_move (by decide) e0 ?_
      exact wl_nil (qr_some ⟨Chg.refl _ _, rfl⟩)
    ·
      intro F wF hER hk
      obtain ⟨u15, e15, h15⟩ := hk.pred 4 (by kernel_rfl) 15 rfl
      obtain rfl := h15
      refine wl_from (by decide) Try.sl22 e15 rfl (h.ext hER) 1 rfl (by simp) ?_
      rintro A1 c1 hg1
      exact wl_nil (qr_some ⟨Chg.refl _ _, A1, c1, rfl, hg1⟩)
    ·
      intro F wF hER hk
      obtain ⟨u14, e14, h14⟩ := hk.pred 3 (by kernel_rfl) 14 rfl
      obtain rfl := h14
      refine wl_assign (by decide) e14 ?_
      exact wl_nil (qr_some ⟨Chg.refl _ _, rfl⟩)
    ·
      intro F wF hER hk
      obtain ⟨u16, e16, h16⟩ := hk.pred 5 (by kernel_rfl) 16 rfl
      obtain ⟨A16, c16, rfl, hg16⟩ := h16
      refine wl_assign (by decide) e16 ?_
      exact wl_nil (qr_some ⟨Chg.refl _ _, A16, c16, rfl, hg16⟩)
    ·
      intro F w1 hED hini hdo
      have e2 := hini 2 _ rfl (by kernel_rfl)
      obtain ⟨u3, e3, h3⟩ := hdo 7 3 rfl
      obtain ⟨A3, c3, rfl, hg3⟩ := h3
      obtain ⟨u5, e5, h5⟩ := hdo 6 5 rfl
      obtain rfl := h5
      refine wk_drop [(2, _), (3, _), (5, _)] ⟨e2, e3, e5, trivial⟩ ?_
      clear e2 e3 e5 hini hdo
      have hx := x.toNat_lt
      refine wk_norm ?_
      refine wc_seq ?_
      refine wc_block ?_
      refine wc_seq ?_
      refine wc_region ?_
      refine wl_move (by decide) rfl ?_
      refine wl_gtr (by decide) rfl rfl ?_
      refine wl_assign (by decide) rfl ?_
      refine wl_nil ?_
      refine wk_norm ?_
      refine wc_cond rfl (fun h7 => ?_) (fun h7 => ?_)
      ·
        try replace h7 := of_decide_eq_true h7
        refine wc_seq ?_
        refine wc_region ?_
        refine wl_assign (by decide) rfl ?_
        refine wl_assign (by decide) rfl ?_
        refine wl_assign (by decide) rfl ?_
        refine wl_nil ?_
        refine wk_norm ?_
        refine wc_ret ?_
        refine wk_blk_ret ?_
        refine wk_then_ret ?_
        refine wk_post3 (.inl rfl) Try.results20 rfl rfl rfl ?_
        have e : takeS (x :: t) = (0, [], 4) := by simp only [takeS]; rw [if_pos (by omega)]
        exact ⟨_, rfl, none, 0, by rw [e]; try rfl, by rw [e]; exact OwnRow.nil _ _ _ _ _, hED⟩
      ·
        try replace h7 := of_decide_eq_false h7
        refine wc_seq ?_
        refine wc_region ?_
        refine wl_move (by decide) rfl ?_
        refine wl_len (by decide) Try.underlying22 rfl ?_
        refine wl_move (by decide) rfl ?_
        refine wl_lss (by decide) rfl rfl ?_
        refine wl_assign (by decide) rfl ?_
        refine wl_nil ?_
        refine wk_norm ?_
        refine wc_cond rfl (fun hlen => ?_) (fun hlen => ?_)
        ·
          try replace hlen := of_decide_eq_true hlen
          refine wc_seq ?_
          refine wc_region ?_
          refine wl_assign (by decide) rfl ?_
          refine wl_assign (by decide) rfl ?_
          refine wl_assign (by decide) rfl ?_
          refine wl_nil ?_
          refine wk_norm ?_
          refine wc_ret ?_
          refine wk_blk_ret ?_
          refine wk_then_ret ?_
          refine wk_post3 (.inl rfl) Try.results20 rfl rfl rfl ?_
          have e : takeS (x :: t) = (0, [], 3) := by simp only [takeS]; rw [if_neg (by omega), if_pos (by omega)]
          exact ⟨_, rfl, none, 0, by rw [e]; try rfl, by rw [e]; exact OwnRow.nil _ _ _ _ _, hED⟩
        ·
          try replace hlen := of_decide_eq_false hlen
          refine wc_seq_cut (fun L' w' => ∃ (q : Bool), L' = [(2, .int .i64 0), (3, .slice A3 t.length c3), (5, .int .i64 (x.toNat : Int)), (25, .bool q)] ∧ (w1 = w') ∧ (q = true ↔ (0 < x.toNat ∧ t.headD 1 = 0))) (fun K hK => ?_) ?_
          ·
            refine wc_region ?_
            refine wl_move (by decide) rfl ?_
            refine wl_gtr (by decide) rfl rfl ?_
            refine wl_move (by decide) rfl ?_
            refine wl_gsplit (dj := 28) rfl (fun hpos => ?_) (fun hpos => ?_)
            ·
              try replace hpos := of_decide_eq_true hpos
              have ht0 : 0 < t.length := by first | omega | (simp only [List.length_cons] at hlen; omega)
              have hhd : t.headD 1 = t[0] := by cases t with
                | nil => simp at ht0
                | cons y s => rfl
              refine wl_gyes rfl rfl ?_
              refine wl_move (by decide) rfl ?_
              refine wl_gyes rfl rfl ?_
              refine wl_idx (by decide) Try.sl22 rfl rfl hg3 0 rfl ht0 ?_
              rintro a4 cs4 hb4 _ hat4 rfl
              refine wl_gyes rfl rfl ?_
              refine wl_load (by decide) Try.sc5 rfl hat4.head ?_
              refine wl_gyes rfl rfl ?_
              refine wl_eql (by decide) rfl rfl ?_
              refine wl_pick (by decide) rfl rfl ?_
              refine wl_assign (by decide) rfl ?_
              refine wl_nil ?_
              refine wk_norm ?_
              refine wk_drop [(2, .int .i64 0), (3, .slice A3 t.length c3), (5, .int .i64 (x.toNat : Int)), (25, .bool _)] ⟨rfl, rfl, rfl, rfl, trivial⟩ (hK _ _ ?_)
              refine ⟨_, rfl, ?_, ?_⟩
              · rfl
              · simp only [decide_eq_true_eq]; rw [hhd]; exact ⟨fun e => ⟨by omega, UInt8.toNat_inj.1 (show (t[0]).toNat = 0 by omega)⟩, fun e => by rw [e.2]; rfl⟩
            ·
              try replace hpos := of_decide_eq_false hpos
              refine wl_gno (by decide) rfl rfl (.inl rfl) ?_
              refine wl_gno (by decide) rfl rfl (.inl rfl) ?_
              refine wl_gno (by decide) rfl rfl (.inl rfl) ?_
              refine wl_gno (by decide) rfl rfl (.inl rfl) ?_
              refine wl_pick (by decide) rfl rfl ?_
              refine wl_assign (by decide) rfl ?_
              refine wl_nil ?_
              refine wk_norm ?_
              refine wk_drop [(2, .int .i64 0), (3, .slice A3 t.length c3), (5, .int .i64 (x.toNat : Int)), (25, .bool _)] ⟨rfl, rfl, rfl, rfl, trivial⟩ (hK _ _ ?_)
              refine ⟨_, rfl, ?_, ?_⟩
              · rfl
              · exact ⟨fun e => (by cases e), fun e => (by omega)⟩
          ·
            rintro _ w2 ⟨q, rfl, hw, hq⟩
            subst hw
            refine wc_cond rfl (fun hq2 => ?_) (fun hq2 => ?_)
            ·
              try replace hq2 := of_decide_eq_true hq2
              rw [hq] at hq2
              refine wc_seq ?_
              refine wc_region ?_
              refine wl_assign (by decide) rfl ?_
              refine wl_assign (by decide) rfl ?_
              refine wl_assign (by decide) rfl ?_
              refine wl_nil ?_
              refine wk_norm ?_
              refine wc_ret ?_
              refine wk_blk_ret ?_
              refine wk_then_ret ?_
              refine wk_post3 (.inl rfl) Try.results20 rfl rfl rfl ?_
              have e : takeS (x :: t) = (0, [], 4) := by simp only [takeS]; rw [if_neg (by omega), if_neg (by omega), if_pos hq2]
              exact ⟨_, rfl, none, 0, by rw [e]; try rfl, by rw [e]; exact OwnRow.nil _ _ _ _ _, hED⟩
            ·
              try replace hq2 := of_decide_eq_false hq2
              have hq3 : ¬ (0 < x.toNat ∧ t.headD 1 = 0) := fun e => by rw [hq.2 e] at hq2; cases hq2
              refine wc_skip ?_
              refine wk_blk_norm ?_
              refine wk_norm ?_
              refine wc_seq ?_
              refine wc_seq ?_
              refine wc_region ?_
              refine wl_move (by decide) rfl ?_
              refine wl_move (by decide) rfl ?_
              refine wl_to (by decide) Try.sl22 rfl rfl hg3 x.toNat rfl (by omega) ?_
              intro hgt
              have htl : (t.take x.toNat).length = x.toNat := by rw [List.length_take]; omega
              have hmt := hgt.mx
              refine wl_len (by decide) Try.underlying22 rfl ?_
              refine wl_move (by decide) rfl ?_
              refine wl_nil ?_
              refine wk_norm ?_
              refine wc_block ?_
              refine wc_loop (fun L' w' mes => ∃ (k : Nat), L' = [(2, .int .i64 (valD ((t.take x.toNat).take k) : Int)), (3, .slice A3 t.length c3), (5, .int .i64 (x.toNat : Int)), (36, .slice A3 (t.take x.toNat).length c3), (37, .int .i64 ((t.take x.toNat).length : Int)), (38, .int .i64 (k : Int))] ∧ (k ≤ (t.take x.toNat).length) ∧ (w1 = w') ∧ (t.take x.toNat).length - k = mes) [(2, .int .i64 (valD ((t.take x.toNat).take 0) : Int)), (3, .slice A3 t.length c3), (5, .int .i64 (x.toNat : Int)), (36, .slice A3 (t.take x.toNat).length c3), (37, .int .i64 ((t.take x.toNat).length : Int)), (38, .int .i64 (0 : Int))] ((t.take x.toNat).length - 0) (by
                  refine ⟨0, rfl, ?_, ?_, rfl⟩
                  · omega
                  · rfl) ⟨rfl, rfl, rfl, rfl, rfl, rfl, trivial⟩ ?_
              rintro _ wr _ ⟨k, rfl, hk, hw, rfl⟩ KL1 hKL1
              subst hw
              refine wc_seq ?_
              refine wc_region ?_
              refine wl_lss (by decide) rfl rfl ?_
              refine wl_nil ?_
              refine wk_norm ?_
              refine wc_seq ?_
              refine wc_cond rfl (fun hlt => ?_) (fun hlt => ?_)
              ·
                try replace hlt := of_decide_eq_true hlt
                refine wc_skip ?_
                refine wk_norm ?_
                refine wc_seq ?_
                refine wc_block ?_
                refine wc_seq ?_
                refine wc_region ?_
                refine wl_idx (by decide) Try.sl22 rfl rfl hgt k rfl (by omega) ?_
                rintro a5 cs5 hb5 _ hat5 rfl
                refine wl_load (by decide) Try.sc5 rfl hat5.head ?_
                refine wl_assign (by decide) rfl ?_
                refine wl_nil ?_
                refine wk_norm ?_
                refine wc_region ?_
                refine wl_move (by decide) rfl ?_
                have hvs := valD_take (t.take x.toNat) k (by omega)
                have hvl := valD_take_lt (t.take x.toNat) k 6 (by omega)
                have hby := ((t.take x.toNat)[k]'(by omega)).toNat_lt
                refine wl_shl (by decide) rfl rfl (by omega) (shl8 _ (by omega)) ?_
                refine wl_move (by decide) rfl ?_
                refine wl_conv (by decide) Try.it5 Try.it3 rfl (w64 (by omega) (by omega)) ?_
                refine wl_or (by decide) rfl rfl (or256 _ _ (by omega) (by omega)) ?_
                refine wl_assign (by decide) rfl ?_
                refine wl_nil ?_
                refine wk_blk_norm ?_
                refine wk_norm ?_
                refine wc_region ?_
                refine wl_add (by decide) rfl rfl (w64 (by omega) (by omega)) ?_
                refine wl_move (by decide) rfl ?_
                refine wl_nil ?_
                refine wk_norm ?_
                refine wk_drop [(2, .int .i64 (valD ((t.take x.toNat).take (k + 1)) : Int)), (3, .slice A3 t.length c3), (5, .int .i64 (x.toNat : Int)), (36, .slice A3 (t.take x.toNat).length c3), (37, .int .i64 ((t.take x.toNat).length : Int)), (38, .int .i64 ((k + 1) : Int))] ⟨(by rw [hvs]; rfl), rfl, rfl, rfl, rfl, rfl, trivial⟩ (hKL1 _ _ (m2 := (t.take x.toNat).length - (k + 1)) ?_ ?_)
                ·
                  refine ⟨(k + 1), rfl, ?_, ?_, rfl⟩
                  · omega
                  · rfl
                · omega
              ·
                try replace hlt := of_decide_eq_false hlt
                have hkl : k = (t.take x.toNat).length := by omega
                subst hkl
                rw [List.take_length]
                refine wc_exit ?_
                refine wk_then_exit ?_
                refine wk_then_exit ?_
                refine wk_blk_exit ?_
                refine wk_norm ?_
                refine wc_seq ?_
                refine wc_seq ?_
                refine wc_region ?_
                refine wl_move (by decide) rfl ?_
                refine wl_gtr (by decide) rfl rfl ?_
                refine wl_nil ?_
                refine wk_norm ?_
                refine wc_cond rfl (fun hmax => ?_) (fun hmax => ?_)
                ·
                  try replace hmax := of_decide_eq_true hmax
                  refine wc_seq ?_
                  refine wc_region ?_
                  refine wl_assign (by decide) rfl ?_
                  refine wl_assign (by decide) rfl ?_
                  refine wl_assign (by decide) rfl ?_
                  refine wl_nil ?_
                  refine wk_norm ?_
                  refine wc_ret ?_
                  refine wk_then_ret ?_
                  refine wk_post3 (.inl rfl) Try.results20 rfl rfl rfl ?_
                  have e : takeS (x :: t) = (0, [], 9) := by simp only [takeS]; rw [if_neg (by omega), if_neg (by omega), if_neg hq3, if_pos (by omega)]
                  exact ⟨_, rfl, none, 0, by rw [e]; try rfl, by rw [e]; exact OwnRow.nil _ _ _ _ _, hED⟩
                ·
                  try replace hmax := of_decide_eq_false hmax
                  refine wc_skip ?_
                  refine wk_norm ?_
                  refine wc_seq ?_
                  refine wc_region ?_
                  refine wl_move (by decide) rfl ?_
                  refine wl_move (by decide) rfl ?_
                  refine wl_move (by decide) rfl ?_
                  refine wl_from (by decide) Try.sl22 rfl rfl hg3 x.toNat rfl (by omega) ?_
                  rintro A6 c6 hg6
                  refine wl_call (by decide) Try.cl35 rfl (cloneB_ok hg6) ?_
                  rintro _ w7 ⟨A7, c7, rfl, ho7, hE7⟩
                  refine wl_assign (by decide) rfl ?_
                  refine wl_assign (by decide) rfl ?_
                  refine wl_assign (by decide) rfl ?_
                  refine wl_nil ?_
                  refine wk_norm ?_
                  refine wc_ret ?_
                  refine wk_post3 (.inl rfl) Try.results20 rfl rfl rfl ?_
                  have e : takeS (x :: t) = ((valD (t.take x.toNat) : Int), t.drop x.toNat, 0) := by simp only [takeS]; rw [if_neg (by omega), if_neg (by omega), if_neg hq3, if_neg (by omega)]
                  exact ⟨_, rfl, A7, c7, by rw [e], by rw [e]; exact ho7.lower hED.size, hED.trans hE7⟩

theorem rtakeNum_ok {A : Option Addr} {c : Nat} {b : List UInt8} {Sa : Nat → Prop} {w : World} (h : BS Sa w A c b) : Ret Try.prog 21 #[.slice A b.length c] w (fun v w' => ∃ A' c', v = .tuple #[.int .i64 (takeS b).1, .slice A' (takeS b).2.1.length c', .int .i64 (takeS b).2.2] ∧ OwnB 5 w.heap.size w' A' c' (takeS b).2.1 ∧ Ext w w') := by
  refine ret_of_wk Try.func21 rfl Try.ntmps21 (Nat.le_of_ble_eq_true rfl) ?_
  refine wc_seq ?_
  refine wc_region ?_
  refine wl_assign (by decide) rfl ?_
  refine wl_assign (by decide) rfl ?_
  refine wl_assign (by decide) rfl ?_
  refine wl_nil ?_
  refine wk_norm ?_
  refine wc_seq ?_
  refine wc_seq ?_
  refine wc_region ?_
  refine wl_move (by decide) rfl ?_
  refine wl_len (by decide) Try.underlying22 rfl ?_
  refine wl_eql (by decide) rfl rfl ?_
  refine wl_nil ?_
  refine wk_norm ?_
  refine wc_cond rfl (fun h0 => ?_) (fun h0 => ?_)
  ·
    try replace h0 := of_decide_eq_true h0
    have hb0 : b = [] := List.eq_nil_of_length_eq_zero (by omega)
    subst hb0
    refine wc_seq ?_
    refine wc_region ?_
    refine wl_assign (by decide) rfl ?_
    refine wl_assign (by decide) rfl ?_
    refine wl_assign (by decide) rfl ?_
    refine wl_nil ?_
    refine wk_norm ?_
    refine wc_ret ?_
    refine wk_then_ret ?_
    refine wk_post3 (.inl rfl) Try.results21 rfl rfl rfl ?_
    exact ⟨_, rfl, none, 0, by rw [show takeS [] = (0, [], 3) from rfl]; try rfl, by rw [show takeS [] = (0, [], 3) from rfl]; exact OwnRow.nil _ _ _ _ _, Chg.refl _ _⟩
  ·
    try replace h0 := of_decide_eq_false h0
    obtain ⟨x, t, rfl⟩ := List.exists_cons_of_ne_nil (show b ≠ [] by rintro rfl; simp at h0)
    have hx : x.toNat < 256 := x.toNat_lt
    refine wc_skip ?_
    refine wk_norm ?_
    refine wc_seq ?_
    refine wc_region ?_
    refine wl_move (by decide) rfl ?_
    have hmx := h.mx
    have hlc : (x :: t).length = t.length + 1 := rfl
    refine wl_idx (by decide) Try.sl22 rfl rfl h 0 rfl (by simp) ?_
    rintro a1 cs1 hb1 _ hat1 hcs1
    obtain rfl : cs1 = [bv x] := hcs1
    refine wl_load (by decide) Try.sc5 rfl hat1.head ?_
    have hx : x.toNat < 256 := x.toNat_lt
    refine wl_conv (z := (x.toNat : Int)) (by decide) Try.it5 Try.it3 rfl (w64 (by omega) (by omega)) ?_
    refine wl_assign (by decide) rfl ?_
    refine wl_nil ?_
    refine wk_norm ?_
    refine wc_seq ?_
    refine wc_seq ?_
    refine wc_region ?_
    refine wl_move (by decide) rfl ?_
    refine wl_gtr (by decide) rfl rfl ?_
    refine wl_nil ?_
    refine wk_norm ?_
    refine wc_cond rfl (fun h7 => ?_) (fun h7 => ?_)
    ·
      try replace h7 := of_decide_eq_true h7
      refine wc_seq ?_
      refine wc_region ?_
      refine wl_assign (by decide) rfl ?_
      refine wl_assign (by decide) rfl ?_
      refine wl_assign (by decide) rfl ?_
      refine wl_nil ?_
      refine wk_norm ?_
      refine wc_ret ?_
      refine wk_then_ret ?_
      refine wk_post3 (.inl rfl) Try.results21 rfl rfl rfl ?_
      have e : takeS (x :: t) = (0, [], 4) := by simp only [takeS]; rw [if_pos (by omega)]
      exact ⟨_, rfl, none, 0, by rw [e]; try rfl, by rw [e]; exact OwnRow.nil _ _ _ _ _, Chg.refl _ _⟩
    ·
      try replace h7 := of_decide_eq_false h7
      refine wc_skip ?_
      refine wk_norm ?_
      refine wc_seq ?_
      refine wc_seq ?_
      refine wc_region ?_
      refine wl_move (by decide) rfl ?_
      refine wl_len (by decide) Try.underlying22 rfl ?_
      refine wl_sub (by decide) rfl rfl (w64 (by omega) (by omega)) ?_
      refine wl_move (by decide) rfl ?_
      refine wl_lss (by decide) rfl rfl ?_
      refine wl_nil ?_
      refine wk_norm ?_
      refine wc_cond rfl (fun hlen => ?_) (fun hlen => ?_)
      ·
        try replace hlen := of_decide_eq_true hlen
        refine wc_seq ?_
        refine wc_region ?_
        refine wl_assign (by decide) rfl ?_
        refine wl_assign (by decide) rfl ?_
        refine wl_assign (by decide) rfl ?_
        refine wl_nil ?_
        refine wk_norm ?_
        refine wc_ret ?_
        refine wk_then_ret ?_
        refine wk_post3 (.inl rfl) Try.results21 rfl rfl rfl ?_
        have e : takeS (x :: t) = (0, [], 3) := by simp only [takeS]; rw [if_neg (by omega), if_pos (by omega)]
        exact ⟨_, rfl, none, 0, by rw [e]; try rfl, by rw [e]; exact OwnRow.nil _ _ _ _ _, Chg.refl _ _⟩
      ·
        try replace hlen := of_decide_eq_false hlen
        refine wc_skip ?_
        refine wk_norm ?_
        refine wc_seq ?_
        refine wc_seq_cut (fun L' w' => ∃ (q : Bool), L' = [(0, .slice A (x :: t).length c), (5, .int .i64 (x.toNat : Int)), (29, .bool q)] ∧ (w = w') ∧ (q = true ↔ (0 < x.toNat ∧ t.headD 1 = 0))) (fun K hK => ?_) ?_
        ·
          refine wc_region ?_
          refine wl_move (by decide) rfl ?_
          refine wl_gtr (by decide) rfl rfl ?_
          refine wl_move (by decide) rfl ?_
          refine wl_gsplit (dj := 24) rfl (fun hpos => ?_) (fun hpos => ?_)
          ·
            try replace hpos := of_decide_eq_true hpos
            have ht0 : 0 < t.length := by first | omega | (simp only [List.length_cons] at hlen; omega)
            have hhd : t.headD 1 = t[0] := by cases t with
              | nil => simp at ht0
              | cons y s => rfl
            refine wl_gyes rfl rfl ?_
            refine wl_move (by decide) rfl ?_
            refine wl_gyes rfl rfl ?_
            refine wl_idx (by decide) Try.sl22 rfl rfl h 1 rfl (by simp; omega) ?_
            rintro a4 cs4 hb4 _ hat4 hcs4
            obtain rfl : cs4 = [bv (t[0]'ht0)] := hcs4
            refine wl_gyes rfl rfl ?_
            refine wl_load (by decide) Try.sc5 rfl hat4.head ?_
            refine wl_gyes rfl rfl ?_
            refine wl_eql (by decide) rfl rfl ?_
            refine wl_pick (by decide) rfl rfl ?_
            refine wl_nil ?_
            refine wk_norm ?_
            refine wk_drop [(0, .slice A (x :: t).length c), (5, .int .i64 (x.toNat : Int)), (29, .bool _)] ⟨rfl, rfl, rfl, trivial⟩ (hK _ _ ?_)
            refine ⟨_, rfl, ?_, ?_⟩
            · rfl
            · simp only [decide_eq_true_eq]; rw [hhd]; exact ⟨fun e => ⟨by omega, UInt8.toNat_inj.1 (show (t[0]).toNat = 0 by omega)⟩, fun e => by rw [e.2]; rfl⟩
          ·
            try replace hpos := of_decide_eq_false hpos
            refine wl_gno (by decide) rfl rfl (.inl rfl) ?_
            refine wl_gno (by decide) rfl rfl (.inl rfl) ?_
            refine wl_gno (by decide) rfl rfl (.inl rfl) ?_
            refine wl_gno (by decide) rfl rfl (.inl rfl) ?_
            refine wl_pick (by decide) rfl rfl ?_
            refine wl_nil ?_
            refine wk_norm ?_
            refine wk_drop [(0, .slice A (x :: t).length c), (5, .int .i64 (x.toNat : Int)), (29, .bool _)] ⟨rfl, rfl, rfl, trivial⟩ (hK _ _ ?_)
            refine ⟨_, rfl, ?_, ?_⟩
            · rfl
            · exact ⟨fun e => (by cases e), fun e => (by omega)⟩
        ·
          rintro _ w2 ⟨q, rfl, hw, hq⟩
          subst hw
          refine wc_cond rfl (fun hq2 => ?_) (fun hq2 => ?_)
          ·
            try replace hq2 := of_decide_eq_true hq2
            rw [hq] at hq2
            refine wc_seq ?_
            refine wc_region ?_
            refine wl_assign (by decide) rfl ?_
            refine wl_assign (by decide) rfl ?_
            refine wl_assign (by decide) rfl ?_
            refine wl_nil ?_
            refine wk_norm ?_
            refine wc_ret ?_
            refine wk_then_ret ?_
            refine wk_post3 (.inl rfl) Try.results21 rfl rfl rfl ?_
            have e : takeS (x :: t) = (0, [], 4) := by simp only [takeS]; rw [if_neg (by omega), if_neg (by omega), if_pos hq2]
            exact ⟨_, rfl, none, 0, by rw [e]; try rfl, by rw [e]; exact OwnRow.nil _ _ _ _ _, Chg.refl _ _⟩
          ·
            try replace hq2 := of_decide_eq_false hq2
            have hq3 : ¬ (0 < x.toNat ∧ t.headD 1 = 0) := fun e => by rw [hq.2 e] at hq2; cases hq2
            refine wc_skip ?_
            refine wk_norm ?_
            refine wc_seq ?_
            refine wc_region ?_
            refine wl_assign (by decide) rfl ?_
            refine wl_nil ?_
            refine wk_norm ?_
            refine wc_seq ?_
            refine wc_seq ?_
            refine wc_region ?_
            refine wl_assign (by decide) rfl ?_
            refine wl_nil ?_
            refine wk_norm ?_
            refine wc_block ?_
            refine wc_loop (fun L' w' mes => ∃ (k : Nat), L' = [(0, .slice A (x :: t).length c), (5, .int .i64 (x.toNat : Int)), (6, .int .i64 (valD ((t.take x.toNat).take k) : Int)), (7, .int .i64 ((k + 1 : Nat) : Int))] ∧ (k ≤ x.toNat) ∧ (w = w') ∧ x.toNat - k = mes) [(0, .slice A (x :: t).length c), (5, .int .i64 (x.toNat : Int)), (6, .int .i64 (valD ((t.take x.toNat).take 0) : Int)), (7, .int .i64 ((0 + 1 : Nat) : Int))] (x.toNat - 0) (by
                refine ⟨0, rfl, ?_, ?_, rfl⟩
                · omega
                · rfl) ⟨rfl, rfl, rfl, rfl, trivial⟩ ?_
            rintro _ wr _ ⟨k, rfl, hk, hw, rfl⟩ KL1 hKL1
            subst hw
            have htl : (t.take x.toNat).length = x.toNat := by rw [List.length_take]; omega
            refine wc_seq ?_
            refine wc_seq ?_
            refine wc_region ?_
            refine wl_move (by decide) rfl ?_
            refine wl_move (by decide) rfl ?_
            refine wl_leq (by decide) rfl rfl ?_
            refine wl_nil ?_
            refine wk_norm ?_
            refine wc_cond rfl (fun hlt => ?_) (fun hlt => ?_)
            ·
              try replace hlt := of_decide_eq_true hlt
              refine wc_skip ?_
              refine wk_norm ?_
              refine wc_seq ?_
              refine wc_block ?_
              refine wc_region ?_
              refine wl_move (by decide) rfl ?_
              have hvs := valD_take (t.take x.toNat) k (by omega)
              have hvl := valD_take_lt (t.take x.toNat) k 6 (by omega)
              have hby := ((t.take x.toNat)[k]'(by omega)).toNat_lt
              have hge : (x :: t)[k + 1]'(by simp; omega) = (t.take x.toNat)[k]'(by omega) := by simp
              refine wl_mul (by decide) rfl rfl (w64 (by omega) (by omega)) ?_
              refine wl_move (by decide) rfl ?_
              refine wl_move (by decide) rfl ?_
              refine wl_idx (by decide) Try.sl22 rfl rfl h (k + 1) rfl (by simp; omega) ?_
              rintro a5 cs5 hb5 _ hat5 hcs5
              obtain rfl : cs5 = [bv ((t.take x.toNat)[k]'(by omega))] := by rw [← hge]; exact hcs5
              refine wl_load (by decide) Try.sc5 rfl hat5.head ?_
              refine wl_conv (by decide) Try.it5 Try.it3 rfl (w64 (by omega) (by omega)) ?_
              refine wl_add (by decide) rfl rfl (w64 (by omega) (by omega)) ?_
              refine wl_assign (by decide) rfl ?_
              refine wl_nil ?_
              refine wk_blk_norm ?_
              refine wk_norm ?_
              refine wc_region ?_
              refine wl_move (by decide) rfl ?_
              refine wl_add (by decide) rfl rfl (w64 (by omega) (by omega)) ?_
              refine wl_assign (by decide) rfl ?_
              refine wl_nil ?_
              refine wk_norm ?_
              refine wk_drop [(0, .slice A (x :: t).length c), (5, .int .i64 (x.toNat : Int)), (6, .int .i64 (valD ((t.take x.toNat).take (k + 1)) : Int)), (7, .int .i64 (((k + 1) + 1 : Nat) : Int))] ⟨rfl, rfl, (by rw [hvs]; rfl), rfl, trivial⟩ (hKL1 _ _ (m2 := x.toNat - (k + 1)) ?_ ?_)
              ·
                refine ⟨(k + 1), rfl, ?_, ?_, rfl⟩
                · omega
                · rfl
              · omega
            ·
              try replace hlt := of_decide_eq_false hlt
              have hkl : k = x.toNat := by omega
              subst hkl
              rw [List.take_of_length_le (by omega : (t.take x.toNat).length ≤ x.toNat)]
              refine wc_exit ?_
              refine wk_then_exit ?_
              refine wk_then_exit ?_
              refine wk_blk_exit ?_
              refine wk_norm ?_
              refine wc_seq ?_
              refine wc_seq ?_
              refine wc_region ?_
              refine wl_move (by decide) rfl ?_
              refine wl_gtr (by decide) rfl rfl ?_
              refine wl_nil ?_
              refine wk_norm ?_
              refine wc_cond rfl (fun hmax => ?_) (fun hmax => ?_)
              ·
                try replace hmax := of_decide_eq_true hmax
                refine wc_seq ?_
                refine wc_region ?_
                refine wl_assign (by decide) rfl ?_
                refine wl_assign (by decide) rfl ?_
                refine wl_assign (by decide) rfl ?_
                refine wl_nil ?_
                refine wk_norm ?_
                refine wc_ret ?_
                refine wk_then_ret ?_
                refine wk_post3 (.inl rfl) Try.results21 rfl rfl rfl ?_
                have e : takeS (x :: t) = (0, [], 9) := by simp only [takeS]; rw [if_neg (by omega), if_neg (by omega), if_neg hq3, if_pos (by omega)]
                exact ⟨_, rfl, none, 0, by rw [e]; try rfl, by rw [e]; exact OwnRow.nil _ _ _ _ _, Chg.refl _ _⟩
              ·
                try replace hmax := of_decide_eq_false hmax
                refine wc_skip ?_
                refine wk_norm ?_
                refine wc_seq ?_
                refine wc_region ?_
                refine wl_move (by decide) rfl ?_
                refine wl_move (by decide) rfl ?_
                refine wl_move (by decide) rfl ?_
                refine wl_add (by decide) rfl rfl (w64 (by omega) (by omega)) ?_
                refine wl_from (by decide) Try.sl22 rfl rfl h (1 + x.toNat) (by omega) (by omega) ?_
                rintro A6 c6 hg6
                have hdr : (x :: t).drop (1 + x.toNat) = t.drop x.toNat := by rw [Nat.add_comm]; rfl
                rw [hdr] at hg6 ⊢
                refine wl_call (by decide) Try.cl19 rfl (copyBytes_ok hg6) ?_
                rintro _ w7 ⟨A7, c7, rfl, ho7, hE7⟩
                refine wl_assign (by decide) rfl ?_
                refine wl_assign (by decide) rfl ?_
                refine wl_assign (by decide) rfl ?_
                refine wl_nil ?_
                refine wk_norm ?_
                refine wc_ret ?_
                refine wk_post3 (.inl rfl) Try.results21 rfl rfl rfl ?_
                have e : takeS (x :: t) = ((valD (t.take x.toNat) : Int), t.drop x.toNat, 0) := by simp only [takeS]; rw [if_neg (by omega), if_neg (by omega), if_neg hq3, if_neg (by omega)]
                exact ⟨_, rfl, A7, c7, by rw [e], by rw [e]; exact ho7, hE7⟩

theorem takeFix_ok {A : Option Addr} {c : Nat} {b : List UInt8} {n : Int} {Sa : Nat → Prop} {w : World} (h : BS Sa w A c b) (h1 : -9223372036854775808 ≤ n) (h2 : n ≤ 9223372036854775807) : Ret Try.prog 29 #[.slice A b.length c, .int .i64 n] w (fun v w' => ∃ A1 c1 A2 c2, v = .tuple #[.slice A1 (fixS b n).1.length c1, .slice A2 (fixS b n).2.1.length c2, .int .i64 (fixS b n).2.2] ∧ OwnB 5 w.heap.size w' A1 c1 (fixS b n).1 ∧ OwnB 5 w.heap.size w' A2 c2 (fixS b n).2.1 ∧ Ext w w') := by
  refine ret_of_wk Try.func29 rfl Try.ntmps29 (Nat.le_of_ble_eq_true rfl) ?_
  refine wc_seq ?_
  refine wc_region ?_
  refine wl_assign (by decide) rfl ?_
  refine wl_assign (by decide) rfl ?_
  refine wl_assign (by decide) rfl ?_
  refine wl_nil ?_
  refine wk_norm ?_
  refine wc_seq ?_
  refine wc_block ?_
  refine wc_seq ?_
  refine wc_region ?_
  refine wl_move (by decide) rfl ?_
  refine wl_lss (by decide) rfl rfl ?_
  refine wl_assign (by decide) rfl ?_
  refine wl_nil ?_
  refine wk_norm ?_
  refine wc_cond rfl (fun h0 => ?_) (fun h0 => ?_)
  ·
    try replace h0 := of_decide_eq_true h0
    refine wc_seq ?_
    refine wc_region ?_
    refine wl_assign (by decide) rfl ?_
    refine wl_assign (by decide) rfl ?_
    refine wl_assign (by decide) rfl ?_
    refine wl_nil ?_
    refine wk_norm ?_
    refine wc_ret ?_
    refine wk_blk_ret ?_
    refine wk_then_ret ?_
    refine wk_post3 (.inl rfl) Try.results29 rfl rfl rfl ?_
    have e : fixS b n = ([], [], 2) := by simp only [fixS]; rw [if_pos (by omega)]
    exact ⟨_, rfl, none, 0, none, 0, by rw [e]; try rfl, by rw [e]; exact OwnRow.nil _ _ _ _ _, by rw [e]; exact OwnRow.nil _ _ _ _ _, Chg.refl _ _⟩
  ·
    try replace h0 := of_decide_eq_false h0
    refine wc_seq ?_
    refine wc_region ?_
    refine wl_move (by decide) rfl ?_
    refine wl_len (by decide) Try.underlying22 rfl ?_
    refine wl_move (by decide) rfl ?_
    refine wl_lss (by decide) rfl rfl ?_
    refine wl_assign (by decide) rfl ?_
    refine wl_nil ?_
    refine wk_norm ?_
    refine wc_cond rfl (fun hl => ?_) (fun hl => ?_)
    ·
      try replace hl := of_decide_eq_true hl
      refine wc_seq ?_
      refine wc_region ?_
      refine wl_assign (by decide) rfl ?_
      refine wl_assign (by decide) rfl ?_
      refine wl_assign (by decide) rfl ?_
      refine wl_nil ?_
      refine wk_norm ?_
      refine wc_ret ?_
      refine wk_blk_ret ?_
      refine wk_then_ret ?_
      refine wk_post3 (.inl rfl) Try.results29 rfl rfl rfl ?_
      have e : fixS b n = ([], [], 3) := by simp only [fixS]; rw [if_neg (by omega), if_pos (by omega)]
      exact ⟨_, rfl, none, 0, none, 0, by rw [e]; try rfl, by rw [e]; exact OwnRow.nil _ _ _ _ _, by rw [e]; exact OwnRow.nil _ _ _ _ _, Chg.refl _ _⟩
    ·
      try replace hl := of_decide_eq_false hl
      refine wc_skip ?_
      refine wk_blk_norm ?_
      refine wk_norm ?_
      refine wc_seq ?_
      refine wc_drawL [SP.eq (.slice A b.length c), SP.eq (.int .i64 n), SP.gs byteR Sa (b.take n.toNat), SP.own 5 1 w.heap.size (b.take n.toNat).length ((b.take n.toNat).map bv), SP.eq (.slice A b.length c), SP.eq (.int .i64 n), SP.gs byteR Sa (b.drop n.toNat), SP.own 5 1 w.heap.size (b.drop n.toNat).length ((b.drop n.toNat).map bv), SP.own 5 1 w.heap.size (b.take n.toNat).length ((b.take n.toNat).map bv), SP.own 5 1 w.heap.size (b.drop n.toNat).length ((b.drop n.toNat).map bv), SP.eq (.int .i64 0)] (by kernel_rfl) (by kernel_rfl) ⟨?_, ?_, ?_, ?_, ?_, ?_, ?_, ?_, ?_, ?_, ?_, trivial⟩ ?_
      ·
        intro F wF hER hk
        have e0 := hk.init 0 _ rfl (by kernel_rfl)
        refine wl_move (by decide) e0 ?_
        exact wl_nil (qr_some ⟨Chg.refl _ _, rfl⟩)
      ·
        intro F wF hER hk
        have e1 := hk.init 1 _ rfl (by kernel_rfl)
        refine wl_move (by decide) e1 ?_
        exact wl_nil (qr_some ⟨Chg.refl _ _, rfl⟩)
      ·
        intro F wF hER hk
        obtain ⟨u15, e15, h15⟩ := hk.pred 0 (by kernel_rfl) 15 rfl
        obtain rfl := h15
        obtain ⟨u16, e16, h16⟩ := hk.pred 1 (by kernel_rfl) 16 rfl
        obtain rfl := h16
        refine wl_to (by decide) Try.sl22 e15 e16 (h.ext hER) n.toNat (by omega) (by omega) ?_
        intro hg1
        exact wl_nil (qr_some ⟨Chg.refl _ _, A, c, rfl, hg1⟩)
      ·
        intro F wF hER hk
        obtain ⟨u17, e17, h17⟩ := hk.pred 2 (by kernel_rfl) 17 rfl
        obtain ⟨A15, c15, rfl, hg15⟩ := h17
        refine wl_call (by decide) Try.cl35 (by simp only [evs, ev, e17]) (cloneB_ok hg15) ?_
        rintro _ w7 ⟨A7, c7, rfl, ho7, hE7⟩
        exact wl_nil (qr_some ⟨hE7, A7, c7, rfl, ho7.lower hER.size⟩)
      ·
        intro F wF hER hk
        have e0 := hk.init 0 _ rfl (by kernel_rfl)
        refine wl_move (by decide) e0 ?_
        exact wl_nil (qr_some ⟨Chg.refl _ _, rfl⟩)
      ·
        intro F wF hER hk
        have e1 := hk.init 1 _ rfl (by kernel_rfl)
        refine wl_move (by decide) e1 ?_
        exact wl_nil (qr_some ⟨Chg.refl _ _, rfl⟩)
      ·
        intro F wF hER hk
        obtain ⟨u19, e19, h19⟩ := hk.pred 4 (by kernel_rfl) 19 rfl
        obtain rfl := h19
        obtain ⟨u20, e20, h20⟩ := hk.pred 5 (by kernel_rfl) 20 rfl
        obtain rfl := h20
        refine wl_from (by decide) Try.sl22 e19 e20 (h.ext hER) n.toNat (by omega) (by omega) ?_
        rintro A1 c1 hg1
        exact wl_nil (qr_some ⟨Chg.refl _ _, A1, c1, rfl, hg1⟩)
      ·
        intro F wF hER hk
        obtain ⟨u21, e21, h21⟩ := hk.pred 6 (by kernel_rfl) 21 rfl
        obtain ⟨A19, c19, rfl, hg19⟩ := h21
        refine wl_call (by decide) Try.cl35 (by simp only [evs, ev, e21]) (cloneB_ok hg19) ?_
        rintro _ w7 ⟨A7, c7, rfl, ho7, hE7⟩
        exact wl_nil (qr_some ⟨hE7, A7, c7, rfl, ho7.lower hER.size⟩)
      ·
        intro F wF hER hk
        obtain ⟨u18, e18, h18⟩ := hk.pred 3 (by kernel_rfl) 18 rfl
        obtain ⟨A16, c16, rfl, ho16⟩ := h18
        refine wl_assign (by decide) e18 ?_
        exact wl_nil (qr_some ⟨Chg.refl _ _, A16, c16, rfl, ho16⟩)
      ·
        intro F wF hER hk
        obtain ⟨u22, e22, h22⟩ := hk.pred 7 (by kernel_rfl) 22 rfl
        obtain ⟨A20, c20, rfl, ho20⟩ := h22
        refine wl_assign (by decide) e22 ?_
        exact wl_nil (qr_some ⟨Chg.refl _ _, A20, c20, rfl, ho20⟩)
      ·
        intro F wF hER hk
        refine wl_assign (by decide) rfl ?_
        exact wl_nil (qr_some ⟨Chg.refl _ _, rfl⟩)
      ·
        intro F wD hED hini hdo
        obtain ⟨u4, e4, h4⟩ := hdo 8 4 rfl
        obtain ⟨A4, c4, rfl, ho4⟩ := h4
        obtain ⟨u5, e5, h5⟩ := hdo 9 5 rfl
        obtain ⟨A5, c5, rfl, ho5⟩ := h5
        obtain ⟨u6, e6, h6⟩ := hdo 10 6 rfl
        obtain rfl := h6
        refine wk_drop [(4, _), (5, _), (6, _)] ⟨e4, e5, e6, trivial⟩ ?_
        clear e4 e5 e6 hini hdo
        refine wk_norm ?_
        refine wc_ret ?_
        refine wk_post3 (.inl rfl) Try.results29 rfl rfl rfl ?_
        have e : fixS b n = (b.take n.toNat, b.drop n.toNat, 0) := by simp only [fixS]; rw [if_neg (by omega), if_neg (by omega)]
        exact ⟨_, rfl, A4, c4, A5, c5, by rw [e], by rw [e]; exact ho4, by rw [e]; exact ho5, hED⟩

theorem rtakeFix_ok {A : Option Addr} {c : Nat} {b : List UInt8} {n : Int} {Sa : Nat → Prop} {w : World} (h : BS Sa w A c b) (h1 : -9223372036854775808 ≤ n) (h2 : n ≤ 9223372036854775807) : Ret Try.prog 30 #[.slice A b.length c, .int .i64 n] w (fun v w' => ∃ A1 c1 A2 c2, v = .tuple #[.slice A1 (fixS b n).1.length c1, .slice A2 (fixS b n).2.1.length c2, .int .i64 (fixS b n).2.2] ∧ OwnB 5 w.heap.size w' A1 c1 (fixS b n).1 ∧ OwnB 5 w.heap.size w' A2 c2 (fixS b n).2.1 ∧ Ext w w') := by
  refine ret_of_wk Try.func30 rfl Try.ntmps30 (Nat.le_of_ble_eq_true rfl) ?_
  refine wc_seq ?_
  refine wc_region ?_
  refine wl_assign (by decide) rfl ?_
  refine wl_assign (by decide) rfl ?_
  refine wl_assign (by decide) rfl ?_
  refine wl_nil ?_
  refine wk_norm ?_
  refine wc_seq ?_
  refine wc_seq ?_
  refine wc_region ?_
  refine wl_move (by decide) rfl ?_
  refine wl_lss (by decide) rfl rfl ?_
  refine wl_nil ?_
  refine wk_norm ?_
  refine wc_cond rfl (fun h0 => ?_) (fun h0 => ?_)
  ·
    try replace h0 := of_decide_eq_true h0
    refine wc_seq ?_
    refine wc_region ?_
    refine wl_assign (by decide) rfl ?_
    refine wl_assign (by decide) rfl ?_
    refine wl_assign (by decide) rfl ?_
    refine wl_nil ?_
    refine wk_norm ?_
    refine wc_ret ?_
    refine wk_then_ret ?_
    refine wk_post3 (.inl rfl) Try.results30 rfl rfl rfl ?_
    have e : fixS b n = ([], [], 2) := by simp only [fixS]; rw [if_pos (by omega)]
    exact ⟨_, rfl, none, 0, none, 0, by rw [e]; try rfl, by rw [e]; exact OwnRow.nil _ _ _ _ _, by rw [e]; exact OwnRow.nil _ _ _ _ _, Chg.refl _ _⟩
  ·
    try replace h0 := of_decide_eq_false h0
    refine wc_skip ?_
    refine wk_norm ?_
    refine wc_seq ?_
    refine wc_seq ?_
    refine wc_region ?_
    refine wl_move (by decide) rfl ?_
    refine wl_len (by decide) Try.underlying22 rfl ?_
    refine wl_move (by decide) rfl ?_
    refine wl_lss (by decide) rfl rfl ?_
    refine wl_nil ?_
    refine wk_norm ?_
    refine wc_cond rfl (fun hl => ?_) (fun hl => ?_)
    ·
      try replace hl := of_decide_eq_true hl
      refine wc_seq ?_
      refine wc_region ?_
      refine wl_assign (by decide) rfl ?_
      refine wl_assign (by decide) rfl ?_
      refine wl_assign (by decide) rfl ?_
      refine wl_nil ?_
      refine wk_norm ?_
      refine wc_ret ?_
      refine wk_then_ret ?_
      refine wk_post3 (.inl rfl) Try.results30 rfl rfl rfl ?_
      have e : fixS b n = ([], [], 3) := by simp only [fixS]; rw [if_neg (by omega), if_pos (by omega)]
      exact ⟨_, rfl, none, 0, none, 0, by rw [e]; try rfl, by rw [e]; exact OwnRow.nil _ _ _ _ _, by rw [e]; exact OwnRow.nil _ _ _ _ _, Chg.refl _ _⟩
    ·
      try replace hl := of_decide_eq_false hl
      refine wc_skip ?_
      refine wk_norm ?_
      refine wc_seq ?_
      refine wc_drawL [SP.eq (.slice A b.length c), SP.eq (.int .i64 n), SP.gs byteR Sa (b.take n.toNat), SP.own 5 1 w.heap.size (b.take n.toNat).length ((b.take n.toNat).map bv), SP.eq (.slice A b.length c), SP.eq (.int .i64 n), SP.gs byteR Sa (b.drop n.toNat), SP.own 5 1 w.heap.size (b.drop n.toNat).length ((b.drop n.toNat).map bv), SP.own 5 1 w.heap.size (b.take n.toNat).length ((b.take n.toNat).map bv), SP.own 5 1 w.heap.size (b.drop n.toNat).length ((b.drop n.toNat).map bv), SP.eq (.int .i64 0)] (by kernel_rfl) (by kernel_rfl) ⟨?_, ?_, ?_, ?_, ?_, ?_, ?_, ?_, ?_, ?_, ?_, trivial⟩ ?_
      ·
        intro F wF hER hk
        have e0 := hk.init 0 _ rfl (by kernel_rfl)
        refine wl_move (by decide) e0 ?_
        exact wl_nil (qr_some ⟨Chg.refl _ _, rfl⟩)
      ·
        intro F wF hER hk
        have e1 := hk.init 1 _ rfl (by kernel_rfl)
        refine wl_move (by decide) e1 ?_
        exact wl_nil (qr_some ⟨Chg.refl _ _, rfl⟩)
      ·
        intro F wF hER hk
        obtain ⟨u13, e13, h13⟩ := hk.pred 0 (by kernel_rfl) 13 rfl
        obtain rfl := h13
        obtain ⟨u14, e14, h14⟩ := hk.pred 1 (by kernel_rfl) 14 rfl
        obtain rfl := h14
        refine wl_to (by decide) Try.sl22 e13 e14 (h.ext hER) n.toNat (by omega) (by omega) ?_
        intro hg1
        exact wl_nil (qr_some ⟨Chg.refl _ _, A, c, rfl, hg1⟩)
      ·
        intro F wF hER hk
        obtain ⟨u15, e15, h15⟩ := hk.pred 2 (by kernel_rfl) 15 rfl
        obtain ⟨A15, c15, rfl, hg15⟩ := h15
        refine wl_call (by decide) Try.cl19 (by simp only [evs, ev, e15]) (copyBytes_ok hg15) ?_
        rintro _ w7 ⟨A7, c7, rfl, ho7, hE7⟩
        exact wl_nil (qr_some ⟨hE7, A7, c7, rfl, ho7.lower hER.size⟩)
      ·
        intro F wF hER hk
        have e0 := hk.init 0 _ rfl (by kernel_rfl)
        refine wl_move (by decide) e0 ?_
        exact wl_nil (qr_some ⟨Chg.refl _ _, rfl⟩)
      ·
        intro F wF hER hk
        have e1 := hk.init 1 _ rfl (by kernel_rfl)
        refine wl_move (by decide) e1 ?_
        exact wl_nil (qr_some ⟨Chg.refl _ _, rfl⟩)
      ·
        intro F wF hER hk
        obtain ⟨u17, e17, h17⟩ := hk.pred 4 (by kernel_rfl) 17 rfl
        obtain rfl := h17
        obtain ⟨u18, e18, h18⟩ := hk.pred 5 (by kernel_rfl) 18 rfl
        obtain rfl := h18
        refine wl_from (by decide) Try.sl22 e17 e18 (h.ext hER) n.toNat (by omega) (by omega) ?_
        rintro A1 c1 hg1
        exact wl_nil (qr_some ⟨Chg.refl _ _, A1, c1, rfl, hg1⟩)
      ·
        intro F wF hER hk
        obtain ⟨u19, e19, h19⟩ := hk.pred 6 (by kernel_rfl) 19 rfl
        obtain ⟨A19, c19, rfl, hg19⟩ := h19
        refine wl_call (by decide) Try.cl19 (by simp only [evs, ev, e19]) (copyBytes_ok hg19) ?_
        rintro _ w7 ⟨A7, c7, rfl, ho7, hE7⟩
        exact wl_nil (qr_some ⟨hE7, A7, c7, rfl, ho7.lower hER.size⟩)
      ·
        intro F wF hER hk
        obtain ⟨u16, e16, h16⟩ := hk.pred 3 (by kernel_rfl) 16 rfl
        obtain ⟨A16, c16, rfl, ho16⟩ := h16
        refine wl_assign (by decide) e16 ?_
        exact wl_nil (qr_some ⟨Chg.refl _ _, A16, c16, rfl, ho16⟩)
      ·
        intro F wF hER hk
        obtain ⟨u20, e20, h20⟩ := hk.pred 7 (by kernel_rfl) 20 rfl
        obtain ⟨A20, c20, rfl, ho20⟩ := h20
        refine wl_assign (by decide) e20 ?_
        exact wl_nil (qr_some ⟨Chg.refl _ _, A20, c20, rfl, ho20⟩)
      ·
        intro F wF hER hk
        refine wl_assign (by decide) rfl ?_
        exact wl_nil (qr_some ⟨Chg.refl _ _, rfl⟩)
      ·
        intro F wD hED hini hdo
        obtain ⟨u4, e4, h4⟩ := hdo 8 4 rfl
        obtain ⟨A4, c4, rfl, ho4⟩ := h4
        obtain ⟨u5, e5, h5⟩ := hdo 9 5 rfl
        obtain ⟨A5, c5, rfl, ho5⟩ := h5
        obtain ⟨u6, e6, h6⟩ := hdo 10 6 rfl
        obtain rfl := h6
        refine wk_drop [(4, _), (5, _), (6, _)] ⟨e4, e5, e6, trivial⟩ ?_
        clear e4 e5 e6 hini hdo
        refine wk_norm ?_
        refine wc_ret ?_
        refine wk_post3 (.inl rfl) Try.results30 rfl rfl rfl ?_
        have e : fixS b n = (b.take n.toNat, b.drop n.toNat, 0) := by simp only [fixS]; rw [if_neg (by omega), if_neg (by omega)]
        exact ⟨_, rfl, A4, c4, A5, c5, by rw [e], by rw [e]; exact ho4, by rw [e]; exact ho5, hED⟩

theorem takeStr_ok {A : Option Addr} {c : Nat} {b : List UInt8} {most : Int} {Sa : Nat → Prop} {w : World} (h : BS Sa w A c b) : Ret Try.prog 27 #[.slice A b.length c, .int .i64 most] w (fun v w' => ∃ A1 c1 A2 c2, v = .tuple #[.slice A1 (takeStrS b most).1.length c1, .slice A2 (takeStrS b most).2.1.length c2, .int .i64 (takeStrS b most).2.2] ∧ OwnB 5 w.heap.size w' A1 c1 (takeStrS b most).1 ∧ OwnB 5 w.heap.size w' A2 c2 (takeStrS b most).2.1 ∧ Ext w w') := by
  refine ret_of_wk Try.func27 rfl Try.ntmps27 (Nat.le_of_ble_eq_true rfl) ?_
  refine wc_seq ?_
  refine wc_region ?_
  refine wl_assign (by decide) rfl ?_
  refine wl_assign (by decide) rfl ?_
  refine wl_assign (by decide) rfl ?_
  refine wl_nil ?_
  refine wk_norm ?_
  refine wc_seq ?_
  refine wc_seq ?_
  refine wc_region ?_
  refine wl_move (by decide) rfl ?_
  refine wl_lss (by decide) rfl rfl ?_
  refine wl_nil ?_
  refine wk_norm ?_
  refine wc_cond rfl (fun h0 => ?_) (fun h0 => ?_)
  ·
    try replace h0 := of_decide_eq_true h0
    refine wc_seq ?_
    refine wc_region ?_
    refine wl_assign (by decide) rfl ?_
    refine wl_assign (by decide) rfl ?_
    refine wl_assign (by decide) rfl ?_
    refine wl_nil ?_
    refine wk_norm ?_
    refine wc_ret ?_
    refine wk_then_ret ?_
    refine wk_post3 (.inl rfl) Try.results27 rfl rfl rfl ?_
    have e : takeStrS b most = ([], [], 2) := by simp only [takeStrS]; rw [if_pos (by omega)]
    exact ⟨_, rfl, none, 0, none, 0, by rw [e]; try rfl, by rw [e]; exact OwnRow.nil _ _ _ _ _, by rw [e]; exact OwnRow.nil _ _ _ _ _, Chg.refl _ _⟩
  ·
    try replace h0 := of_decide_eq_false h0
    refine wc_skip ?_
    refine wk_norm ?_
    refine wc_seq ?_
    refine wc_region ?_
    refine wl_move (by decide) rfl ?_
    have htb := takeS_lim b
    refine wl_call (by decide) Try.cl20 rfl (takeNum_ok h) ?_
    rintro _ w1 ⟨A1, c1, rfl, ho1, hE1⟩
    refine wl_move (by decide) rfl ?_
    refine wl_extract (by decide) rfl rfl ?_
    refine wl_extract (by decide) rfl rfl ?_
    refine wl_extract (by decide) rfl rfl ?_
    refine wl_assign (by decide) rfl ?_
    refine wl_assign (by decide) rfl ?_
    refine wl_assign (by decide) rfl ?_
    refine wl_nil ?_
    refine wk_norm ?_
    refine wc_seq ?_
    refine wc_block ?_
    refine wc_seq ?_
    refine wc_region ?_
    refine wl_move (by decide) rfl ?_
    refine wl_neq (by decide) rfl rfl ?_
    refine wl_assign (by decide) rfl ?_
    refine wl_nil ?_
    refine wk_norm ?_
    refine wc_cond rfl (fun he => ?_) (fun he => ?_)
    ·
      try replace he := of_decide_eq_true he
      refine wc_seq ?_
      refine wc_region ?_
      refine wl_move (by decide) rfl ?_
      refine wl_assign (by decide) rfl ?_
      refine wl_assign (by decide) rfl ?_
      refine wl_assign (by decide) rfl ?_
      refine wl_nil ?_
      refine wk_norm ?_
      refine wc_ret ?_
      refine wk_blk_ret ?_
      refine wk_then_ret ?_
      refine wk_post3 (.inl rfl) Try.results27 rfl rfl rfl ?_
      have e : takeStrS b most = ([], [], (takeS b).2.2) := by simp only [takeStrS]; rw [if_neg (by omega), if_pos he]
      exact ⟨_, rfl, none, 0, none, 0, by rw [e]; try rfl, by rw [e]; exact OwnRow.nil _ _ _ _ _, by rw [e]; exact OwnRow.nil _ _ _ _ _, hE1⟩
    ·
      try replace he := of_decide_eq_false he
      refine wc_seq ?_
      refine wc_region ?_
      refine wl_move (by decide) rfl ?_
      refine wl_move (by decide) rfl ?_
      refine wl_min (by decide) rfl rfl ?_
      refine wl_gtr (by decide) rfl rfl ?_
      refine wl_assign (by decide) rfl ?_
      refine wl_nil ?_
      refine wk_norm ?_
      refine wc_cond rfl (fun hl => ?_) (fun hl => ?_)
      ·
        try replace hl := of_decide_eq_true hl
        refine wc_seq ?_
        refine wc_region ?_
        refine wl_assign (by decide) rfl ?_
        refine wl_assign (by decide) rfl ?_
        refine wl_assign (by decide) rfl ?_
        refine wl_nil ?_
        refine wk_norm ?_
        refine wc_ret ?_
        refine wk_blk_ret ?_
        refine wk_then_ret ?_
        refine wk_post3 (.inl rfl) Try.results27 rfl rfl rfl ?_
        have e : takeStrS b most = ([], [], 5) := by simp only [takeStrS]; rw [if_neg (by omega), if_neg he, if_pos (by omega)]
        exact ⟨_, rfl, none, 0, none, 0, by rw [e]; try rfl, by rw [e]; exact OwnRow.nil _ _ _ _ _, by rw [e]; exact OwnRow.nil _ _ _ _ _, hE1⟩
      ·
        try replace hl := of_decide_eq_false hl
        refine wc_skip ?_
        refine wk_blk_norm ?_
        refine wk_norm ?_
        refine wc_seq ?_
        refine wc_region ?_
        refine wl_move (by decide) rfl ?_
        refine wl_move (by decide) rfl ?_
        refine wl_call (by decide) Try.cl29 rfl (takeFix_ok ho1.bs (by omega) (by omega)) ?_
        rintro _ w2 ⟨A3, c3, A4, c4, rfl, ho3, ho4, hE2⟩
        refine wl_extract (by decide) rfl rfl ?_
        refine wl_extract (by decide) rfl rfl ?_
        refine wl_extract (by decide) rfl rfl ?_
        refine wl_assign (by decide) rfl ?_
        refine wl_assign (by decide) rfl ?_
        refine wl_assign (by decide) rfl ?_
        refine wl_nil ?_
        refine wk_norm ?_
        refine wc_ret ?_
        refine wk_post3 (.inl rfl) Try.results27 rfl rfl rfl ?_
        have e : takeStrS b most = fixS (takeS b).2.1 (takeS b).1 := by simp only [takeStrS]; rw [if_neg (by omega), if_neg he, if_neg (by omega)]
        exact ⟨_, rfl, A3, c3, A4, c4, by rw [e], by rw [e]; exact ho3.lower hE1.size, by rw [e]; exact ho4.lower hE1.size, hE1.trans hE2⟩

theorem rtakeStr_ok {A : Option Addr} {c : Nat} {b : List UInt8} {most : Int} {Sa : Nat → Prop} {w : World} (h : BS Sa w A c b) : Ret Try.prog 28 #[.slice A b.length c, .int .i64 most] w (fun v w' => ∃ A1 c1 A2 c2, v = .tuple #[.slice A1 (takeStrS b most).1.length c1, .slice A2 (takeStrS b most).2.1.length c2, .int .i64 (takeStrS b most).2.2] ∧ OwnB 5 w.heap.size w' A1 c1 (takeStrS b most).1 ∧ OwnB 5 w.heap.size w' A2 c2 (takeStrS b most).2.1 ∧ Ext w w') := by
  refine ret_of_wk Try.func28 rfl Try.ntmps28 (Nat.le_of_ble_eq_true rfl) ?_
  refine wc_seq ?_
  refine wc_region ?_
  refine wl_assign (by decide) rfl ?_
  refine wl_assign (by decide) rfl ?_
  refine wl_assign (by decide) rfl ?_
  refine wl_nil ?_
  refine wk_norm ?_
  refine wc_seq ?_
  refine wc_seq ?_
  refine wc_region ?_
  refine wl_move (by decide) rfl ?_
  refine wl_lss (by decide) rfl rfl ?_
  refine wl_nil ?_
  refine wk_norm ?_
  refine wc_cond rfl (fun h0 => ?_) (fun h0 => ?_)
  ·
    try replace h0 := of_decide_eq_true h0
    refine wc_seq ?_
    refine wc_region ?_
    refine wl_assign (by decide) rfl ?_
    refine wl_assign (by decide) rfl ?_
    refine wl_assign (by decide) rfl ?_
    refine wl_nil ?_
    refine wk_norm ?_
    refine wc_ret ?_
    refine wk_then_ret ?_
    refine wk_post3 (.inl rfl) Try.results28 rfl rfl rfl ?_
    have e : takeStrS b most = ([], [], 2) := by simp only [takeStrS]; rw [if_pos (by omega)]
    exact ⟨_, rfl, none, 0, none, 0, by rw [e]; try rfl, by rw [e]; exact OwnRow.nil _ _ _ _ _, by rw [e]; exact OwnRow.nil _ _ _ _ _, Chg.refl _ _⟩
  ·
    try replace h0 := of_decide_eq_false h0
    refine wc_skip ?_
    refine wk_norm ?_
    refine wc_seq ?_
    refine wc_region ?_
    refine wl_move (by decide) rfl ?_
    have htb := takeS_lim b
    refine wl_call (by decide) Try.cl21 rfl (rtakeNum_ok h) ?_
    rintro _ w1 ⟨A1, c1, rfl, ho1, hE1⟩
    refine wl_move (by decide) rfl ?_
    refine wl_extract (by decide) rfl rfl ?_
    refine wl_extract (by decide) rfl rfl ?_
    refine wl_extract (by decide) rfl rfl ?_
    refine wl_assign (by decide) rfl ?_
    refine wl_assign (by decide) rfl ?_
    refine wl_assign (by decide) rfl ?_
    refine wl_nil ?_
    refine wk_norm ?_
    refine wc_seq ?_
    refine wc_seq ?_
    refine wc_region ?_
    refine wl_move (by decide) rfl ?_
    refine wl_neq (by decide) rfl rfl ?_
    refine wl_nil ?_
    refine wk_norm ?_
    refine wc_cond rfl (fun he => ?_) (fun he => ?_)
    ·
      try replace he := of_decide_eq_true he
      refine wc_seq ?_
      refine wc_region ?_
      refine wl_move (by decide) rfl ?_
      refine wl_assign (by decide) rfl ?_
      refine wl_assign (by decide) rfl ?_
      refine wl_assign (by decide) rfl ?_
      refine wl_nil ?_
      refine wk_norm ?_
      refine wc_ret ?_
      refine wk_then_ret ?_
      refine wk_post3 (.inl rfl) Try.results28 rfl rfl rfl ?_
      have e : takeStrS b most = ([], [], (takeS b).2.2) := by simp only [takeStrS]; rw [if_neg (by omega), if_pos he]
      exact ⟨_, rfl, none, 0, none, 0, by rw [e]; try rfl, by rw [e]; exact OwnRow.nil _ _ _ _ _, by rw [e]; exact OwnRow.nil _ _ _ _ _, hE1⟩
    ·
      try replace he := of_decide_eq_false he
      refine wc_skip ?_
      refine wk_norm ?_
      refine wc_seq ?_
      refine wc_seq ?_
      refine wc_region ?_
      refine wl_move (by decide) rfl ?_
      refine wl_move (by decide) rfl ?_
      refine wl_gtr (by decide) rfl rfl ?_
      refine wl_move (by decide) rfl ?_
      refine wl_gsplit (dj := 24) rfl (fun hl => ?_) (fun hl => ?_)
      ·
        try replace hl := of_decide_eq_true hl
        refine wl_gno (by decide) rfl rfl (.inl rfl) ?_
        refine wl_gno (by decide) rfl rfl (.inl rfl) ?_
        refine wl_pick (by decide) rfl rfl ?_
        refine wl_nil ?_
        refine wk_norm ?_
        refine wc_cond_t rfl ?_
        refine wc_seq ?_
        refine wc_region ?_
        refine wl_assign (by decide) rfl ?_
        refine wl_assign (by decide) rfl ?_
        refine wl_assign (by decide) rfl ?_
        refine wl_nil ?_
        refine wk_norm ?_
        refine wc_ret ?_
        refine wk_then_ret ?_
        refine wk_post3 (.inl rfl) Try.results28 rfl rfl rfl ?_
        have e : takeStrS b most = ([], [], 5) := by simp only [takeStrS]; rw [if_neg (by omega), if_neg he, if_pos (by omega)]
        exact ⟨_, rfl, none, 0, none, 0, by rw [e]; try rfl, by rw [e]; exact OwnRow.nil _ _ _ _ _, by rw [e]; exact OwnRow.nil _ _ _ _ _, hE1⟩
      ·
        try replace hl := of_decide_eq_false hl
        refine wl_gyes rfl rfl ?_
        refine wl_move (by decide) rfl ?_
        refine wl_gyes rfl rfl ?_
        refine wl_gtr (by decide) rfl rfl ?_
        refine wl_pick (by decide) rfl rfl ?_
        refine wl_nil ?_
        refine wk_norm ?_
        refine wc_cond rfl (fun hl2 => ?_) (fun hl2 => ?_)
        ·
          try replace hl2 := of_decide_eq_true hl2
          refine wc_seq ?_
          refine wc_region ?_
          refine wl_assign (by decide) rfl ?_
          refine wl_assign (by decide) rfl ?_
          refine wl_assign (by decide) rfl ?_
          refine wl_nil ?_
          refine wk_norm ?_
          refine wc_ret ?_
          refine wk_then_ret ?_
          refine wk_post3 (.inl rfl) Try.results28 rfl rfl rfl ?_
          have e : takeStrS b most = ([], [], 5) := by simp only [takeStrS]; rw [if_neg (by omega), if_neg he, if_pos (by omega)]
          exact ⟨_, rfl, none, 0, none, 0, by rw [e]; try rfl, by rw [e]; exact OwnRow.nil _ _ _ _ _, by rw [e]; exact OwnRow.nil _ _ _ _ _, hE1⟩
        ·
          try replace hl2 := of_decide_eq_false hl2
          refine wc_skip ?_
          refine wk_norm ?_
          refine wc_seq ?_
          refine wc_region ?_
          refine wl_move (by decide) rfl ?_
          refine wl_move (by decide) rfl ?_
          refine wl_call (by decide) Try.cl30 rfl (rtakeFix_ok ho1.bs (by omega) (by omega)) ?_
          rintro _ w2 ⟨A3, c3, A4, c4, rfl, ho3, ho4, hE2⟩
          refine wl_extract (by decide) rfl rfl ?_
          refine wl_extract (by decide) rfl rfl ?_
          refine wl_extract (by decide) rfl rfl ?_
          refine wl_assign (by decide) rfl ?_
          refine wl_assign (by decide) rfl ?_
          refine wl_assign (by decide) rfl ?_
          refine wl_nil ?_
          refine wk_norm ?_
          refine wc_ret ?_
          refine wk_post3 (.inl rfl) Try.results28 rfl rfl rfl ?_
          have e : takeStrS b most = fixS (takeS b).2.1 (takeS b).1 := by simp only [takeStrS]; rw [if_neg (by omega), if_neg he, if_neg (by omega)]
          exact ⟨_, rfl, A3, c3, A4, c4, by rw [e], by rw [e]; exact ho3.lower hE1.size, by rw [e]; exact ho4.lower hE1.size, hE1.trans hE2⟩

theorem str_ok {A : Option Addr} {c : Nat} {b : List UInt8} {Sa : Nat → Prop} {w : World} (h : BS Sa w A c b) : Ret Try.prog 25 #[.slice A b.length c] w (fun v w' => ∃ A c, v = .tuple #[.slice A (strS b).1.length c, .int .i64 (strS b).2] ∧ OwnB 5 w.heap.size w' A c (strS b).1 ∧ Ext w w') := by
  refine ret_of_wk Try.func25 rfl Try.ntmps25 (Nat.le_of_ble_eq_true rfl) ?_
  refine wc_seq ?_
  refine wc_region ?_
  refine wl_assign (by decide) rfl ?_
  refine wl_assign (by decide) rfl ?_
  refine wl_nil ?_
  refine wk_norm ?_
  refine wc_seq ?_
  refine wc_seq ?_
  refine wc_region ?_
  refine wl_move (by decide) rfl ?_
  refine wl_len (by decide) Try.underlying22 rfl ?_
  refine wl_gtr (by decide) rfl rfl ?_
  refine wl_nil ?_
  refine wk_norm ?_
  refine wc_cond rfl (fun hl => ?_) (fun hl => ?_)
  ·
    try replace hl := of_decide_eq_true hl
    refine wc_seq ?_
    refine wc_region ?_
    refine wl_assign (by decide) rfl ?_
    refine wl_assign (by decide) rfl ?_
    refine wl_nil ?_
    refine wk_norm ?_
    refine wc_ret ?_
    refine wk_then_ret ?_
    refine wk_post2 (.inl rfl) Try.results25 rfl rfl ?_
    have e : strS b = ([], 5) := by simp only [strS]; rw [if_pos (by omega)]
    exact ⟨_, rfl, none, 0, by rw [e]; try rfl, by rw [e]; exact OwnRow.nil _ _ _ _ _, Chg.refl _ _⟩
  ·
    try replace hl := of_decide_eq_false hl
    have hns : numS (b.length : Int) = (numL b.length, 0) := by rw [numS, if_neg (by omega)]; simp
    have hnl := numL_len b.length (by omega)
    refine wc_skip ?_
    refine wk_norm ?_
    refine wc_seq ?_
    refine wc_region ?_
    refine wl_move (by decide) rfl ?_
    refine wl_len (by decide) Try.underlying22 rfl ?_
    refine wl_call (by decide) Try.cl17 rfl (num_ok (by omega) (by omega)) ?_
    rintro _ w1 ⟨A1, c1, rfl, ho1, hE1⟩
    rw [hns] at ho1 ⊢
    refine wl_move (by decide) rfl ?_
    refine wl_extract (by decide) rfl rfl ?_
    refine wl_extract (by decide) rfl rfl ?_
    refine wl_assign (by decide) rfl ?_
    refine wl_assign (by decide) rfl ?_
    refine wl_nil ?_
    refine wk_norm ?_
    refine wc_seq ?_
    refine wc_seq ?_
    refine wc_region ?_
    refine wl_move (by decide) rfl ?_
    refine wl_neq (by decide) rfl rfl ?_
    refine wl_nil ?_
    refine wk_norm ?_
    refine wc_cond rfl (fun hz => ?_) (fun hz => ?_)
    ·
      try replace hz := of_decide_eq_true hz
      exact absurd rfl hz
    ·
      try replace hz := of_decide_eq_false hz
      refine wc_skip ?_
      refine wk_norm ?_
      refine wc_seq ?_
      refine wc_region ?_
      refine wl_move (by decide) rfl ?_
      refine wl_move (by decide) rfl ?_
      refine wl_bslice (xs := [.tmp 18, .tmp 19]) (vs := [.slice A1 (numL b.length).length c1, .slice A b.length c]) (by decide) Try.sl45 rfl rfl rfl (by intro v hv; simp only [List.mem_cons, List.not_mem_nil, or_false] at hv; rcases hv with rfl | rfl <;> rfl) (by simp) w1.heap.size (Nat.le_refl _) ?_
      rintro g w2 hg2 ho2 hE2
      have hat2 : At w2 ⟨g, 0, none⟩ [.slice A1 (numL b.length).length c1, .slice A b.length c] := ho2.at0
      have hgs : GS (sliceR byteR) (fun _ => True) w2 (some ⟨g, 0, none⟩) 2 [numL b.length, b] := GS.two hat2 ho2.lt0 (Nat.le_refl _) trivial (sliceR_mk ((ho1.bs.ext hE2).mono (fun _ _ _ => trivial))) (sliceR_mk (((h.ext hE1).ext hE2).mono (fun _ _ _ => trivial)))
      have hcl := join_ok hgs (by simp; omega)
      refine wl_call (by decide) Try.cl31 rfl hcl ?_
      clear hcl
      rintro _ w3 ⟨A3, c3, rfl, ho3, hE3⟩
      refine wl_assign (by decide) rfl ?_
      refine wl_assign (by decide) rfl ?_
      refine wl_nil ?_
      refine wk_norm ?_
      refine wc_ret ?_
      refine wk_post2 (.inl rfl) Try.results25 rfl rfl ?_
      have e : strS b = (numL b.length ++ b, 0) := by simp only [strS]; rw [if_neg (by omega)]
      have e2 : [numL b.length, b].flatten = numL b.length ++ b := by simp
      rw [e2] at ho3 ⊢
      exact ⟨_, rfl, A3, c3, by rw [e], by rw [e]; exact ho3.lower (hE1.trans hE2).size, (hE1.trans hE2).trans hE3⟩

theorem rstr_ok {A : Option Addr} {c : Nat} {b : List UInt8} {Sa : Nat → Prop} {w : World} (h : BS Sa w A c b) : Ret Try.prog 26 #[.slice A b.length c] w (fun v w' => ∃ A c, v = .tuple #[.slice A (strS b).1.length c, .int .i64 (strS b).2] ∧ OwnB 5 w.heap.size w' A c (strS b).1 ∧ Ext w w') := by
  refine ret_of_wk Try.func26 rfl Try.ntmps26 (Nat.le_of_ble_eq_true rfl) ?_
  refine wc_seq ?_
  refine wc_region ?_
  refine wl_assign (by decide) rfl ?_
  refine wl_assign (by decide) rfl ?_
  refine wl_nil ?_
  refine wk_norm ?_
  refine wc_seq ?_
  refine wc_seq ?_
  refine wc_region ?_
  refine wl_move (by decide) rfl ?_
  refine wl_len (by decide) Try.underlying22 rfl ?_
  refine wl_gtr (by decide) rfl rfl ?_
  refine wl_nil ?_
  refine wk_norm ?_
  refine wc_cond rfl (fun hl => ?_) (fun hl => ?_)
  ·
    try replace hl := of_decide_eq_true hl
    refine wc_seq ?_
    refine wc_region ?_
    refine wl_assign (by decide) rfl ?_
    refine wl_assign (by decide) rfl ?_
    refine wl_nil ?_
    refine wk_norm ?_
    refine wc_ret ?_
    refine wk_then_ret ?_
    refine wk_post2 (.inl rfl) Try.results26 rfl rfl ?_
    have e : strS b = ([], 5) := by simp only [strS]; rw [if_pos (by omega)]
    exact ⟨_, rfl, none, 0, by rw [e]; try rfl, by rw [e]; exact OwnRow.nil _ _ _ _ _, Chg.refl _ _⟩
  ·
    try replace hl := of_decide_eq_false hl
    have hns : numS (b.length : Int) = (numL b.length, 0) := by rw [numS, if_neg (by omega)]; simp
    have hnl := numL_len b.length (by omega)
    refine wc_skip ?_
    refine wk_norm ?_
    refine wc_seq ?_
    refine wc_region ?_
    refine wl_move (by decide) rfl ?_
    refine wl_len (by decide) Try.underlying22 rfl ?_
    refine wl_call (by decide) Try.cl18 rfl (rnum_ok (by omega) (by omega)) ?_
    rintro _ w1 ⟨A1, c1, rfl, ho1, hE1⟩
    rw [hns] at ho1 ⊢
    refine wl_move (by decide) rfl ?_
    refine wl_extract (by decide) rfl rfl ?_
    refine wl_extract (by decide) rfl rfl ?_
    refine wl_assign (by decide) rfl ?_
    refine wl_assign (by decide) rfl ?_
    refine wl_nil ?_
    refine wk_norm ?_
    refine wc_seq ?_
    refine wc_region ?_
    refine wl_move (by decide) rfl ?_
    refine wl_move (by decide) rfl ?_
    refine wl_appendB (by decide) Try.sl22 rfl rfl ho1 (h.ext hE1) (by simp; omega) hE1.size ?_
    rintro A3 c3 w3 ho3 ch3 _
    refine wl_assign (by decide) rfl ?_
    refine wl_assign (by decide) rfl ?_
    refine wl_nil ?_
    refine wk_norm ?_
    refine wc_ret ?_
    refine wk_post2 (.inl rfl) Try.results26 rfl rfl ?_
    have e : strS b = (numL b.length ++ b, 0) := by simp only [strS]; rw [if_neg (by omega)]
    exact ⟨_, rfl, A3, c3, by rw [e], by rw [e]; exact ho3, hE1.own ch3 (Nat.le_refl _)⟩

end Go.Proofs.Ytifnbemboednaaa
