/- Lnm (printed by program: wip/gen) -/
import Derived.Test.YtnlpibfdobinoaaLnk
namespace Go.Proofs.Ytnlpibfdobinoaa
open Go.RowKit Go.Eng

theorem ahead_ok {A0 : Option Addr} {c0 : Nat} {H : List HOp} {S : Nat → Prop} {w : World} (h : HS S w A0 c0 H) (hl : H.length ≤ 14) : Ret Try.prog 31 #[.slice A0 H.length c0] w (fun v w' => ∃ A c, v = .tuple #[.slice A (befL H).length c, .int .i64 (endN H : Int)] ∧ OwnE (fun z : Int => .int .i64 z) 3 w.heap.size w' A c (befL H) ∧ Ext w w') := by
  refine ret_of_wk Try.func31 rfl Try.ntmps31 (Nat.le_of_ble_eq_true rfl) ?_
  have hp := HP.beginS w S
  have hFU : ∀ b, (S b ∧ b < w.heap.size) → S b ∨ w.heap.size ≤ b := fun _ h => .inl h.1
  replace h := h.nowS
  refine wc_seq ?_
  refine wc_region ?_
  refine wl_assign (by decide) rfl ?_
  replace hp := hp.noRow 3 1
  refine wl_assign (by decide) rfl ?_
  refine wl_nil ?_
  refine wk_norm ?_
  refine wc_seq ?_
  refine wc_seq ?_
  refine wc_region ?_
  refine wl_move (by decide) rfl ?_
  refine wl_len (by decide) Try.underlying22 rfl ?_
  refine wl_move (by decide) rfl ?_
  refine wl_nil ?_
  refine wk_norm ?_
  refine wc_block ?_
  refine wc_loop (fun L' w' mes => ∃ (k : Nat), ∃ (A : Option Addr), ∃ (c : Nat), L' = [(0, .slice A0 H.length c0), (2, .slice A k c), (3, .int .i64 ((setN (fun j => decide (0 < (hop H j).e)) k : Nat) : Int)), (9, .slice A0 H.length c0), (10, .int .i64 (H.length : Int)), (11, .int .i64 (k : Int))] ∧ (k ≤ H.length) ∧ (HS (fun b => S b ∧ b < w.heap.size) w' A0 c0 H) ∧ (HP w (fun _ => False) (fun b => S b ∧ b < w.heap.size) w' [itR 3 1 A k c ((List.range k).map fun i => .int .i64 ((setN (ahd H i) H.length : Nat) : Int))]) ∧ H.length - k = mes) [(0, .slice A0 H.length c0), (2, .slice none 0 0), (3, .int .i64 ((setN (fun j => decide (0 < (hop H j).e)) 0 : Nat) : Int)), (9, .slice A0 H.length c0), (10, .int .i64 (H.length : Int)), (11, .int .i64 (0 : Int))] (H.length - 0) (by
      refine ⟨0, none, 0, rfl, ?_, ?_, ?_, rfl⟩
      · omega
      · exact h
      · exact hp) ⟨rfl, rfl, rfl, rfl, rfl, rfl, trivial⟩ ?_
  rintro _ wr _ ⟨k, A, c, rfl, hk, h, hp, rfl⟩ KL1 hKL1
  have hmx := h.mx
  refine wc_seq ?_
  refine wc_region ?_
  refine wl_lss (by decide) rfl rfl ?_
  refine wl_nil ?_
  refine wk_norm ?_
  refine wc_seq ?_
  refine wc_cond rfl (fun hlt => ?_) (fun hlt => ?_)
  ·
    try replace hlt := of_decide_eq_true hlt
    refine wc_skip ?_
    refine wk_norm ?_
    refine wc_seq ?_
    refine wc_block ?_
    refine wc_seq ?_
    refine wc_region ?_
    refine wl_move (by decide) rfl ?_
    obtain ⟨aK, BK, dK, hAK, hatK, hvK⟩ := HS.el h k (by omega)
    refine wl_idx0 (by decide) Try.sl22 rfl rfl hAK k rfl (by omega) ?_
    refine wl_loadA (by decide) Try.ag45 rfl hatK.at_ rfl ?_
    refine wl_halloc (z := .agg #[.bool false, .slice none 0 0, .int .i64 0, .int .i64 0]) (by decide) (by kernel_rfl) hp ?_
    rintro gs5 w1 hp1 hE1
    replace h := h.ext hE1
    replace hatK := hatK.ext hE1
    replace hvK := hvK.ext hE1
    replace hp := hp1
    refine wl_assign (by decide) rfl ?_
    refine wl_hstore (i := 0) rfl rfl hp rfl Try.sz45 (Nat.le_of_ble_eq_true rfl) (List.all_eq_true.1 rfl) ?_
    rintro w2 hp2 hC2
    replace h := h.fz hC2
    replace hatK := hatK.fz hC2
    replace hvK := hvK.fz hC2
    replace hp := hp2
    refine wl_nil ?_
    refine wk_norm ?_
    refine wc_seq ?_
    refine wc_region ?_
    refine wl_assign (by decide) rfl ?_
    refine wl_nil ?_
    refine wk_norm ?_
    refine wc_seq ?_
    refine wc_seq ?_
    refine wc_region ?_
    refine wl_move (by decide) rfl ?_
    refine wl_len (by decide) Try.underlying22 rfl ?_
    refine wl_move (by decide) rfl ?_
    refine wl_nil ?_
    refine wk_norm ?_
    refine wc_block ?_
    refine wc_loop (fun L' w' mes => ∃ (j : Nat), L' = [(0, .slice A0 H.length c0), (2, .slice A k c), (3, .int .i64 ((setN (fun j => decide (0 < (hop H j).e)) k : Nat) : Int)), (4, .int .i64 (k : Int)), (5, .pointer (some ⟨gs5, 0, none⟩)), (6, .int .i64 ((setN (ahd H k) j : Nat) : Int)), (9, .slice A0 H.length c0), (10, .int .i64 (H.length : Int)), (11, .int .i64 (k : Int)), (16, .slice A0 H.length c0), (17, .int .i64 (H.length : Int)), (18, .int .i64 (j : Int))] ∧ (j ≤ H.length) ∧ (HS (fun b => S b ∧ b < w.heap.size) w' A0 c0 H) ∧ (HP w (fun _ => False) (fun b => S b ∧ b < w.heap.size) w' [itB gs5 45 [.bool (hop H k).wr, .slice BK (hop H k).val.length dK, .int .i64 (hop H k).b, .int .i64 (hop H k).e], itR 3 1 A k c ((List.range k).map fun i => .int .i64 ((setN (ahd H i) H.length : Nat) : Int))]) ∧ H.length - j = mes) [(0, .slice A0 H.length c0), (2, .slice A k c), (3, .int .i64 ((setN (fun j => decide (0 < (hop H j).e)) k : Nat) : Int)), (4, .int .i64 (k : Int)), (5, .pointer (some ⟨gs5, 0, none⟩)), (6, .int .i64 ((setN (ahd H k) 0 : Nat) : Int)), (9, .slice A0 H.length c0), (10, .int .i64 (H.length : Int)), (11, .int .i64 (k : Int)), (16, .slice A0 H.length c0), (17, .int .i64 (H.length : Int)), (18, .int .i64 (0 : Int))] (H.length - 0) (by
        refine ⟨0, rfl, ?_, ?_, ?_, rfl⟩
        · omega
        · exact h
        · exact hp) ⟨rfl, rfl, rfl, rfl, rfl, rfl, rfl, rfl, rfl, rfl, rfl, rfl, trivial⟩ ?_
    rintro _ wq _ ⟨j, rfl, hj, h, hp, rfl⟩ KL2 hKL2
    refine wc_seq ?_
    refine wc_region ?_
    refine wl_lss (by decide) rfl rfl ?_
    refine wl_nil ?_
    refine wk_norm ?_
    refine wc_seq ?_
    refine wc_cond rfl (fun hlt2 => ?_) (fun hlt2 => ?_)
    ·
      try replace hlt2 := of_decide_eq_true hlt2
      refine wc_skip ?_
      refine wk_norm ?_
      refine wc_seq ?_
      refine wc_block ?_
      refine wc_seq ?_
      refine wc_region ?_
      refine wl_move (by decide) rfl ?_
      obtain ⟨aJ, BJ, dJ, hAJ, hatJ, hvJ⟩ := HS.el h j (by omega)
      refine wl_idx0 (by decide) Try.sl22 rfl rfl hAJ j rfl (by omega) ?_
      refine wl_loadA (by decide) Try.ag45 rfl hatJ.at_ rfl ?_
      refine wl_halloc (z := .agg #[.bool false, .slice none 0 0, .int .i64 0, .int .i64 0]) (by decide) (by kernel_rfl) hp ?_
      rintro gs8 w3 hp3 hE3
      replace h := h.ext hE3
      replace hatJ := hatJ.ext hE3
      replace hvJ := hvJ.ext hE3
      replace hp := hp3
      refine wl_assign (by decide) rfl ?_
      refine wl_hstore (i := 0) rfl rfl hp rfl Try.sz45 (Nat.le_of_ble_eq_true rfl) (List.all_eq_true.1 rfl) ?_
      rintro w4 hp4 hC4
      replace h := h.fz hC4
      replace hatJ := hatJ.fz hC4
      replace hvJ := hvJ.fz hC4
      replace hp := hp4
      refine wl_nil ?_
      refine wk_norm ?_
      refine wc_seq ?_
      refine wc_region ?_
      refine wl_fld' (o' := 3) (by decide) Try.fld45_3 rfl rfl ?_
      refine wl_hload (i := 0) (by decide) Try.sc3 rfl hp rfl rfl ?_
      refine wl_gtr (by decide) rfl rfl ?_
      refine wl_move (by decide) rfl ?_
      refine wl_gsplit (dj := 26) rfl (fun h5 => ?_) (fun h5 => ?_)
      ·
        try replace h5 := of_decide_eq_true h5
        refine wl_gyes rfl rfl ?_
        refine wl_fld' (o' := 3) (by decide) Try.fld45_3 rfl rfl ?_
        refine wl_gyes rfl rfl ?_
        refine wl_hload (i := 0) (by decide) Try.sc3 rfl hp rfl rfl ?_
        refine wl_gyes rfl rfl ?_
        refine wl_fld' (o' := 2) (by decide) Try.fld45_2 rfl rfl ?_
        refine wl_gyes rfl rfl ?_
        refine wl_hload (i := 1) (by decide) Try.sc3 rfl hp rfl rfl ?_
        refine wl_gyes rfl rfl ?_
        refine wl_lss (by decide) rfl rfl ?_
        refine wl_pick (by decide) rfl rfl ?_
        refine wl_nil ?_
        refine wk_norm ?_
        refine wc_cond rfl (fun h6 => ?_) (fun h6 => ?_)
        ·
          try replace h6 := of_decide_eq_true h6
          refine wc_region ?_
          refine wl_move (by decide) rfl ?_
          refine wl_move (by decide) rfl ?_
          refine wl_shl (by decide) rfl rfl (by omega) (shlN (k := j) (by omega)) ?_
          refine wl_or (by decide) rfl rfl (orN (setN_63 _ (by omega)) (shl_63 (by omega))) ?_
          refine wl_assign (by decide) rfl ?_
          refine wl_nil ?_
          refine wk_blk_norm ?_
          refine wk_norm ?_
          refine wc_region ?_
          refine wl_add (by decide) rfl rfl (w64 (by omega) (by omega)) ?_
          refine wl_move (by decide) rfl ?_
          refine wl_nil ?_
          refine wk_norm ?_
          refine wk_drop [(0, .slice A0 H.length c0), (2, .slice A k c), (3, .int .i64 ((setN (fun j => decide (0 < (hop H j).e)) k : Nat) : Int)), (4, .int .i64 (k : Int)), (5, .pointer (some ⟨gs5, 0, none⟩)), (6, .int .i64 ((setN (ahd H k) (j + 1) : Nat) : Int)), (9, .slice A0 H.length c0), (10, .int .i64 (H.length : Int)), (11, .int .i64 (k : Int)), (16, .slice A0 H.length c0), (17, .int .i64 (H.length : Int)), (18, .int .i64 ((j + 1) : Int))] ⟨rfl, rfl, rfl, rfl, rfl, (by first | (rw [setN_yes (decide_eq_true ⟨h5, h6⟩)]; rfl) | (rw [setN_no (decide_eq_false (by omega))]; rfl)), rfl, rfl, rfl, rfl, rfl, rfl, trivial⟩ (hKL2 _ _ (m2 := H.length - (j + 1)) ?_ ?_)
          ·
            refine ⟨(j + 1), rfl, ?_, ?_, ?_, rfl⟩
            · omega
            · exact h
            · exact hp.tail
          · omega
        ·
          try replace h6 := of_decide_eq_false h6
          refine wc_skip ?_
          refine wk_blk_norm ?_
          refine wk_norm ?_
          refine wc_region ?_
          refine wl_add (by decide) rfl rfl (w64 (by omega) (by omega)) ?_
          refine wl_move (by decide) rfl ?_
          refine wl_nil ?_
          refine wk_norm ?_
          refine wk_drop [(0, .slice A0 H.length c0), (2, .slice A k c), (3, .int .i64 ((setN (fun j => decide (0 < (hop H j).e)) k : Nat) : Int)), (4, .int .i64 (k : Int)), (5, .pointer (some ⟨gs5, 0, none⟩)), (6, .int .i64 ((setN (ahd H k) (j + 1) : Nat) : Int)), (9, .slice A0 H.length c0), (10, .int .i64 (H.length : Int)), (11, .int .i64 (k : Int)), (16, .slice A0 H.length c0), (17, .int .i64 (H.length : Int)), (18, .int .i64 ((j + 1) : Int))] ⟨rfl, rfl, rfl, rfl, rfl, (by first | (rw [setN_yes (decide_eq_true ⟨h5, h6⟩)]; rfl) | (rw [setN_no (decide_eq_false (by omega))]; rfl)), rfl, rfl, rfl, rfl, rfl, rfl, trivial⟩ (hKL2 _ _ (m2 := H.length - (j + 1)) ?_ ?_)
          ·
            refine ⟨(j + 1), rfl, ?_, ?_, ?_, rfl⟩
            · omega
            · exact h
            · exact hp.tail
          · omega
      ·
        try replace h5 := of_decide_eq_false h5
        refine wl_gno (by decide) rfl rfl (.inl rfl) ?_
        refine wl_gno (by decide) rfl rfl (.inl rfl) ?_
        refine wl_gno (by decide) rfl rfl (.inl rfl) ?_
        refine wl_gno (by decide) rfl rfl (.inl rfl) ?_
        refine wl_gno (by decide) rfl rfl (.inl rfl) ?_
        refine wl_pick (by decide) rfl rfl ?_
        refine wl_nil ?_
        refine wk_norm ?_
        refine wc_cond_f rfl ?_
        refine wc_skip ?_
        refine wk_blk_norm ?_
        refine wk_norm ?_
        refine wc_region ?_
        refine wl_add (by decide) rfl rfl (w64 (by omega) (by omega)) ?_
        refine wl_move (by decide) rfl ?_
        refine wl_nil ?_
        refine wk_norm ?_
        refine wk_drop [(0, .slice A0 H.length c0), (2, .slice A k c), (3, .int .i64 ((setN (fun j => decide (0 < (hop H j).e)) k : Nat) : Int)), (4, .int .i64 (k : Int)), (5, .pointer (some ⟨gs5, 0, none⟩)), (6, .int .i64 ((setN (ahd H k) (j + 1) : Nat) : Int)), (9, .slice A0 H.length c0), (10, .int .i64 (H.length : Int)), (11, .int .i64 (k : Int)), (16, .slice A0 H.length c0), (17, .int .i64 (H.length : Int)), (18, .int .i64 ((j + 1) : Int))] ⟨rfl, rfl, rfl, rfl, rfl, (by first | (rw [setN_yes (decide_eq_true ⟨h5, h6⟩)]; rfl) | (rw [setN_no (decide_eq_false (by omega))]; rfl)), rfl, rfl, rfl, rfl, rfl, rfl, trivial⟩ (hKL2 _ _ (m2 := H.length - (j + 1)) ?_ ?_)
        ·
          refine ⟨(j + 1), rfl, ?_, ?_, ?_, rfl⟩
          · omega
          · exact h
          · exact hp.tail
        · omega
    ·
      try replace hlt2 := of_decide_eq_false hlt2
      have hjl : j = H.length := by omega
      subst hjl
      refine wc_exit ?_
      refine wk_then_exit ?_
      refine wk_then_exit ?_
      refine wk_blk_exit ?_
      refine wk_norm ?_
      refine wc_seq ?_
      refine wc_region ?_
      refine wl_move (by decide) rfl ?_
      refine wl_move (by decide) rfl ?_
      refine wl_bsliceE (enc := fun z : Int => .int .i64 z) (xs := [.tmp 39]) (bs := [((setN (ahd H k) H.length : Nat) : Int)]) (fun _ => rfl) (by decide) Try.sl33 rfl rfl rfl (by simp) _ (Nat.le_refl _) ?_
      rintro gt wt hgt hot hEt
      replace h := h.ext hEt
      replace hp := hp.ext hEt
      refine wl_happend (i := 1) (m := 1) (news := [.int .i64 ((setN (ahd H k) H.length : Nat) : Int)]) (by decide) Try.sl33 rfl rfl hp rfl rfl (fun b hb => by cases hb; exact hot.at0) (by simp) (by simp [Value.oneCell']) (by omega) ?_
      rintro A3 c3 w3 hp3 hC3
      replace h := h.fz hC3
      replace hp := hp3
      refine wl_assign (by decide) rfl ?_
      refine wl_nil ?_
      refine wk_norm ?_
      refine wc_seq ?_
      refine wc_region ?_
      refine wl_fld' (o' := 3) (by decide) Try.fld45_3 rfl rfl ?_
      refine wl_hload (i := 0) (by decide) Try.sc3 rfl hp rfl rfl ?_
      refine wl_gtr (by decide) rfl rfl ?_
      refine wl_nil ?_
      refine wk_norm ?_
      refine wc_cond rfl (fun h13 => ?_) (fun h13 => ?_)
      ·
        try replace h13 := of_decide_eq_true h13
        refine wc_region ?_
        refine wl_move (by decide) rfl ?_
        refine wl_move (by decide) rfl ?_
        refine wl_shl (by decide) rfl rfl (by omega) (shlN (k := k) (by omega)) ?_
        refine wl_or (by decide) rfl rfl (orN (setN_63 _ (by omega)) (shl_63 (by omega))) ?_
        refine wl_assign (by decide) rfl ?_
        refine wl_nil ?_
        refine wk_blk_norm ?_
        refine wk_norm ?_
        refine wc_region ?_
        refine wl_add (by decide) rfl rfl (w64 (by omega) (by omega)) ?_
        refine wl_move (by decide) rfl ?_
        refine wl_nil ?_
        refine wk_norm ?_
        refine wk_drop [(0, .slice A0 H.length c0), (2, .slice A3 (k + 1) c3), (3, .int .i64 ((setN (fun j => decide (0 < (hop H j).e)) (k + 1) : Nat) : Int)), (9, .slice A0 H.length c0), (10, .int .i64 (H.length : Int)), (11, .int .i64 ((k + 1) : Int))] ⟨rfl, rfl, (by first | (rw [setN_yes (decide_eq_true h13)]; rfl) | (rw [setN_no (decide_eq_false h13)]; rfl)), rfl, rfl, rfl, trivial⟩ (hKL1 _ _ (m2 := H.length - (k + 1)) ?_ ?_)
        ·
          refine ⟨(k + 1), A3, c3, rfl, ?_, ?_, ?_, rfl⟩
          · omega
          · exact h
          · rw [List.range_succ, List.map_append]; exact hp.tail
        · omega
      ·
        try replace h13 := of_decide_eq_false h13
        refine wc_skip ?_
        refine wk_blk_norm ?_
        refine wk_norm ?_
        refine wc_region ?_
        refine wl_add (by decide) rfl rfl (w64 (by omega) (by omega)) ?_
        refine wl_move (by decide) rfl ?_
        refine wl_nil ?_
        refine wk_norm ?_
        refine wk_drop [(0, .slice A0 H.length c0), (2, .slice A3 (k + 1) c3), (3, .int .i64 ((setN (fun j => decide (0 < (hop H j).e)) (k + 1) : Nat) : Int)), (9, .slice A0 H.length c0), (10, .int .i64 (H.length : Int)), (11, .int .i64 ((k + 1) : Int))] ⟨rfl, rfl, (by first | (rw [setN_yes (decide_eq_true h13)]; rfl) | (rw [setN_no (decide_eq_false h13)]; rfl)), rfl, rfl, rfl, trivial⟩ (hKL1 _ _ (m2 := H.length - (k + 1)) ?_ ?_)
        ·
          refine ⟨(k + 1), A3, c3, rfl, ?_, ?_, ?_, rfl⟩
          · omega
          · exact h
          · rw [List.range_succ, List.map_append]; exact hp.tail
        · omega
  ·
    try replace hlt := of_decide_eq_false hlt
    have hkl : k = H.length := by omega
    refine wc_exit ?_
    refine wk_then_exit ?_
    refine wk_then_exit ?_
    refine wk_blk_exit ?_
    refine wk_norm ?_
    refine wc_seq ?_
    refine wc_region ?_
    refine wl_move (by decide) rfl ?_
    refine wl_move (by decide) rfl ?_
    refine wl_assign (by decide) rfl ?_
    refine wl_assign (by decide) rfl ?_
    refine wl_nil ?_
    refine wk_norm ?_
    refine wc_ret ?_
    refine wk_post2 (.inl rfl) Try.results31 rfl rfl ?_
    subst hkl
    have e1 : (befL H).length = H.length := by simp [befL]
    have e2 : (befL H).map (fun z : Int => Value.int .i64 z) = (List.range H.length).map fun i => Value.int .i64 ((setN (ahd H i) H.length : Nat) : Int) := by rw [befL, List.map_map]; rfl
    refine ⟨_, rfl, A, c, by rw [e1]; rfl, ?_, hp.chg⟩
    unfold OwnE
    rw [e1, e2]
    exact hp.rowLo (i := 0) rfl

theorem mkw_ok {b : UInt8} {x y : Int} {w : World} : Ret Try.prog 27 #[bv b, .int .i64 x, .int .i64 y] w (fun v w' => ∃ cs, v = .agg cs.toArray ∧ opR.rd (fun b => w.heap.size ≤ b) w' cs ⟨true, [b], x, y⟩ ∧ Ext w w') := by
  refine ret_of_wk Try.func27 rfl Try.ntmps27 (Nat.le_of_ble_eq_true rfl) ?_
  have hp := HP.beginS w (fun _ => False)
  have hFU : ∀ b, ((fun _ => False) b ∧ b < w.heap.size) → (fun _ => False) b ∨ w.heap.size ≤ b := fun _ h => .inl h.1
  refine wc_seq ?_
  refine wc_region ?_
  refine wl_halloc (z := .agg #[.bool false, .slice none 0 0, .int .i64 0, .int .i64 0]) (by decide) (by kernel_rfl) hp ?_
  rintro gs6 w1 hp1 hE1
  replace hp := hp1
  refine wl_nil ?_
  refine wk_norm ?_
  refine wc_seq ?_
  refine wc_region ?_
  refine wl_move (by decide) rfl ?_
  refine wl_bsliceB (xs := [.tmp 7]) (bs := [b]) (by decide) Try.sl23 rfl rfl rfl (by simp) _ (Nat.le_refl _) ?_
  rintro gt wt hgt hot hEt
  replace hot := hot.bs
  have hsz2 := hp.chg.size
  obtain ⟨Fz2, hp2, hsub2, hnew2, hup2⟩ := hp.frz hEt
  replace hp := hp2
  replace hFU : ∀ b, Fz2 b → _ := fun b hb => (hup2 b hb).elim (hFU b) (fun h => .inr (Nat.le_trans hsz2 h))
  replace hot := hot.frz hnew2
  refine wl_move (by decide) rfl ?_
  refine wl_move (by decide) rfl ?_
  refine wl_built (ps := [(0, .const (.bool true)), (1, .tmp 8), (2, .tmp 9), (3, .tmp 10)]) (by decide) Try.bld45 rfl rfl ?_
  refine wl_hstore (i := 0) rfl rfl hp rfl Try.sz45 (Nat.le_of_ble_eq_true rfl) (List.all_eq_true.1 rfl) ?_
  rintro w3 hp3 hC3
  replace hot := hot.fz hC3
  replace hp := hp3
  refine wl_nil ?_
  refine wk_norm ?_
  refine wc_ret ?_
  refine wk_postR (rs := [.cell 6 45]) (.inl rfl) Try.results27 ⟨_, _, _, rfl, rfl, loadVar_agg Try.ag45 (hp.blkAt (i := 0) rfl).at0 rfl, rfl⟩ ?_
  refine ⟨_, rfl, _, rfl, ⟨_, _, rfl, hot.wid (fun b hb => (hFU b hb).elim (fun x => x.elim) id)⟩, hp.chg⟩

theorem mkr_ok {b : UInt8} {x y : Int} {w : World} : Ret Try.prog 26 #[bv b, .int .i64 x, .int .i64 y] w (fun v w' => ∃ cs, v = .agg cs.toArray ∧ opR.rd (fun b => w.heap.size ≤ b) w' cs ⟨false, [b], x, y⟩ ∧ Ext w w') := by
  refine ret_of_wk Try.func26 rfl Try.ntmps26 (Nat.le_of_ble_eq_true rfl) ?_
  have hp := HP.beginS w (fun _ => False)
  have hFU : ∀ b, ((fun _ => False) b ∧ b < w.heap.size) → (fun _ => False) b ∨ w.heap.size ≤ b := fun _ h => .inl h.1
  refine wc_seq ?_
  refine wc_region ?_
  refine wl_halloc (z := .agg #[.bool false, .slice none 0 0, .int .i64 0, .int .i64 0]) (by decide) (by kernel_rfl) hp ?_
  rintro gs6 w1 hp1 hE1
  replace hp := hp1
  refine wl_nil ?_
  refine wk_norm ?_
  refine wc_seq ?_
  refine wc_region ?_
  refine wl_move (by decide) rfl ?_
  refine wl_bsliceB (xs := [.tmp 7]) (bs := [b]) (by decide) Try.sl23 rfl rfl rfl (by simp) _ (Nat.le_refl _) ?_
  rintro gt wt hgt hot hEt
  replace hot := hot.bs
  have hsz2 := hp.chg.size
  obtain ⟨Fz2, hp2, hsub2, hnew2, hup2⟩ := hp.frz hEt
  replace hp := hp2
  replace hFU : ∀ b, Fz2 b → _ := fun b hb => (hup2 b hb).elim (hFU b) (fun h => .inr (Nat.le_trans hsz2 h))
  replace hot := hot.frz hnew2
  refine wl_move (by decide) rfl ?_
  refine wl_move (by decide) rfl ?_
  refine wl_built (ps := [(1, .tmp 8), (2, .tmp 9), (3, .tmp 10)]) (by decide) Try.bld45 rfl rfl ?_
  refine wl_hstore (i := 0) rfl rfl hp rfl Try.sz45 (Nat.le_of_ble_eq_true rfl) (List.all_eq_true.1 rfl) ?_
  rintro w3 hp3 hC3
  replace hot := hot.fz hC3
  replace hp := hp3
  refine wl_nil ?_
  refine wk_norm ?_
  refine wc_ret ?_
  refine wk_postR (rs := [.cell 6 45]) (.inl rfl) Try.results26 ⟨_, _, _, rfl, rfl, loadVar_agg Try.ag45 (hp.blkAt (i := 0) rfl).at0 rfl, rfl⟩ ?_
  refine ⟨_, rfl, _, rfl, ⟨_, _, rfl, hot.wid (fun b hb => (hFU b hb).elim (fun x => x.elim) id)⟩, hp.chg⟩

theorem copied_ok {A0 : Option Addr} {c0 : Nat} {H : List HOp} {S : Nat → Prop} {w : World} (h : HS S w A0 c0 H) (hbd : H.length * 48 ≤ 140737488355328) : Ret Try.prog 10 #[.slice A0 H.length c0] w (fun v w' => ∃ A c, v = .slice A H.length c ∧ OutR opR (fun b => S b ∨ w.heap.size ≤ b) 45 w.heap.size w' A c H ∧ Ext w w') := by
  refine ret_of_wk Try.func10 rfl Try.ntmps10 (Nat.le_of_ble_eq_true rfl) ?_
  have hp := HP.beginS w S
  have hFU : ∀ b, (S b ∧ b < w.heap.size) → S b ∨ w.heap.size ≤ b := fun _ h => .inl h.1
  replace h := h.nowS
  refine wc_seq ?_
  refine wc_region ?_
  refine wl_assign (by decide) rfl ?_
  refine wl_nil ?_
  refine wk_norm ?_
  refine wc_seq ?_
  refine wc_region ?_
  refine wl_assign (by decide) rfl ?_
  replace hp := hp.noRow 45 4
  refine wl_nil ?_
  refine wk_norm ?_
  refine wc_seq ?_
  refine wc_seq ?_
  refine wc_region ?_
  refine wl_assign (by decide) rfl ?_
  refine wl_nil ?_
  refine wk_norm ?_
  refine wc_block ?_
  refine wc_loop (fun L' w' mes => ∃ (k : Nat), ∃ (Fz : Nat → Prop), ∃ (A : Option Addr), ∃ (c : Nat), ∃ (rows : List (List Value)), L' = [(0, .slice A0 H.length c0), (3, .slice A k c), (4, .int .i64 (k : Int))] ∧ (k ≤ H.length) ∧ (HS Fz w' A0 c0 H) ∧ (∀ b, Fz b → S b ∨ w.heap.size ≤ b) ∧ (HP w (fun _ => False) Fz w' [itR 45 4 A k c rows.flatten]) ∧ (RF opR Fz w' rows (H.take k)) ∧ H.length - k = mes) [(0, .slice A0 H.length c0), (3, .slice none 0 0), (4, .int .i64 (0 : Int))] (H.length - 0) (by
      refine ⟨0, (fun b => S b ∧ b < w.heap.size), none, 0, [], rfl, ?_, ?_, ?_, ?_, ?_, rfl⟩
      · omega
      · exact h
      · exact hFU
      · exact hp
      · exact RF.nil _ _ _) ⟨rfl, rfl, rfl, trivial⟩ ?_
  rintro _ wr _ ⟨k, Fz, A, c, rows, rfl, hk, h, hFU, hp, hR, rfl⟩ KL1 hKL1
  have hmx := h.mx
  refine wc_seq ?_
  refine wc_seq ?_
  refine wc_region ?_
  refine wl_move (by decide) rfl ?_
  refine wl_move (by decide) rfl ?_
  refine wl_len (by decide) Try.underlying22 rfl ?_
  refine wl_lss (by decide) rfl rfl ?_
  refine wl_nil ?_
  refine wk_norm ?_
  refine wc_cond rfl (fun hlt => ?_) (fun hlt => ?_)
  ·
    try replace hlt := of_decide_eq_true hlt
    refine wc_skip ?_
    refine wk_norm ?_
    refine wc_seq ?_
    refine wc_block ?_
    refine wc_seq ?_
    refine wc_region ?_
    refine wl_move (by decide) rfl ?_
    obtain ⟨aK, BK, dK, hAK, hatK, hvK⟩ := HS.el h k (by omega)
    refine wl_move (by decide) rfl ?_
    refine wl_idx0 (by decide) Try.sl22 rfl rfl hAK k rfl (by omega) ?_
    refine wl_loadA (by decide) Try.ag45 rfl hatK.at_ rfl ?_
    refine wl_halloc (z := .agg #[.bool false, .slice none 0 0, .int .i64 0, .int .i64 0]) (by decide) (by kernel_rfl) hp ?_
    rintro gs5 w1 hp1 hE1
    replace h := h.ext hE1
    replace hR := hR.ext hE1
    replace hatK := hatK.ext hE1
    replace hvK := hvK.ext hE1
    replace hp := hp1
    refine wl_hstore (i := 0) rfl rfl hp rfl Try.sz45 (Nat.le_of_ble_eq_true rfl) (List.all_eq_true.1 rfl) ?_
    rintro w2 hp2 hC2
    replace h := h.fz hC2
    replace hR := hR.fz hC2
    replace hatK := hatK.fz hC2
    replace hvK := hvK.fz hC2
    replace hp := hp2
    refine wl_nil ?_
    refine wk_norm ?_
    refine wc_seq ?_
    refine wc_region ?_
    refine wl_fld' (o' := 1) (by decide) Try.fld45_1 rfl rfl ?_
    refine wl_hload (i := 0) (by decide) Try.sc23 rfl hp rfl rfl ?_
    have hcl := copyBytes_ok hvK
    refine wl_call (by decide) Try.cl11 rfl hcl ?_
    clear hcl
    rintro _ wc1 ⟨A1, c1, rfl, hnew, hEc1⟩
    replace hnew := hnew.bs
    have hsz3 := hp.chg.size
    obtain ⟨Fz3, hp3, hsub3, hnew3, hup3⟩ := hp.frz hEc1
    replace hp := hp3
    replace hFU : ∀ b, Fz3 b → _ := fun b hb => (hup3 b hb).elim (hFU b) (fun h => .inr (Nat.le_trans hsz3 h))
    replace h := (h.ext hEc1).wid hsub3
    replace hR := (hR.ext hEc1).wid hsub3
    replace hatK := (hatK.ext hEc1).wid hsub3
    replace hvK := (hvK.ext hEc1).wid hsub3
    replace hnew := hnew.frz hnew3
    refine wl_fld' (o' := 1) (by decide) Try.fld45_1 rfl rfl ?_
    refine wl_hstore (i := 0) rfl rfl hp rfl Try.sz23 (Nat.le_of_ble_eq_true rfl) (List.all_eq_true.1 rfl) ?_
    rintro w4 hp4 hC4
    replace h := h.fz hC4
    replace hR := hR.fz hC4
    replace hatK := hatK.fz hC4
    replace hvK := hvK.fz hC4
    replace hnew := hnew.fz hC4
    replace hp := hp4
    refine wl_nil ?_
    refine wk_norm ?_
    refine wc_region ?_
    refine wl_move (by decide) rfl ?_
    refine wl_hloadA (i := 0) (by decide) Try.ag45 rfl hp rfl rfl ?_
    refine wl_bslice (size := 4) (xs := [.tmp 21]) (by decide) Try.sl22 rfl rfl rfl (by intro v hv; rw [List.mem_singleton.1 hv]; rfl) (Nat.le_of_ble_eq_true rfl) _ (Nat.le_refl _) ?_
    rintro gt wt hgt hot hEt
    replace h := h.ext hEt
    replace hR := hR.ext hEt
    replace hatK := hatK.ext hEt
    replace hvK := hvK.ext hEt
    replace hnew := hnew.ext hEt
    replace hp := hp.ext hEt
    refine wl_happend (i := 1) (m := 1) (news := [.bool (hop H k).wr, .slice A1 (hop H k).val.length c1, .int .i64 (hop H k).b, .int .i64 (hop H k).e]) (by decide) Try.sl22 rfl rfl hp rfl rfl (fun b hb => by cases hb; exact hot.at0) (by simp) (List.all_eq_true.1 rfl) (by omega) ?_
    rintro A3 c3 w3 hp3 hC3
    replace h := h.fz hC3
    replace hR := hR.fz hC3
    replace hatK := hatK.fz hC3
    replace hvK := hvK.fz hC3
    replace hnew := hnew.fz hC3
    replace hp := hp3
    refine wl_assign (by decide) rfl ?_
    refine wl_nil ?_
    refine wk_blk_norm ?_
    refine wk_norm ?_
    refine wc_region ?_
    refine wl_move (by decide) rfl ?_
    refine wl_add (by decide) rfl rfl (w64 (by omega) (by omega)) ?_
    refine wl_assign (by decide) rfl ?_
    refine wl_nil ?_
    refine wk_norm ?_
    refine wk_drop [(0, .slice A0 H.length c0), (3, .slice A3 (k + 1) c3), (4, .int .i64 ((k + 1) : Int))] ⟨rfl, rfl, rfl, trivial⟩ (hKL1 _ _ (m2 := H.length - (k + 1)) ?_ ?_)
    ·
      refine ⟨(k + 1), Fz3, A3, c3, (rows ++ [[.bool (hop H k).wr, .slice A1 (hop H k).val.length c1, .int .i64 (hop H k).b, .int .i64 (hop H k).e]]), rfl, ?_, ?_, ?_, ?_, ?_, rfl⟩
      · omega
      · exact h
      · exact hFU
      · rw [List.flatten_append]; exact hp.tail
      · rw [← List.take_append_getElem (by omega : k < H.length), ← hop_get H (by omega)]; exact hR.append (RF.one ⟨_, _, rfl, hnew⟩)
    · omega
  ·
    try replace hlt := of_decide_eq_false hlt
    have hkl : k = H.length := by omega
    refine wc_exit ?_
    refine wk_then_exit ?_
    refine wk_then_exit ?_
    refine wk_blk_exit ?_
    refine wk_norm ?_
    refine wc_seq ?_
    refine wc_region ?_
    refine wl_move (by decide) rfl ?_
    refine wl_assign (by decide) rfl ?_
    refine wl_nil ?_
    refine wk_norm ?_
    refine wc_ret ?_
    refine wk_post1 (.inl rfl) Try.results10 rfl ?_
    subst hkl
    rw [List.take_length] at hR
    exact ⟨_, rfl, A, c, rfl, hp.outR (i := 0) rfl hR hFU, hp.chg⟩

theorem meant_ok {A0 : Option Addr} {c0 : Nat} {H : List HOp} {S : Nat → Prop} {w : World} (h : HS S w A0 c0 H) (hbd : H.length * 48 ≤ 140737488355328) : Ret Try.prog 14 #[.slice A0 H.length c0] w (fun v w' => ∃ A c, v = .slice A H.length c ∧ OutR opR (fun b => S b ∨ w.heap.size ≤ b) 56 w.heap.size w' A c H ∧ Ext w w') := by
  refine ret_of_wk Try.func14 rfl Try.ntmps14 (Nat.le_of_ble_eq_true rfl) ?_
  have hp := HP.beginS w S
  have hFU : ∀ b, (S b ∧ b < w.heap.size) → S b ∨ w.heap.size ≤ b := fun _ h => .inl h.1
  replace h := h.nowS
  refine wc_seq ?_
  refine wc_region ?_
  refine wl_assign (by decide) rfl ?_
  refine wl_nil ?_
  refine wk_norm ?_
  refine wc_seq ?_
  refine wc_region ?_
  refine wl_assign (by decide) rfl ?_
  replace hp := hp.noRow 56 4
  refine wl_nil ?_
  refine wk_norm ?_
  refine wc_seq ?_
  refine wc_seq ?_
  refine wc_region ?_
  refine wl_assign (by decide) rfl ?_
  refine wl_nil ?_
  refine wk_norm ?_
  refine wc_block ?_
  refine wc_loop (fun L' w' mes => ∃ (k : Nat), ∃ (Fz : Nat → Prop), ∃ (A : Option Addr), ∃ (c : Nat), ∃ (rows : List (List Value)), L' = [(0, .slice A0 H.length c0), (3, .slice A k c), (4, .int .i64 (k : Int))] ∧ (k ≤ H.length) ∧ (HS Fz w' A0 c0 H) ∧ (∀ b, Fz b → S b ∨ w.heap.size ≤ b) ∧ (HP w (fun _ => False) Fz w' [itR 56 4 A k c rows.flatten]) ∧ (RF opR Fz w' rows (H.take k)) ∧ H.length - k = mes) [(0, .slice A0 H.length c0), (3, .slice none 0 0), (4, .int .i64 (0 : Int))] (H.length - 0) (by
      refine ⟨0, (fun b => S b ∧ b < w.heap.size), none, 0, [], rfl, ?_, ?_, ?_, ?_, ?_, rfl⟩
      · omega
      · exact h
      · exact hFU
      · exact hp
      · exact RF.nil _ _ _) ⟨rfl, rfl, rfl, trivial⟩ ?_
  rintro _ wr _ ⟨k, Fz, A, c, rows, rfl, hk, h, hFU, hp, hR, rfl⟩ KL1 hKL1
  have hmx := h.mx
  refine wc_seq ?_
  refine wc_seq ?_
  refine wc_region ?_
  refine wl_move (by decide) rfl ?_
  refine wl_move (by decide) rfl ?_
  refine wl_len (by decide) Try.underlying22 rfl ?_
  refine wl_lss (by decide) rfl rfl ?_
  refine wl_nil ?_
  refine wk_norm ?_
  refine wc_cond rfl (fun hlt => ?_) (fun hlt => ?_)
  ·
    try replace hlt := of_decide_eq_true hlt
    obtain ⟨aK, BK, dK, hAK, hatK, hvK⟩ := HS.el h k (by omega)
    have hnew := hvK
    refine wc_skip ?_
    refine wk_norm ?_
    refine wc_seq ?_
    refine wc_block ?_
    apply wc_drawTL 23 [SP.eq _, SP.eq _, SP.eq _, SP.eq _, SP.eq _, SP.eq _, SP.eq _, SP.eq _, SP.eq _, SP.eq _, SP.eq _, SP.eq _, SP.eq _, SP.eq _, SP.eq _, SP.eq _, SP.eq _, SP.eq _, SP.eq _, SP.eq _, SP.eq _, SP.eq _, SP.own 56 4 0 1 [.bool (hop H k).wr, .slice BK (hop H k).val.length dK, .int .i64 (hop H k).b, .int .i64 (hop H k).e]] (by kernel_rfl) (by kernel_rfl)
    · refine ⟨?_, ?_, ?_, ?_, ?_, ?_, ?_, ?_, ?_, ?_, ?_, ?_, ?_, ?_, ?_, ?_, ?_, ?_, ?_, ?_, ?_, ?_, ?_, trivial⟩
      ·
        intro F wF hER hk
        have e3 := hk.init 3 _ rfl (by kernel_rfl)
        refine wl_move (by decide) e3 ?_
        exact wl_nil (qr_some ⟨Chg.refl _ _, rfl⟩)
      ·
        intro F wF hER hk
        have e0 := hk.init 0 _ rfl (by kernel_rfl)
        refine wl_move (by decide) e0 ?_
        exact wl_nil (qr_some ⟨Chg.refl _ _, rfl⟩)
      ·
        intro F wF hER hk
        have e4 := hk.init 4 _ rfl (by kernel_rfl)
        refine wl_move (by decide) e4 ?_
        exact wl_nil (qr_some ⟨Chg.refl _ _, rfl⟩)
      ·
        intro F wF hER hk
        obtain ⟨u12, e12, h12⟩ := hk.pred 1 (by kernel_rfl) 12 rfl
        obtain rfl := h12
        obtain ⟨u13, e13, h13⟩ := hk.pred 2 (by kernel_rfl) 13 rfl
        obtain rfl := h13
        refine wl_idx0 (by decide) Try.sl22 e12 e13 hAK k rfl (by omega) ?_
        exact wl_nil (qr_some ⟨Chg.refl _ _, rfl⟩)
      ·
        intro F wF hER hk
        obtain ⟨u14, e14, h14⟩ := hk.pred 3 (by kernel_rfl) 14 rfl
        obtain rfl := h14
        refine wl_fld (by decide) Try.fld45_0 e14 ?_
        exact wl_nil (qr_some ⟨Chg.refl _ _, rfl⟩)
      ·
        intro F wF hER hk
        obtain ⟨u15, e15, h15⟩ := hk.pred 4 (by kernel_rfl) 15 rfl
        obtain rfl := h15
        refine wl_load (by decide) Try.sc4 e15 ((hatK.ext hER).get rfl) ?_
        exact wl_nil (qr_some ⟨Chg.refl _ _, rfl⟩)
      ·
        intro F wF hER hk
        have e0 := hk.init 0 _ rfl (by kernel_rfl)
        refine wl_move (by decide) e0 ?_
        exact wl_nil (qr_some ⟨Chg.refl _ _, rfl⟩)
      ·
        intro F wF hER hk
        have e4 := hk.init 4 _ rfl (by kernel_rfl)
        refine wl_move (by decide) e4 ?_
        exact wl_nil (qr_some ⟨Chg.refl _ _, rfl⟩)
      ·
        intro F wF hER hk
        obtain ⟨u17, e17, h17⟩ := hk.pred 6 (by kernel_rfl) 17 rfl
        obtain rfl := h17
        obtain ⟨u18, e18, h18⟩ := hk.pred 7 (by kernel_rfl) 18 rfl
        obtain rfl := h18
        refine wl_idx0 (by decide) Try.sl22 e17 e18 hAK k rfl (by omega) ?_
        exact wl_nil (qr_some ⟨Chg.refl _ _, rfl⟩)
      ·
        intro F wF hER hk
        obtain ⟨u19, e19, h19⟩ := hk.pred 8 (by kernel_rfl) 19 rfl
        obtain rfl := h19
        refine wl_fld (by decide) Try.fld45_1 e19 ?_
        exact wl_nil (qr_some ⟨Chg.refl _ _, rfl⟩)
      ·
        intro F wF hER hk
        obtain ⟨u20, e20, h20⟩ := hk.pred 9 (by kernel_rfl) 20 rfl
        obtain rfl := h20
        refine wl_load (by decide) Try.sc23 e20 ((hatK.ext hER).get rfl) ?_
        exact wl_nil (qr_some ⟨Chg.refl _ _, rfl⟩)
      ·
        intro F wF hER hk
        have e0 := hk.init 0 _ rfl (by kernel_rfl)
        refine wl_move (by decide) e0 ?_
        exact wl_nil (qr_some ⟨Chg.refl _ _, rfl⟩)
      ·
        intro F wF hER hk
        have e4 := hk.init 4 _ rfl (by kernel_rfl)
        refine wl_move (by decide) e4 ?_
        exact wl_nil (qr_some ⟨Chg.refl _ _, rfl⟩)
      ·
        intro F wF hER hk
        obtain ⟨u22, e22, h22⟩ := hk.pred 11 (by kernel_rfl) 22 rfl
        obtain rfl := h22
        obtain ⟨u23, e23, h23⟩ := hk.pred 12 (by kernel_rfl) 23 rfl
        obtain rfl := h23
        refine wl_idx0 (by decide) Try.sl22 e22 e23 hAK k rfl (by omega) ?_
        exact wl_nil (qr_some ⟨Chg.refl _ _, rfl⟩)
      ·
        intro F wF hER hk
        obtain ⟨u24, e24, h24⟩ := hk.pred 13 (by kernel_rfl) 24 rfl
        obtain rfl := h24
        refine wl_fld (by decide) Try.fld45_2 e24 ?_
        exact wl_nil (qr_some ⟨Chg.refl _ _, rfl⟩)
      ·
        intro F wF hER hk
        obtain ⟨u25, e25, h25⟩ := hk.pred 14 (by kernel_rfl) 25 rfl
        obtain rfl := h25
        refine wl_load (by decide) Try.sc3 e25 ((hatK.ext hER).get rfl) ?_
        exact wl_nil (qr_some ⟨Chg.refl _ _, rfl⟩)
      ·
        intro F wF hER hk
        have e0 := hk.init 0 _ rfl (by kernel_rfl)
        refine wl_move (by decide) e0 ?_
        exact wl_nil (qr_some ⟨Chg.refl _ _, rfl⟩)
      ·
        intro F wF hER hk
        have e4 := hk.init 4 _ rfl (by kernel_rfl)
        refine wl_move (by decide) e4 ?_
        exact wl_nil (qr_some ⟨Chg.refl _ _, rfl⟩)
      ·
        intro F wF hER hk
        obtain ⟨u27, e27, h27⟩ := hk.pred 16 (by kernel_rfl) 27 rfl
        obtain rfl := h27
        obtain ⟨u28, e28, h28⟩ := hk.pred 17 (by kernel_rfl) 28 rfl
        obtain rfl := h28
        refine wl_idx0 (by decide) Try.sl22 e27 e28 hAK k rfl (by omega) ?_
        exact wl_nil (qr_some ⟨Chg.refl _ _, rfl⟩)
      ·
        intro F wF hER hk
        obtain ⟨u29, e29, h29⟩ := hk.pred 18 (by kernel_rfl) 29 rfl
        obtain rfl := h29
        refine wl_fld (by decide) Try.fld45_3 e29 ?_
        exact wl_nil (qr_some ⟨Chg.refl _ _, rfl⟩)
      ·
        intro F wF hER hk
        obtain ⟨u30, e30, h30⟩ := hk.pred 19 (by kernel_rfl) 30 rfl
        obtain rfl := h30
        refine wl_load (by decide) Try.sc3 e30 ((hatK.ext hER).get rfl) ?_
        exact wl_nil (qr_some ⟨Chg.refl _ _, rfl⟩)
      ·
        intro F wF hER hk
        obtain ⟨u16, e16, h16⟩ := hk.pred 5 (by kernel_rfl) 16 rfl
        obtain rfl := h16
        obtain ⟨u21, e21, h21⟩ := hk.pred 10 (by kernel_rfl) 21 rfl
        obtain rfl := h21
        obtain ⟨u26, e26, h26⟩ := hk.pred 15 (by kernel_rfl) 26 rfl
        obtain rfl := h26
        obtain ⟨u31, e31, h31⟩ := hk.pred 20 (by kernel_rfl) 31 rfl
        obtain rfl := h31
        refine wl_built (ps := [(0, .tmp 16), (1, .tmp 21), (2, .tmp 26), (3, .tmp 31)]) (by decide) Try.bld56 (by simp only [evp, ev, e16, e21, e26, e31]; first | done | rfl) rfl ?_
        exact wl_nil (qr_some ⟨Chg.refl _ _, rfl⟩)
      ·
        intro F wF hER hk
        obtain ⟨u32, e32, h32⟩ := hk.pred 21 (by kernel_rfl) 32 rfl
        obtain rfl := h32
        refine wl_bslice (size := 4) (xs := [.tmp 32]) (vs := [.agg #[.bool (hop H k).wr, .slice BK (hop H k).val.length dK, .int .i64 (hop H k).b, .int .i64 (hop H k).e]]) (by decide) Try.sl29 rfl (by simp only [evs, ev, e32]; first | done | rfl) rfl (by intro v hv; rw [List.mem_singleton.1 hv]; rfl) (Nat.le_of_ble_eq_true rfl) 0 (Nat.zero_le _) ?_
        rintro gt wt hgt hot hEt
        exact wl_nil (qr_some ⟨hEt, _, _, rfl, hot⟩)
    ·
      intro F wD hED hini hdo
      have e0 := hini 0 _ rfl (by kernel_rfl)
      have e4 := hini 4 _ rfl (by kernel_rfl)
      obtain ⟨u11, e11, h11⟩ := hdo 0 11 (Nat.lt_of_lt_of_eq (by decide) rfl) rfl
      obtain rfl := h11
      obtain ⟨u33, e33, h33⟩ := hdo 22 33 (Nat.lt_of_lt_of_eq (by decide) rfl) rfl
      obtain ⟨A33, c33, rfl, hot⟩ := h33
      refine wl_drop [(0, _), (4, _), (11, _), (33, _)] ⟨e0, e4, e11, e33, trivial⟩ ?_
      clear e0 e4 e11 e33 hini hdo
      replace h := h.ext hED
      replace hR := hR.ext hED
      replace hp := hp.ext hED
      replace hatK := hatK.ext hED
      replace hnew := hnew.ext hED
      refine wl_happend (i := 0) (m := 1) (news := [.bool (hop H k).wr, .slice BK (hop H k).val.length dK, .int .i64 (hop H k).b, .int .i64 (hop H k).e]) (by decide) Try.sl29 rfl rfl hp rfl rfl (fun b hb => by exact hot.at_ hb) (fun hB => by subst hB; rcases hot.row with ⟨_, h0⟩ | ⟨g, cur, hA, _⟩ <;> simp_all) (List.all_eq_true.1 rfl) (by omega) ?_
      rintro A3 c3 w3 hp3 hC3
      replace h := h.fz hC3
      replace hR := hR.fz hC3
      replace hp := hp3
      replace hnew := hnew.fz hC3
      refine wl_assign (by decide) rfl ?_
      refine wl_nil ?_
      refine wk_blk_norm ?_
      refine wk_norm ?_
      refine wc_region ?_
      refine wl_move (by decide) rfl ?_
      refine wl_add (by decide) rfl rfl (w64 (by omega) (by omega)) ?_
      refine wl_assign (by decide) rfl ?_
      refine wl_nil ?_
      refine wk_norm ?_
      refine wk_drop [(0, .slice A0 H.length c0), (3, .slice A3 (k + 1) c3), (4, .int .i64 ((k + 1) : Int))] ⟨rfl, rfl, rfl, trivial⟩ (hKL1 _ _ (m2 := H.length - (k + 1)) ?_ ?_)
      ·
        refine ⟨(k + 1), Fz, A3, c3, (rows ++ [[.bool (hop H k).wr, .slice BK (hop H k).val.length dK, .int .i64 (hop H k).b, .int .i64 (hop H k).e]]), rfl, ?_, ?_, ?_, ?_, ?_, rfl⟩
        · omega
        · exact h
        · exact hFU
        · rw [List.flatten_append]; exact hp
        · rw [← List.take_append_getElem (by omega : k < H.length), ← hop_get H (by omega)]; exact hR.append (RF.one ⟨_, _, rfl, hnew⟩)
      · omega
  ·
    try replace hlt := of_decide_eq_false hlt
    have hkl : k = H.length := by omega
    refine wc_exit ?_
    refine wk_then_exit ?_
    refine wk_then_exit ?_
    refine wk_blk_exit ?_
    refine wk_norm ?_
    refine wc_seq ?_
    refine wc_region ?_
    refine wl_move (by decide) rfl ?_
    refine wl_assign (by decide) rfl ?_
    refine wl_nil ?_
    refine wk_norm ?_
    refine wc_ret ?_
    refine wk_post1 (.inl rfl) Try.results14 rfl ?_
    subst hkl
    rw [List.take_length] at hR
    exact ⟨_, rfl, A, c, rfl, hp.outR (i := 0) rfl hR hFU, hp.chg⟩

end Go.Proofs.Ytnlpibfdobinoaa
