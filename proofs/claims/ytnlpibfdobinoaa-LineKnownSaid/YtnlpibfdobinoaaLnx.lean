/- Lnx (printed by program: wip/gen) -/
import Derived.Test.YtnlpibfdobinoaaLnw
namespace Go.Proofs.Ytnlpibfdobinoaa
open Go.RowKit Go.Eng

theorem row_chk {H : List HOp} (hl : H.length ≤ 14) (hrow : ∀ i, i < H.length → (hop H i).b = 3 * i + 1 ∧ (hop H i).e = 3 * i + 2) : chkH H = 0 := by
  refine (chkH_zero H).2 ⟨hl, fun y hy => ?_⟩
  obtain ⟨i, hi, rfl⟩ := List.mem_iff_getElem.1 hy
  have := hrow i hi
  rw [hop_get H hi] at this
  simp only [badOp, decide_eq_false_iff_not]
  omega
theorem row_ord {H : List HOp} (hl : H.length ≤ 14) (hrow : ∀ i, i < H.length → (hop H i).b = 3 * i + 1 ∧ (hop H i).e = 3 * i + 2) : ordS H [0] = if seqOK [0] H then (List.range H.length, true, 0) else ([], false, 0) := by
  have hc := row_chk hl hrow
  have hg := row_lin H [0] hrow
  by_cases h : seqOK [0] H = true
  · rw [if_pos h] at hg ⊢; exact ordS_some hc hg
  · rw [if_neg h] at hg ⊢; exact ordS_none hc hg
theorem seq_next {H : List HOp} {wr : Bool} {v2 b8 vb : UInt8} {b e : Int} (hsv : seqV [0] H = [vb]) (hwv : (wr = true ∧ v2 = b8) ∨ (wr = false ∧ v2 = vb)) (hw : seqOK [0] H = true) :
    decide ((b8.toNat : Int) = (v2.toNat : Int)) = seqOK [0] (H ++ [⟨wr, [b8], b, e⟩]) := by
  rw [seqOK_app, hw, hsv]
  rcases hwv with ⟨rfl, rfl⟩ | ⟨rfl, rfl⟩
  · simp
  · rw [Bool.true_and, Bool.false_or, decide_eq_decide]
    constructor
    · intro h; rw [UInt8.toNat_inj.1 (by omega : b8.toNat = v2.toNat)]
    · intro h; simp at h; rw [h]
theorem seq_stop {H : List HOp} {x : HOp} (hw : seqOK [0] H = false) : false = seqOK [0] (H ++ [x]) := by rw [seqOK_app, hw]; rfl

theorem lineRow_ok {A0 : Option Addr} {c0 : Nat} {l : List Int} {S : Nat → Prop} {w : World} (h : IS S w A0 c0 l) (hlm : ∀ x ∈ l, -9223372036854775808 ≤ x ∧ x ≤ 9223372036854775807) : Ret Try.prog 8 #[.slice A0 l.length c0] w (fun v w' => v = .bool true ∧ Ext w w') := by
  refine ret_of_wk Try.func8 rfl Try.ntmps8 (Nat.le_of_ble_eq_true rfl) ?_
  have hp := HP.begin_ w
  replace h := h.now
  refine wc_seq ?_
  refine wc_region ?_
  refine wl_assign (by decide) rfl ?_
  refine wl_nil ?_
  refine wk_norm ?_
  refine wc_seq ?_
  refine wc_seq ?_
  refine wc_region ?_
  refine wl_call (by decide) Try.cl16 rfl (works28_ok) ?_
  rintro _ w1 ⟨rfl, hE1⟩
  replace h := h.ext hE1
  replace hp := hp.ext hE1
  first | refine wl_notd (by decide) rfl ?_ | refine wl_not (by decide) rfl ?_
  refine wl_nil ?_
  refine wk_norm ?_
  refine wc_cond_f rfl ?_
  refine wc_skip ?_
  refine wk_norm ?_
  refine wc_seq ?_
  refine wc_region ?_
  refine wl_assign (by decide) rfl ?_
  replace hp := hp.noRow 45 4
  refine wl_nil ?_
  refine wk_norm ?_
  refine wc_seq ?_
  refine wc_region ?_
  refine wl_assign (by decide) rfl ?_
  replace hp := hp.noRow 3 1
  refine wl_nil ?_
  refine wk_norm ?_
  refine wc_seq ?_
  refine wc_region ?_
  refine wl_assign (by decide) rfl ?_
  refine wl_assign (by decide) rfl ?_
  refine wl_nil ?_
  refine wk_norm ?_
  refine wc_seq ?_
  refine wc_seq ?_
  refine wc_region ?_
  refine wl_assign (by decide) rfl ?_
  refine wl_nil ?_
  refine wk_norm ?_
  refine wc_block ?_
  refine wc_loop (fun L' w' mes => ∃ (k : Nat), ∃ (Fz : Nat → Prop), ∃ (A : Option Addr), ∃ (c : Nat), ∃ (rows : List (List Value)), ∃ (H : List HOp), ∃ (vb : UInt8), ∃ (A2 : Option Addr), ∃ (c2 : Nat), L' = [(0, .slice A0 l.length c0), (3, .slice A k c), (4, .slice A2 k c2), (5, bv vb), (6, .bool (seqOK [0] H)), (7, .int .i64 (k : Int))] ∧ (k ≤ l.length) ∧ (k ≤ 14) ∧ (H.length = k) ∧ (IS Fz w' A0 c0 l) ∧ (HP w (fun _ => False) Fz w' [itR 3 1 A2 k c2 ((List.range k).map fun i : Nat => .int .i64 (i : Int)), itR 45 4 A k c rows.flatten]) ∧ (RF opR Fz w' rows H) ∧ (∀ i, i < H.length → (hop H i).b = 3 * i + 1 ∧ (hop H i).e = 3 * i + 2) ∧ (seqV [0] H = [vb]) ∧ l.length - k = mes) [(0, .slice A0 l.length c0), (3, .slice none 0 0), (4, .slice none 0 0), (5, bv 0), (6, .bool (seqOK [0] [])), (7, .int .i64 (0 : Int))] (l.length - 0) (by
      refine ⟨0, (fun b => b < w.heap.size), none, 0, [], [], 0, none, 0, rfl, ?_, ?_, ?_, ?_, ?_, ?_, ?_, ?_, rfl⟩
      · omega
      · omega
      · rfl
      · exact h
      · exact hp
      · exact RF.nil _ _ _
      · intro i hi; simp at hi
      · rfl) ⟨rfl, rfl, rfl, rfl, rfl, rfl, trivial⟩ ?_
  rintro _ wr _ ⟨k, Fz, A, c, rows, H, vb, A2, c2, rfl, hk, hk14, hHl, h, hp, hR, hrow, hsv, rfl⟩ KL1 hKL1
  have hmx := h.mx
  refine wc_seq ?_
  refine wc_seq ?_
  refine wc_region ?_
  refine wl_move (by decide) rfl ?_
  refine wl_move (by decide) rfl ?_
  refine wl_len (by decide) Try.underlying33 rfl ?_
  refine wl_lss (by decide) rfl rfl ?_
  refine wl_move (by decide) rfl ?_
  refine wl_gsplit (dj := 19) rfl (fun hlt => ?_) (fun hlt => ?_)
  ·
    try replace hlt := of_decide_eq_true hlt
    refine wl_gyes rfl rfl ?_
    refine wl_move (by decide) rfl ?_
    refine wl_gyes rfl rfl ?_
    refine wl_lss (by decide) rfl rfl ?_
    refine wl_pick (by decide) rfl rfl ?_
    refine wl_nil ?_
    refine wk_norm ?_
    refine wc_cond rfl (fun hl14 => ?_) (fun hl14 => ?_)
    ·
      try replace hl14 := of_decide_eq_true hl14
      refine wc_skip ?_
      refine wk_norm ?_
      refine wc_seq ?_
      refine wc_block ?_
      refine wc_seq ?_
      refine wc_region ?_
      refine wl_move (by decide) rfl ?_
      obtain ⟨aK, hAK, hatK⟩ := GS.el1 h k (by omega)
      have hlk := hlm _ (List.getElem_mem (show k < l.length by omega))
      refine wl_move (by decide) rfl ?_
      refine wl_idx0 (by decide) Try.sl33 rfl rfl hAK k rfl (by omega) ?_
      refine wl_load (by decide) Try.sc3 rfl hatK.head ?_
      refine wl_shr (by decide) rfl rfl (by decide) (show _ = (l[k]'(by omega)) / 2 from shr_e _ 1 1 rfl (by decide)) ?_
      refine wl_call (by decide) Try.cl25 rfl (bring_ok (by omega) (by omega) (by omega) (by omega)) ?_
      rintro _ _ ⟨rfl, rfl⟩
      refine wl_conv (by decide) Try.it3 Try.it5 rfl (wrap_u8 _) ?_
      generalize u8Of (brg ((l[k]'(by omega)) / 2) 3) = b8
      refine wl_assign (by decide) rfl ?_
      refine wl_nil ?_
      refine wk_norm ?_
      refine wc_seq ?_
      refine wc_region ?_
      refine wl_move (by decide) rfl ?_
      refine wl_move (by decide) rfl ?_
      refine wl_mul (by decide) rfl rfl (w64 (by omega) (by omega)) ?_
      refine wl_add (by decide) rfl rfl (w64 (by omega) (by omega)) ?_
      refine wl_move (by decide) rfl ?_
      refine wl_mul (by decide) rfl rfl (w64 (by omega) (by omega)) ?_
      refine wl_add (by decide) rfl rfl (w64 (by omega) (by omega)) ?_
      refine wl_call (by decide) Try.cl26 rfl (mkr_ok (b := b8) (x := 3 * (k : Int) + 1) (y := 3 * (k : Int) + 2)) ?_
      rintro _ w10 ⟨_, rfl, ⟨BX, dX, rfl, hbx⟩, hE10⟩
      have hsz3 := hp.chg.size
      obtain ⟨Fz3, hp3, hsub3, hnew3, hup3⟩ := hp.frz hE10
      replace hp := hp3
      replace h := (h.ext hE10).wid hsub3
      replace hR := (hR.ext hE10).wid hsub3
      replace hatK := (hatK.ext hE10).wid hsub3
      replace hbx := hbx.frz hnew3
      refine wl_halloc (z := .agg #[.bool false, .slice none 0 0, .int .i64 0, .int .i64 0]) (by decide) (by kernel_rfl) hp ?_
      rintro gs9 w4 hp4 hE4
      replace h := h.ext hE4
      replace hR := hR.ext hE4
      replace hatK := hatK.ext hE4
      replace hbx := hbx.ext hE4
      replace hp := hp4
      refine wl_hstore (i := 0) rfl rfl hp rfl Try.sz45 (Nat.le_of_ble_eq_true rfl) (List.all_eq_true.1 rfl) ?_
      rintro w5 hp5 hC5
      replace h := h.fz hC5
      replace hR := hR.fz hC5
      replace hatK := hatK.fz hC5
      replace hbx := hbx.fz hC5
      replace hp := hp5
      refine wl_nil ?_
      refine wk_norm ?_
      refine wc_seq_cut (fun L' w' => ∃ (F2 : Nat → Prop), ∃ (wr : Bool), ∃ (v2 : UInt8), L' = [(0, .slice A0 l.length c0), (3, .slice A k c), (4, .slice A2 k c2), (5, bv v2), (6, .bool (seqOK [0] H)), (7, .int .i64 (k : Int)), (8, bv b8), (9, .pointer (some ⟨gs9, 0, none⟩))] ∧ ((wr = true ∧ v2 = b8) ∨ (wr = false ∧ v2 = vb)) ∧ (IS F2 w' A0 c0 l) ∧ (RF opR F2 w' rows H) ∧ (BS F2 w' BX dX [b8]) ∧ (HP w (fun _ => False) F2 w' [itB gs9 45 [.bool wr, .slice BX [b8].length dX, .int .i64 (3 * (k : Int) + 1), .int .i64 (3 * (k : Int) + 2)], itR 3 1 A2 k c2 ((List.range k).map fun i : Nat => .int .i64 (i : Int)), itR 45 4 A k c rows.flatten])) (fun K hK => ?_) ?_
      ·
        refine wc_seq ?_
        refine wc_region ?_
        refine wl_move (by decide) rfl ?_
        refine wl_move (by decide) rfl ?_
        refine wl_idx0 (by decide) Try.sl33 rfl rfl hAK k rfl (by omega) ?_
        refine wl_load (by decide) Try.sc3 rfl hatK.head ?_
        refine wl_call (by decide) Try.cl25 rfl (bring_ok (by omega) (by omega) (by omega) (by omega)) ?_
        rintro _ _ ⟨rfl, rfl⟩
        refine wl_eql (by decide) rfl rfl ?_
        refine wl_nil ?_
        refine wk_norm ?_
        refine wc_cond rfl (fun hw0 => ?_) (fun hw0 => ?_)
        ·
          try replace hw0 := of_decide_eq_true hw0
          refine wc_seq ?_
          refine wc_region ?_
          refine wl_fld' (o' := 0) (by decide) Try.fld45_0 rfl rfl ?_
          refine wl_hstore (i := 0) rfl rfl hp rfl Try.sz4 (Nat.le_of_ble_eq_true rfl) (List.all_eq_true.1 rfl) ?_
          rintro w7 hp7 hC7
          replace h := h.fz hC7
          replace hR := hR.fz hC7
          replace hatK := hatK.fz hC7
          replace hbx := hbx.fz hC7
          replace hp := hp7
          refine wl_nil ?_
          refine wk_norm ?_
          refine wc_region ?_
          refine wl_move (by decide) rfl ?_
          refine wl_assign (by decide) rfl ?_
          refine wl_nil ?_
          refine wk_norm ?_
          refine wk_drop [(0, .slice A0 l.length c0), (3, .slice A k c), (4, .slice A2 k c2), (5, bv _), (6, .bool (seqOK [0] H)), (7, .int .i64 (k : Int)), (8, bv b8), (9, .pointer (some ⟨gs9, 0, none⟩))] ⟨rfl, rfl, rfl, rfl, rfl, rfl, rfl, rfl, trivial⟩ (hK _ _ ?_)
          refine ⟨Fz3, true, _, rfl, ?_, ?_, ?_, ?_, ?_⟩
          · first | exact .inl ⟨rfl, rfl⟩ | exact .inr ⟨rfl, rfl⟩
          · exact h
          · exact hR
          · exact hbx
          · exact hp
        ·
          try replace hw0 := of_decide_eq_false hw0
          refine wc_skip ?_
          refine wk_norm ?_
          refine wk_drop [(0, .slice A0 l.length c0), (3, .slice A k c), (4, .slice A2 k c2), (5, bv _), (6, .bool (seqOK [0] H)), (7, .int .i64 (k : Int)), (8, bv b8), (9, .pointer (some ⟨gs9, 0, none⟩))] ⟨rfl, rfl, rfl, rfl, rfl, rfl, rfl, rfl, trivial⟩ (hK _ _ ?_)
          refine ⟨Fz3, false, _, rfl, ?_, ?_, ?_, ?_, ?_⟩
          · first | exact .inl ⟨rfl, rfl⟩ | exact .inr ⟨rfl, rfl⟩
          · exact h
          · exact hR
          · exact hbx
          · exact hp
      ·
        rintro _ wn ⟨F2, wr, v2, rfl, hwv, h, hR, hbx, hp⟩
        refine wc_seq ?_
        refine wc_region ?_
        refine wl_move (by decide) rfl ?_
        refine wl_move (by decide) rfl ?_
        refine wl_gsplit (dj := 49) rfl (fun hwant => ?_) (fun hwant => ?_)
        ·
          try replace hwant := of_decide_eq_true hwant
          refine wl_gyes rfl rfl ?_
          refine wl_move (by decide) rfl ?_
          refine wl_gyes rfl rfl ?_
          refine wl_move (by decide) rfl ?_
          refine wl_gyes rfl rfl ?_
          refine wl_eql (by decide) rfl rfl ?_
          refine wl_pick (by decide) rfl rfl ?_
          first | refine wl_re (k := 53) (v := .bool (seqOK [0] (H ++ [⟨wr, [b8], 3 * (k : Int) + 1, 3 * (k : Int) + 2⟩]))) rfl (congrArg Value.bool (seq_next hsv hwv hwant)) ?_ | refine wl_re (k := 53) (v := .bool (seqOK [0] (H ++ [⟨wr, [b8], 3 * (k : Int) + 1, 3 * (k : Int) + 2⟩]))) rfl (congrArg Value.bool (seq_stop hwant)) ?_
          refine wl_assign (by decide) rfl ?_
          refine wl_nil ?_
          refine wk_norm ?_
          refine wc_seq ?_
          refine wc_region ?_
          refine wl_move (by decide) rfl ?_
          refine wl_hloadA (i := 0) (by decide) Try.ag45 rfl hp rfl rfl ?_
          refine wl_bslice (size := 4) (xs := [.tmp 55]) (by decide) Try.sl22 rfl rfl rfl (by intro v hv; rw [List.mem_singleton.1 hv]; rfl) (Nat.le_of_ble_eq_true rfl) _ (Nat.le_refl _) ?_
          rintro gu wu hgu hou hEu
          replace h := h.ext hEu
          replace hR := hR.ext hEu
          replace hbx := hbx.ext hEu
          replace hp := hp.ext hEu
          refine wl_happend (i := 2) (m := 1) (news := [.bool wr, .slice BX [b8].length dX, .int .i64 (3 * (k : Int) + 1), .int .i64 (3 * (k : Int) + 2)]) (by decide) Try.sl22 rfl rfl hp rfl rfl (fun b hb => by cases hb; exact hou.at0) (by simp) (List.all_eq_true.1 rfl) (by omega) ?_
          rintro A5 c5 w5 hp5 hC5
          replace h := h.fz hC5
          replace hR := hR.fz hC5
          replace hbx := hbx.fz hC5
          replace hp := hp5
          refine wl_assign (by decide) rfl ?_
          refine wl_nil ?_
          refine wk_norm ?_
          refine wc_region ?_
          refine wl_move (by decide) rfl ?_
          refine wl_move (by decide) rfl ?_
          refine wl_bsliceE (enc := fun z : Int => .int .i64 z) (xs := [.tmp 59]) (bs := [(k : Int)]) (fun _ => rfl) (by decide) Try.sl33 rfl rfl rfl (by simp) _ (Nat.le_refl _) ?_
          rintro gt wt hgt hot hEt
          replace h := h.ext hEt
          replace hR := hR.ext hEt
          replace hbx := hbx.ext hEt
          replace hp := hp.ext hEt
          refine wl_happend (i := 1) (m := 1) (news := [.int .i64 (k : Int)]) (by decide) Try.sl33 rfl rfl hp rfl rfl (fun b hb => by cases hb; exact hot.at0) (by simp) (by simp [Value.oneCell']) (by omega) ?_
          rintro A3 c3 w3 hp3 hC3
          replace h := h.fz hC3
          replace hR := hR.fz hC3
          replace hbx := hbx.fz hC3
          replace hp := hp3
          refine wl_assign (by decide) rfl ?_
          refine wl_nil ?_
          refine wk_blk_norm ?_
          refine wk_norm ?_
          refine wc_region ?_
          refine wl_move (by decide) rfl ?_
          refine wl_add (by decide) rfl rfl (w64 (by omega) (by omega)) ?_
          refine wl_assign (by decide) rfl ?_
          refine wl_nil ?_
          refine wk_norm ?_
          refine wk_drop [(0, .slice A0 l.length c0), (3, .slice A5 (k + 1) c5), (4, .slice A3 (k + 1) c3), (5, bv v2), (6, .bool (seqOK [0] (H ++ [⟨wr, [b8], 3 * (k : Int) + 1, 3 * (k : Int) + 2⟩]))), (7, .int .i64 ((k + 1) : Int))] ⟨rfl, rfl, rfl, rfl, rfl, rfl, trivial⟩ (hKL1 _ _ (m2 := l.length - (k + 1)) ?_ ?_)
          ·
            refine ⟨(k + 1), F2, A5, c5, (rows ++ [[.bool wr, .slice BX [b8].length dX, .int .i64 (3 * (k : Int) + 1), .int .i64 (3 * (k : Int) + 2)]]), (H ++ [⟨wr, [b8], 3 * (k : Int) + 1, 3 * (k : Int) + 2⟩]), v2, A3, c3, rfl, ?_, ?_, ?_, ?_, ?_, ?_, ?_, ?_, rfl⟩
            · omega
            · omega
            · rw [List.length_append, hHl]; rfl
            · exact h
            · rw [List.flatten_append, List.range_succ, List.map_append]; exact hp.tail
            · exact hR.append (RF.one ⟨_, _, rfl, hbx⟩)
            · intro i hi
              rw [List.length_append, List.length_singleton] at hi
              by_cases e : i = H.length
              · rw [e, hop_app_eq, hHl]; exact ⟨rfl, rfl⟩
              · rw [hop_app_lt (show i < H.length by omega)]; exact hrow i (by omega)
            · rw [seqV_app, hsv]
              rcases hwv with ⟨rfl, rfl⟩ | ⟨rfl, rfl⟩ <;> rfl
          · omega
        ·
          try replace hwant := of_decide_eq_false hwant
          refine wl_gno (by decide) rfl rfl (.inl rfl) ?_
          refine wl_gno (by decide) rfl rfl (.inl rfl) ?_
          refine wl_gno (by decide) rfl rfl (.inl rfl) ?_
          refine wl_pick (by decide) rfl rfl ?_
          first | refine wl_re (k := 53) (v := .bool (seqOK [0] (H ++ [⟨wr, [b8], 3 * (k : Int) + 1, 3 * (k : Int) + 2⟩]))) rfl (congrArg Value.bool (seq_next hsv hwv hwant)) ?_ | refine wl_re (k := 53) (v := .bool (seqOK [0] (H ++ [⟨wr, [b8], 3 * (k : Int) + 1, 3 * (k : Int) + 2⟩]))) rfl (congrArg Value.bool (seq_stop hwant)) ?_
          refine wl_assign (by decide) rfl ?_
          refine wl_nil ?_
          refine wk_norm ?_
          refine wc_seq ?_
          refine wc_region ?_
          refine wl_move (by decide) rfl ?_
          refine wl_hloadA (i := 0) (by decide) Try.ag45 rfl hp rfl rfl ?_
          refine wl_bslice (size := 4) (xs := [.tmp 55]) (by decide) Try.sl22 rfl rfl rfl (by intro v hv; rw [List.mem_singleton.1 hv]; rfl) (Nat.le_of_ble_eq_true rfl) _ (Nat.le_refl _) ?_
          rintro gu wu hgu hou hEu
          replace h := h.ext hEu
          replace hR := hR.ext hEu
          replace hbx := hbx.ext hEu
          replace hp := hp.ext hEu
          refine wl_happend (i := 2) (m := 1) (news := [.bool wr, .slice BX [b8].length dX, .int .i64 (3 * (k : Int) + 1), .int .i64 (3 * (k : Int) + 2)]) (by decide) Try.sl22 rfl rfl hp rfl rfl (fun b hb => by cases hb; exact hou.at0) (by simp) (List.all_eq_true.1 rfl) (by omega) ?_
          rintro A5 c5 w5 hp5 hC5
          replace h := h.fz hC5
          replace hR := hR.fz hC5
          replace hbx := hbx.fz hC5
          replace hp := hp5
          refine wl_assign (by decide) rfl ?_
          refine wl_nil ?_
          refine wk_norm ?_
          refine wc_region ?_
          refine wl_move (by decide) rfl ?_
          refine wl_move (by decide) rfl ?_
          refine wl_bsliceE (enc := fun z : Int => .int .i64 z) (xs := [.tmp 59]) (bs := [(k : Int)]) (fun _ => rfl) (by decide) Try.sl33 rfl rfl rfl (by simp) _ (Nat.le_refl _) ?_
          rintro gt wt hgt hot hEt
          replace h := h.ext hEt
          replace hR := hR.ext hEt
          replace hbx := hbx.ext hEt
          replace hp := hp.ext hEt
          refine wl_happend (i := 1) (m := 1) (news := [.int .i64 (k : Int)]) (by decide) Try.sl33 rfl rfl hp rfl rfl (fun b hb => by cases hb; exact hot.at0) (by simp) (by simp [Value.oneCell']) (by omega) ?_
          rintro A3 c3 w3 hp3 hC3
          replace h := h.fz hC3
          replace hR := hR.fz hC3
          replace hbx := hbx.fz hC3
          replace hp := hp3
          refine wl_assign (by decide) rfl ?_
          refine wl_nil ?_
          refine wk_blk_norm ?_
          refine wk_norm ?_
          refine wc_region ?_
          refine wl_move (by decide) rfl ?_
          refine wl_add (by decide) rfl rfl (w64 (by omega) (by omega)) ?_
          refine wl_assign (by decide) rfl ?_
          refine wl_nil ?_
          refine wk_norm ?_
          refine wk_drop [(0, .slice A0 l.length c0), (3, .slice A5 (k + 1) c5), (4, .slice A3 (k + 1) c3), (5, bv v2), (6, .bool (seqOK [0] (H ++ [⟨wr, [b8], 3 * (k : Int) + 1, 3 * (k : Int) + 2⟩]))), (7, .int .i64 ((k + 1) : Int))] ⟨rfl, rfl, rfl, rfl, rfl, rfl, trivial⟩ (hKL1 _ _ (m2 := l.length - (k + 1)) ?_ ?_)
          ·
            refine ⟨(k + 1), F2, A5, c5, (rows ++ [[.bool wr, .slice BX [b8].length dX, .int .i64 (3 * (k : Int) + 1), .int .i64 (3 * (k : Int) + 2)]]), (H ++ [⟨wr, [b8], 3 * (k : Int) + 1, 3 * (k : Int) + 2⟩]), v2, A3, c3, rfl, ?_, ?_, ?_, ?_, ?_, ?_, ?_, ?_, rfl⟩
            · omega
            · omega
            · rw [List.length_append, hHl]; rfl
            · exact h
            · rw [List.flatten_append, List.range_succ, List.map_append]; exact hp.tail
            · exact hR.append (RF.one ⟨_, _, rfl, hbx⟩)
            · intro i hi
              rw [List.length_append, List.length_singleton] at hi
              by_cases e : i = H.length
              · rw [e, hop_app_eq, hHl]; exact ⟨rfl, rfl⟩
              · rw [hop_app_lt (show i < H.length by omega)]; exact hrow i (by omega)
            · rw [seqV_app, hsv]
              rcases hwv with ⟨rfl, rfl⟩ | ⟨rfl, rfl⟩ <;> rfl
          · omega
    ·
      try replace hl14 := of_decide_eq_false hl14
      refine wc_exit ?_
      refine wk_then_exit ?_
      refine wk_then_exit ?_
      refine wk_blk_exit ?_
      refine wk_norm ?_
      refine wc_seq ?_
      subst hHl
      have hro := row_ord hk14 hrow
      have hck := row_chk hk14 hrow
      refine wc_region ?_
      refine wl_move (by decide) rfl ?_
      refine wl_bsliceB (xs := [.const (.int .u8 0)]) (bs := [0]) (by decide) Try.sl23 rfl rfl rfl (by simp) _ (Nat.le_refl _) ?_
      rintro g8 w8 _ hs8 hE8
      replace hs8 := hs8.bs.any
      replace h := h.ext hE8
      replace hR := hR.ext hE8
      replace hp := hp.ext hE8
      have hcl := porder_ok (hp.gsRow (r := opR) (i := 1) rfl hR rfl) hs8
      refine wl_call (by decide) Try.cl17 rfl hcl ?_
      clear hcl
      rintro _ wo ⟨Ao, co, rfl, ho, hEo⟩
      replace h := h.ext hEo
      replace hR := hR.ext hEo
      replace hs8 := hs8.ext hEo
      replace hp := hp.ext hEo
      refine wl_move (by decide) rfl ?_
      refine wl_extract (by decide) rfl rfl ?_
      refine wl_extract (by decide) rfl rfl ?_
      refine wl_extract (by decide) rfl rfl ?_
      refine wl_assign (by decide) rfl ?_
      refine wl_assign (by decide) rfl ?_
      refine wl_assign (by decide) rfl ?_
      refine wl_nil ?_
      refine wk_norm ?_
      refine wc_seq ?_
      refine wc_region ?_
      refine wl_move (by decide) rfl ?_
      refine wl_eql (by decide) rfl rfl ?_
      refine wl_re (k := 70) (v := .bool true) rfl (congrArg Value.bool (decide_eq_true (by rw [ordS_err]; exact hck))) ?_
      refine wl_move (by decide) rfl ?_
      refine wl_gyes rfl rfl ?_
      refine wl_move (by decide) rfl ?_
      refine wl_gyes rfl rfl ?_
      refine wl_move (by decide) rfl ?_
      refine wl_gyes rfl rfl ?_
      refine wl_eqlb (by decide) Try.bo4 rfl rfl ?_
      refine wl_re (k := 74) (v := .bool true) rfl (congrArg Value.bool (decide_eq_true (by rw [hro]; split <;> simp [*]))) ?_
      refine wl_pick (by decide) rfl rfl ?_
      refine wl_move (by decide) rfl ?_
      refine wl_gyes rfl rfl ?_
      refine wl_move (by decide) rfl ?_
      refine wl_gyes rfl rfl ?_
      first | refine wl_notd (by decide) rfl ?_ | refine wl_not (by decide) rfl ?_
      refine wl_gyes rfl rfl ?_
      refine wl_move (by decide) rfl ?_
      refine wl_gsplit (dj := 79) rfl (fun hni => ?_) (fun hni => ?_)
      ·
        try replace hni := of_decide_eq_true hni
        refine wl_gno (by decide) rfl rfl (.inl rfl) ?_
        refine wl_gno (by decide) rfl rfl (.inl rfl) ?_
        refine wl_gno (by decide) rfl rfl (.inl rfl) ?_
        refine wl_gyes rfl rfl ?_
        refine wl_pick (by decide) rfl rfl ?_
        refine wl_pick (by decide) rfl rfl ?_
        refine wl_assign (by decide) rfl ?_
        refine wl_nil ?_
        refine wk_norm ?_
        refine wc_ret ?_
        refine wk_post1 (.inl rfl) Try.results8 rfl ?_
        exact ⟨_, rfl, rfl, hp.chg⟩
      ·
        try replace hni := of_decide_eq_false hni
        replace hni : (ordS H [0]).2.1 = true := by simpa using hni
        have hq : (ordS H [0]).1 = List.range H.length := by
          rw [hro] at hni ⊢
          split at hni
          · rw [if_pos (by assumption)]
          · cases hni
        refine wl_gyes rfl rfl ?_
        refine wl_move (by decide) rfl ?_
        refine wl_gyes rfl rfl ?_
        refine wl_move (by decide) rfl ?_
        refine wl_gyes rfl rfl ?_
        have hord : IS (fun _ => True) _ A2 c2 (nats (List.range H.length)) := OwnRow.gsF (enc := fun z : Int => .int .i64 z) (he := fun _ => rfl) (lo := 0) (e := 3) (l := nats (List.range H.length)) (by
          have := hp.rowAt (i := 0) rfl
          rw [nats_len, List.length_range, nats, List.map_map]; exact this) (fun _ _ _ => trivial)
        refine wl_re (k := 81) (v := .slice A2 (nats (List.range H.length)).length c2) rfl (by rw [nats_len, List.length_range]) ?_
        have hcl := eqInts_ok ho hord
        refine wl_call (by decide) Try.cl21 rfl hcl ?_
        clear hcl
        rintro _ we ⟨rfl, hEe⟩
        replace h := h.ext hEe
        replace hR := hR.ext hEe
        replace hs8 := hs8.ext hEe
        replace ho := ho.ext hEe
        replace hp := hp.ext hEe
        refine wl_re (k := 82) (v := .bool true) rfl (congrArg Value.bool (decide_eq_true (by rw [hq]))) ?_
        refine wl_gyes rfl rfl ?_
        refine wl_pick (by decide) rfl rfl ?_
        refine wl_pick (by decide) rfl rfl ?_
        refine wl_assign (by decide) rfl ?_
        refine wl_nil ?_
        refine wk_norm ?_
        refine wc_ret ?_
        refine wk_post1 (.inl rfl) Try.results8 rfl ?_
        exact ⟨_, rfl, rfl, hp.chg⟩
  ·
    try replace hlt := of_decide_eq_false hlt
    refine wl_gno (by decide) rfl rfl (.inl rfl) ?_
    refine wl_gno (by decide) rfl rfl (.inl rfl) ?_
    refine wl_pick (by decide) rfl rfl ?_
    refine wl_nil ?_
    refine wk_norm ?_
    refine wc_cond_f rfl ?_
    refine wc_exit ?_
    refine wk_then_exit ?_
    refine wk_then_exit ?_
    refine wk_blk_exit ?_
    refine wk_norm ?_
    refine wc_seq ?_
    subst hHl
    have hro := row_ord hk14 hrow
    have hck := row_chk hk14 hrow
    refine wc_region ?_
    refine wl_move (by decide) rfl ?_
    refine wl_bsliceB (xs := [.const (.int .u8 0)]) (bs := [0]) (by decide) Try.sl23 rfl rfl rfl (by simp) _ (Nat.le_refl _) ?_
    rintro g9 w9 _ hs9 hE9
    replace hs9 := hs9.bs.any
    replace h := h.ext hE9
    replace hR := hR.ext hE9
    replace hp := hp.ext hE9
    have hcl := porder_ok (hp.gsRow (r := opR) (i := 1) rfl hR rfl) hs9
    refine wl_call (by decide) Try.cl17 rfl hcl ?_
    clear hcl
    rintro _ wo ⟨Ao, co, rfl, ho, hEo⟩
    replace h := h.ext hEo
    replace hR := hR.ext hEo
    replace hs9 := hs9.ext hEo
    replace hp := hp.ext hEo
    refine wl_move (by decide) rfl ?_
    refine wl_extract (by decide) rfl rfl ?_
    refine wl_extract (by decide) rfl rfl ?_
    refine wl_extract (by decide) rfl rfl ?_
    refine wl_assign (by decide) rfl ?_
    refine wl_assign (by decide) rfl ?_
    refine wl_assign (by decide) rfl ?_
    refine wl_nil ?_
    refine wk_norm ?_
    refine wc_seq ?_
    refine wc_region ?_
    refine wl_move (by decide) rfl ?_
    refine wl_eql (by decide) rfl rfl ?_
    refine wl_re (k := 70) (v := .bool true) rfl (congrArg Value.bool (decide_eq_true (by rw [ordS_err]; exact hck))) ?_
    refine wl_move (by decide) rfl ?_
    refine wl_gyes rfl rfl ?_
    refine wl_move (by decide) rfl ?_
    refine wl_gyes rfl rfl ?_
    refine wl_move (by decide) rfl ?_
    refine wl_gyes rfl rfl ?_
    refine wl_eqlb (by decide) Try.bo4 rfl rfl ?_
    refine wl_re (k := 74) (v := .bool true) rfl (congrArg Value.bool (decide_eq_true (by rw [hro]; split <;> simp [*]))) ?_
    refine wl_pick (by decide) rfl rfl ?_
    refine wl_move (by decide) rfl ?_
    refine wl_gyes rfl rfl ?_
    refine wl_move (by decide) rfl ?_
    refine wl_gyes rfl rfl ?_
    first | refine wl_notd (by decide) rfl ?_ | refine wl_not (by decide) rfl ?_
    refine wl_gyes rfl rfl ?_
    refine wl_move (by decide) rfl ?_
    refine wl_gsplit (dj := 79) rfl (fun hni => ?_) (fun hni => ?_)
    ·
      try replace hni := of_decide_eq_true hni
      refine wl_gno (by decide) rfl rfl (.inl rfl) ?_
      refine wl_gno (by decide) rfl rfl (.inl rfl) ?_
      refine wl_gno (by decide) rfl rfl (.inl rfl) ?_
      refine wl_gyes rfl rfl ?_
      refine wl_pick (by decide) rfl rfl ?_
      refine wl_pick (by decide) rfl rfl ?_
      refine wl_assign (by decide) rfl ?_
      refine wl_nil ?_
      refine wk_norm ?_
      refine wc_ret ?_
      refine wk_post1 (.inl rfl) Try.results8 rfl ?_
      exact ⟨_, rfl, rfl, hp.chg⟩
    ·
      try replace hni := of_decide_eq_false hni
      replace hni : (ordS H [0]).2.1 = true := by simpa using hni
      have hq : (ordS H [0]).1 = List.range H.length := by
        rw [hro] at hni ⊢
        split at hni
        · rw [if_pos (by assumption)]
        · cases hni
      refine wl_gyes rfl rfl ?_
      refine wl_move (by decide) rfl ?_
      refine wl_gyes rfl rfl ?_
      refine wl_move (by decide) rfl ?_
      refine wl_gyes rfl rfl ?_
      have hord : IS (fun _ => True) _ A2 c2 (nats (List.range H.length)) := OwnRow.gsF (enc := fun z : Int => .int .i64 z) (he := fun _ => rfl) (lo := 0) (e := 3) (l := nats (List.range H.length)) (by
        have := hp.rowAt (i := 0) rfl
        rw [nats_len, List.length_range, nats, List.map_map]; exact this) (fun _ _ _ => trivial)
      refine wl_re (k := 81) (v := .slice A2 (nats (List.range H.length)).length c2) rfl (by rw [nats_len, List.length_range]) ?_
      have hcl := eqInts_ok ho hord
      refine wl_call (by decide) Try.cl21 rfl hcl ?_
      clear hcl
      rintro _ we ⟨rfl, hEe⟩
      replace h := h.ext hEe
      replace hR := hR.ext hEe
      replace hs9 := hs9.ext hEe
      replace ho := ho.ext hEe
      replace hp := hp.ext hEe
      refine wl_re (k := 82) (v := .bool true) rfl (congrArg Value.bool (decide_eq_true (by rw [hq]))) ?_
      refine wl_gyes rfl rfl ?_
      refine wl_pick (by decide) rfl rfl ?_
      refine wl_pick (by decide) rfl rfl ?_
      refine wl_assign (by decide) rfl ?_
      refine wl_nil ?_
      refine wk_norm ?_
      refine wc_ret ?_
      refine wk_post1 (.inl rfl) Try.results8 rfl ?_
      exact ⟨_, rfl, rfl, hp.chg⟩

end Go.Proofs.Ytnlpibfdobinoaa
