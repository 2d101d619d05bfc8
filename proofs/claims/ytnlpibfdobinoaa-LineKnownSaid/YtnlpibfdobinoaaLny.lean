/- Lny (printed by program: wip/gen) -/
import Derived.Test.YtnlpibfdobinoaaLnx
namespace Go.Proofs.Ytnlpibfdobinoaa
open Go.RowKit Go.Eng

def manyH (k : Nat) : List HOp := (List.range 15).map fun i => if i < k then ⟨true, [UInt8.ofNat i], (i : Int) + 1, 0⟩ else ⟨false, [], 0, 0⟩
theorem manyH_len (k : Nat) : (manyH k).length = 15 := by simp [manyH]
theorem manyH_set {k : Nat} (hk : k < 15) : (manyH k).set k ⟨true, [UInt8.ofNat k], (k : Int) + 1, 0⟩ = manyH (k + 1) := by
  apply List.ext_getElem
  · simp [manyH]
  · intro i h1 h2
    simp only [manyH, List.getElem_set, List.getElem_map, List.getElem_range]
    split
    · subst_vars; rw [if_pos (by omega)]
    · split <;> split <;> first | rfl | omega
theorem manyH_zero (Fz : Nat → Prop) (w : World) : RF opR Fz w (List.replicate 15 [.bool false, .slice none 0 0, .int .i64 0, .int .i64 0]) (manyH 0) := by
  refine ⟨by simp [manyH], fun i hi => ?_⟩
  have hi' : i < 15 := by simpa [manyH] using hi
  refine ⟨_, by rw [List.getElem?_replicate, if_pos hi'], ?_⟩
  simp only [manyH, List.getElem_map, Nat.not_lt_zero, if_false]
  exact ⟨none, 0, rfl, GS.nil _ _ _ _ _⟩

theorem lineKnown_ok {w : World} : Ret Try.prog 9 #[] w (fun v w' => v = .bool true ∧ Ext w w') := by
  refine ret_of_wk Try.func9 rfl Try.ntmps9 (Nat.le_of_ble_eq_true rfl) ?_
  have hp := HP.begin_ w
  refine wc_seq ?_
  refine wc_region ?_
  refine wl_assign (by decide) rfl ?_
  refine wl_nil ?_
  refine wk_norm ?_
  refine wc_seq ?_
  refine wc_region ?_
  apply wl_make (k := 15) (z := .agg #[.bool false, .slice none 0 0, .int .i64 0, .int .i64 0]) (hT := Try.sl22) (hd := by decide)
  case hz => kernel_rfl
  case hx => rfl
  case hy => rfl
  case hb => decide
  case hlo => exact Nat.le_refl _
  rintro gi wi hgi hoi hEi
  replace hp := (hp.newRow hEi hgi hoi)
  refine wl_assign (by decide) rfl ?_
  refine wl_nil ?_
  refine wk_norm ?_
  refine wc_seq ?_
  refine wc_seq ?_
  refine wc_region ?_
  refine wl_assign (by decide) rfl ?_
  refine wl_nil ?_
  refine wk_norm ?_
  refine wc_block ?_
  refine wc_loop (fun L' w' mes => ∃ (k : Nat), ∃ (Fz : Nat → Prop), ∃ (rows : List (List Value)), L' = [(1, .slice (some ⟨gi, 0, none⟩) 15 15), (2, .int .i64 (k : Int))] ∧ (k ≤ 15) ∧ (HP w (fun _ => False) Fz w' [itR 45 4 (some ⟨gi, 0, none⟩) 15 15 rows.flatten]) ∧ (RF opR Fz w' rows (manyH k)) ∧ 15 - k = mes) [(1, .slice (some ⟨gi, 0, none⟩) 15 15), (2, .int .i64 (0 : Int))] (15 - 0) (by
      refine ⟨0, (fun b => b < w.heap.size), (List.replicate 15 [.bool false, .slice none 0 0, .int .i64 0, .int .i64 0]), rfl, ?_, ?_, ?_, rfl⟩
      · omega
      · exact hp
      · exact manyH_zero _ _) ⟨rfl, rfl, trivial⟩ ?_
  rintro _ wr _ ⟨k, Fz, rows, rfl, hk, hp, hR, rfl⟩ KL1 hKL1
  refine wc_seq ?_
  refine wc_seq ?_
  refine wc_region ?_
  refine wl_move (by decide) rfl ?_
  refine wl_lss (by decide) rfl rfl ?_
  refine wl_nil ?_
  refine wk_norm ?_
  refine wc_cond rfl (fun hlt => ?_) (fun hlt => ?_)
  ·
    try replace hlt := of_decide_eq_true hlt
    refine wc_skip ?_
    refine wk_norm ?_
    refine wc_seq ?_
    refine wc_block ?_
    refine wc_region ?_
    refine wl_move (by decide) rfl ?_
    refine wl_move (by decide) rfl ?_
    refine wl_move (by decide) rfl ?_
    refine wl_conv (by decide) Try.it3 Try.it5 rfl (wrap_u8 _) ?_
    refine wl_move (by decide) rfl ?_
    refine wl_add (by decide) rfl rfl (w64 (by omega) (by omega)) ?_
    rw [u8Of_nat]
    refine wl_call (by decide) Try.cl27 rfl (mkw_ok (b := UInt8.ofNat k) (x := (k : Int) + 1) (y := 0)) ?_
    rintro _ w10 ⟨_, rfl, ⟨BX, dX, rfl, hbx⟩, hE10⟩
    have hsz1 := hp.chg.size
    obtain ⟨Fz1, hp1, hsub1, hnew1, hup1⟩ := hp.frz hE10
    replace hp := hp1
    replace hR := (hR.ext hE10).wid hsub1
    replace hbx := hbx.frz hnew1
    refine wl_idx0 (by decide) Try.sl22 rfl rfl rfl k rfl (by omega) ?_
    rw [add_lit', Nat.zero_add]
    obtain ⟨cs9, hrk⟩ : ∃ cs, rows[k]? = some cs := ⟨_, List.getElem?_eq_getElem (by rw [hR.1, manyH_len]; omega)⟩
    have hcl9 : cs9.length = 4 := hR.lens cs9 (List.mem_of_getElem? hrk)
    refine wl_hstoreR (i := 0) (o := k * 4) rfl rfl hp rfl Try.sz45 rfl (by rw [flat_len rows 4 hR.lens, hR.1, manyH_len]; show _ + 4 ≤ _; omega) (show (4 : Nat) ≠ 0 by decide) (List.all_eq_true.1 rfl) ?_
    rintro w9 hp9 hC9
    have e9 : putL rows.flatten (k * 4 + 0) [.bool true, .slice BX [UInt8.ofNat k].length dX, .int .i64 ((k : Int) + 1), .int .i64 0] = (rows.set k [.bool true, .slice BX [UInt8.ofNat k].length dX, .int .i64 ((k : Int) + 1), .int .i64 0]).flatten := by
      rw [rowPut (k := 4) hrk hR.lens (show 0 + 4 ≤ 4 by decide)]
      congr 2
      rw [putL, List.drop_eq_nil_of_le (by rw [hcl9]; exact Nat.le_refl 4)]; rfl
    replace hp9 : HP w (fun _ => False) Fz1 w9 [itR 45 4 (some ⟨gi, 0, none⟩) 15 15 (rows.set k [.bool true, .slice BX [UInt8.ofNat k].length dX, .int .i64 ((k : Int) + 1), .int .i64 0]).flatten] := by
      rw [← e9]; exact hp9
    replace hR := hR.fz hC9
    replace hbx := hbx.fz hC9
    replace hp := hp9
    refine wl_nil ?_
    refine wk_blk_norm ?_
    refine wk_norm ?_
    refine wc_region ?_
    refine wl_move (by decide) rfl ?_
    refine wl_add (by decide) rfl rfl (w64 (by omega) (by omega)) ?_
    refine wl_assign (by decide) rfl ?_
    refine wl_nil ?_
    refine wk_norm ?_
    refine wk_drop [(1, .slice (some ⟨gi, 0, none⟩) 15 15), (2, .int .i64 ((k + 1) : Int))] ⟨rfl, rfl, trivial⟩ (hKL1 _ _ (m2 := 15 - (k + 1)) ?_ ?_)
    ·
      refine ⟨(k + 1), Fz1, (rows.set k [.bool true, .slice BX [UInt8.ofNat k].length dX, .int .i64 ((k : Int) + 1), .int .i64 0]), rfl, ?_, ?_, ?_, rfl⟩
      · omega
      · exact hp
      · rw [← manyH_set (by omega)]; exact hR.set k ⟨_, _, rfl, hbx⟩
    · omega
  ·
    try replace hlt := of_decide_eq_false hlt
    obtain rfl : k = 15 := by omega
    refine wc_exit ?_
    refine wk_then_exit ?_
    refine wk_then_exit ?_
    refine wk_blk_exit ?_
    refine wk_norm ?_
    refine wc_seq ?_
    refine wc_region ?_
    refine wl_move (by decide) rfl ?_
    have hm : HS (fun _ => True) _ _ 15 (manyH 15) := hp.gsRow (r := opR) (i := 0) rfl hR rfl
    have hcl := plinear_ok (first := []) hm (GS.nil byteR (fun _ => True) _ none 0)
    refine wl_call (by decide) Try.cl19 rfl hcl ?_
    clear hcl
    rintro _ wk1 ⟨rfl, hEwk1⟩
    replace hR := hR.ext hEwk1
    replace hm := hm.ext hEwk1
    replace hp := hp.ext hEwk1
    refine wl_move (by decide) rfl ?_
    refine wl_extract (by decide) rfl rfl ?_
    refine wl_extract (by decide) rfl rfl ?_
    refine wl_assign (by decide) rfl ?_
    refine wl_assign (by decide) rfl ?_
    refine wl_nil ?_
    refine wk_norm ?_
    refine wc_seq ?_
    refine wc_region ?_
    refine wl_move (by decide) rfl ?_
    refine wl_to (by decide) Try.sl22 rfl rfl hm 14 rfl (by decide) ?_
    intro hm14
    have hcl := plinear_ok (first := []) hm14 (GS.nil byteR (fun _ => True) _ none 0)
    refine wl_call (by decide) Try.cl19 rfl hcl ?_
    clear hcl
    rintro _ wk2 ⟨rfl, hEwk2⟩
    replace hR := hR.ext hEwk2
    replace hm := hm.ext hEwk2
    replace hm14 := hm14.ext hEwk2
    replace hp := hp.ext hEwk2
    refine wl_move (by decide) rfl ?_
    refine wl_extract (by decide) rfl rfl ?_
    refine wl_re (k := 45) (v := .bool true) rfl (congrArg Value.bool (by decide +kernel)) ?_
    refine wl_extract (by decide) rfl rfl ?_
    refine wl_assign (by decide) rfl ?_
    refine wl_assign (by decide) rfl ?_
    refine wl_nil ?_
    refine wk_norm ?_
    refine wc_seq ?_
    refine wc_region ?_
    refine wl_call (by decide) Try.cl27 rfl (mkw_ok (b := 1) (x := 0) (y := 5)) ?_
    rintro _ wa1 ⟨cs1, rfl, hr1, hEa1⟩
    have hR1 : RF opR (fun _ => True) wa1 [cs1] [⟨true, [1], 0, 5⟩] := RF.one (opR.mono (fun _ _ _ => trivial) hr1)
    replace hR := hR.ext hEa1
    replace hm := hm.ext hEa1
    replace hm14 := hm14.ext hEa1
    replace hp := hp.ext hEa1
    refine wl_bsliceR (r := opR) (css := [cs1]) (l := [⟨true, [1], 0, 5⟩]) (xs := [.tmp 48]) (by decide) Try.sl22 rfl rfl hR1 rfl (by simp) (Nat.le_of_ble_eq_true rfl) ?_
    rintro gb1 wb1 _ hs1 hEb1
    replace hs1 := hs1.any
    replace hR := hR.ext hEb1
    replace hm := hm.ext hEb1
    replace hm14 := hm14.ext hEb1
    replace hR1 := hR1.ext hEb1
    replace hp := hp.ext hEb1
    have hcl := plinear_ok (first := []) hs1 (GS.nil byteR (fun _ => True) _ none 0)
    refine wl_call (by decide) Try.cl19 rfl hcl ?_
    clear hcl
    rintro _ wc1 ⟨rfl, hEwc1⟩
    replace hR := hR.ext hEwc1
    replace hm := hm.ext hEwc1
    replace hm14 := hm14.ext hEwc1
    replace hR1 := hR1.ext hEwc1
    replace hs1 := hs1.ext hEwc1
    replace hp := hp.ext hEwc1
    refine wl_move (by decide) rfl ?_
    refine wl_extract (by decide) rfl rfl ?_
    refine wl_extract (by decide) rfl rfl ?_
    refine wl_assign (by decide) rfl ?_
    refine wl_assign (by decide) rfl ?_
    refine wl_nil ?_
    refine wk_norm ?_
    refine wc_seq ?_
    refine wc_region ?_
    refine wl_call (by decide) Try.cl27 rfl (mkw_ok (b := 1) (x := 5) (y := 5)) ?_
    rintro _ wa2 ⟨cs2, rfl, hr2, hEa2⟩
    have hR2 : RF opR (fun _ => True) wa2 [cs2] [⟨true, [1], 5, 5⟩] := RF.one (opR.mono (fun _ _ _ => trivial) hr2)
    replace hR := hR.ext hEa2
    replace hm := hm.ext hEa2
    replace hm14 := hm14.ext hEa2
    replace hR1 := hR1.ext hEa2
    replace hs1 := hs1.ext hEa2
    replace hp := hp.ext hEa2
    refine wl_bsliceR (r := opR) (css := [cs2]) (l := [⟨true, [1], 5, 5⟩]) (xs := [.tmp 54]) (by decide) Try.sl22 rfl rfl hR2 rfl (by simp) (Nat.le_of_ble_eq_true rfl) ?_
    rintro gb2 wb2 _ hs2 hEb2
    replace hs2 := hs2.any
    replace hR := hR.ext hEb2
    replace hm := hm.ext hEb2
    replace hm14 := hm14.ext hEb2
    replace hR1 := hR1.ext hEb2
    replace hs1 := hs1.ext hEb2
    replace hR2 := hR2.ext hEb2
    replace hp := hp.ext hEb2
    have hcl := plinear_ok (first := []) hs2 (GS.nil byteR (fun _ => True) _ none 0)
    refine wl_call (by decide) Try.cl19 rfl hcl ?_
    clear hcl
    rintro _ wc2 ⟨rfl, hEwc2⟩
    replace hR := hR.ext hEwc2
    replace hm := hm.ext hEwc2
    replace hm14 := hm14.ext hEwc2
    replace hR1 := hR1.ext hEwc2
    replace hs1 := hs1.ext hEwc2
    replace hR2 := hR2.ext hEwc2
    replace hs2 := hs2.ext hEwc2
    replace hp := hp.ext hEwc2
    refine wl_move (by decide) rfl ?_
    refine wl_extract (by decide) rfl rfl ?_
    refine wl_extract (by decide) rfl rfl ?_
    refine wl_assign (by decide) rfl ?_
    refine wl_assign (by decide) rfl ?_
    refine wl_nil ?_
    refine wk_norm ?_
    refine wc_seq ?_
    refine wc_region ?_
    refine wl_call (by decide) Try.cl27 rfl (mkw_ok (b := 1) (x := 5) (y := -1)) ?_
    rintro _ wa3 ⟨cs3, rfl, hr3, hEa3⟩
    have hR3 : RF opR (fun _ => True) wa3 [cs3] [⟨true, [1], 5, -1⟩] := RF.one (opR.mono (fun _ _ _ => trivial) hr3)
    replace hR := hR.ext hEa3
    replace hm := hm.ext hEa3
    replace hm14 := hm14.ext hEa3
    replace hR1 := hR1.ext hEa3
    replace hs1 := hs1.ext hEa3
    replace hR2 := hR2.ext hEa3
    replace hs2 := hs2.ext hEa3
    replace hp := hp.ext hEa3
    refine wl_bsliceR (r := opR) (css := [cs3]) (l := [⟨true, [1], 5, -1⟩]) (xs := [.tmp 60]) (by decide) Try.sl22 rfl rfl hR3 rfl (by simp) (Nat.le_of_ble_eq_true rfl) ?_
    rintro gb3 wb3 _ hs3 hEb3
    replace hs3 := hs3.any
    replace hR := hR.ext hEb3
    replace hm := hm.ext hEb3
    replace hm14 := hm14.ext hEb3
    replace hR1 := hR1.ext hEb3
    replace hs1 := hs1.ext hEb3
    replace hR2 := hR2.ext hEb3
    replace hs2 := hs2.ext hEb3
    replace hR3 := hR3.ext hEb3
    replace hp := hp.ext hEb3
    have hcl := plinear_ok (first := []) hs3 (GS.nil byteR (fun _ => True) _ none 0)
    refine wl_call (by decide) Try.cl19 rfl hcl ?_
    clear hcl
    rintro _ wc3 ⟨rfl, hEwc3⟩
    replace hR := hR.ext hEwc3
    replace hm := hm.ext hEwc3
    replace hm14 := hm14.ext hEwc3
    replace hR1 := hR1.ext hEwc3
    replace hs1 := hs1.ext hEwc3
    replace hR2 := hR2.ext hEwc3
    replace hs2 := hs2.ext hEwc3
    replace hR3 := hR3.ext hEwc3
    replace hs3 := hs3.ext hEwc3
    replace hp := hp.ext hEwc3
    refine wl_move (by decide) rfl ?_
    refine wl_extract (by decide) rfl rfl ?_
    refine wl_extract (by decide) rfl rfl ?_
    refine wl_assign (by decide) rfl ?_
    refine wl_assign (by decide) rfl ?_
    refine wl_nil ?_
    refine wk_norm ?_
    refine wc_seq ?_
    refine wc_region ?_
    refine wl_move (by decide) rfl ?_
    have hcl := porder_ok (first := []) hm (GS.nil byteR (fun _ => True) _ none 0)
    refine wl_call (by decide) Try.cl17 rfl hcl ?_
    clear hcl
    rintro _ wk3 ⟨Awk3, cwk3, rfl, howk3, hEwk3⟩
    replace hR := hR.ext hEwk3
    replace hm := hm.ext hEwk3
    replace hm14 := hm14.ext hEwk3
    replace hR1 := hR1.ext hEwk3
    replace hs1 := hs1.ext hEwk3
    replace hR2 := hR2.ext hEwk3
    replace hs2 := hs2.ext hEwk3
    replace hR3 := hR3.ext hEwk3
    replace hs3 := hs3.ext hEwk3
    replace hp := hp.ext hEwk3
    refine wl_move (by decide) rfl ?_
    refine wl_extract (by decide) rfl rfl ?_
    refine wl_extract (by decide) rfl rfl ?_
    refine wl_extract (by decide) rfl rfl ?_
    refine wl_assign (by decide) rfl ?_
    refine wl_assign (by decide) rfl ?_
    refine wl_assign (by decide) rfl ?_
    refine wl_nil ?_
    refine wk_norm ?_
    refine wc_seq ?_
    refine wc_region ?_
    refine wl_move (by decide) rfl ?_
    refine wl_eql (by decide) rfl rfl ?_
    refine wl_re (k := 72) (v := .bool true) rfl (congrArg Value.bool (decide_eq_true (by decide +kernel))) ?_
    refine wl_move (by decide) rfl ?_
    refine wl_gyes rfl rfl ?_
    refine wl_move (by decide) rfl ?_
    refine wl_pick (by decide) rfl rfl ?_
    refine wl_move (by decide) rfl ?_
    refine wl_gyes rfl rfl ?_
    refine wl_move (by decide) rfl ?_
    refine wl_gyes rfl rfl ?_
    refine wl_eql (by decide) rfl rfl ?_
    refine wl_re (k := 78) (v := .bool true) rfl (congrArg Value.bool (decide_eq_true (by decide +kernel))) ?_
    refine wl_pick (by decide) rfl rfl ?_
    refine wl_move (by decide) rfl ?_
    refine wl_gyes rfl rfl ?_
    refine wl_move (by decide) rfl ?_
    refine wl_gyes rfl rfl ?_
    refine wl_eql (by decide) rfl rfl ?_
    refine wl_re (k := 82) (v := .bool true) rfl (congrArg Value.bool (decide_eq_true (by decide +kernel))) ?_
    refine wl_pick (by decide) rfl rfl ?_
    refine wl_move (by decide) rfl ?_
    refine wl_gyes rfl rfl ?_
    refine wl_move (by decide) rfl ?_
    refine wl_gyes rfl rfl ?_
    refine wl_eql (by decide) rfl rfl ?_
    refine wl_re (k := 86) (v := .bool true) rfl (congrArg Value.bool (decide_eq_true (by decide +kernel))) ?_
    refine wl_pick (by decide) rfl rfl ?_
    refine wl_move (by decide) rfl ?_
    refine wl_gyes rfl rfl ?_
    refine wl_move (by decide) rfl ?_
    refine wl_gyes rfl rfl ?_
    refine wl_eql (by decide) rfl rfl ?_
    refine wl_re (k := 90) (v := .bool true) rfl (congrArg Value.bool (decide_eq_true (by decide +kernel))) ?_
    refine wl_pick (by decide) rfl rfl ?_
    refine wl_move (by decide) rfl ?_
    refine wl_gyes rfl rfl ?_
    refine wl_move (by decide) rfl ?_
    refine wl_gyes rfl rfl ?_
    refine wl_eql (by decide) rfl rfl ?_
    refine wl_re (k := 94) (v := .bool true) rfl (congrArg Value.bool (decide_eq_true (by decide +kernel))) ?_
    refine wl_pick (by decide) rfl rfl ?_
    refine wl_move (by decide) rfl ?_
    refine wl_gyes rfl rfl ?_
    refine wl_call (by decide) Try.cl12 rfl (check_ok (H := []) (GS.nil opR (fun _ => True) _ none 0)) ?_
    rintro _ wk4 ⟨rfl, hEwk4⟩
    replace hR := hR.ext hEwk4
    replace hm := hm.ext hEwk4
    replace hm14 := hm14.ext hEwk4
    replace hR1 := hR1.ext hEwk4
    replace hs1 := hs1.ext hEwk4
    replace hR2 := hR2.ext hEwk4
    replace hs2 := hs2.ext hEwk4
    replace hR3 := hR3.ext hEwk4
    replace hs3 := hs3.ext hEwk4
    replace hp := hp.ext hEwk4
    refine wl_gyes rfl rfl ?_
    refine wl_eql (by decide) rfl rfl ?_
    refine wl_re (k := 98) (v := .bool true) rfl (congrArg Value.bool (decide_eq_true (by decide +kernel))) ?_
    refine wl_pick (by decide) rfl rfl ?_
    refine wl_assign (by decide) rfl ?_
    refine wl_nil ?_
    refine wk_norm ?_
    refine wc_seq ?_
    refine wc_region ?_
    refine wl_call (by decide) Try.cl17 rfl (porder_ok (H := []) (first := []) (GS.nil opR (fun _ => True) _ none 0) (GS.nil byteR (fun _ => True) _ none 0)) ?_
    rintro _ wk5 ⟨Awk5, cwk5, rfl, howk5, hEwk5⟩
    replace hR := hR.ext hEwk5
    replace hm := hm.ext hEwk5
    replace hm14 := hm14.ext hEwk5
    replace hR1 := hR1.ext hEwk5
    replace hs1 := hs1.ext hEwk5
    replace hR2 := hR2.ext hEwk5
    replace hs2 := hs2.ext hEwk5
    replace hR3 := hR3.ext hEwk5
    replace hs3 := hs3.ext hEwk5
    replace hp := hp.ext hEwk5
    refine wl_move (by decide) rfl ?_
    refine wl_extract (by decide) rfl rfl ?_
    refine wl_extract (by decide) rfl rfl ?_
    refine wl_re (k := 103) (v := .bool true) rfl (congrArg Value.bool (by decide +kernel)) ?_
    refine wl_extract (by decide) rfl rfl ?_
    refine wl_assign (by decide) rfl ?_
    refine wl_assign (by decide) rfl ?_
    refine wl_assign (by decide) rfl ?_
    refine wl_nil ?_
    refine wk_norm ?_
    refine wc_seq ?_
    refine wc_region ?_
    refine wl_move (by decide) rfl ?_
    refine wl_move (by decide) rfl ?_
    refine wl_gyes rfl rfl ?_
    refine wl_move (by decide) rfl ?_
    refine wl_gyes rfl rfl ?_
    refine wl_eql (by decide) rfl rfl ?_
    refine wl_re (k := 108) (v := .bool true) rfl (congrArg Value.bool (decide_eq_true (by decide +kernel))) ?_
    refine wl_pick (by decide) rfl rfl ?_
    refine wl_move (by decide) rfl ?_
    refine wl_gyes rfl rfl ?_
    refine wl_move (by decide) rfl ?_
    refine wl_gyes rfl rfl ?_
    refine wl_len (by decide) Try.underlying33 rfl ?_
    refine wl_gyes rfl rfl ?_
    refine wl_eql (by decide) rfl rfl ?_
    refine wl_re (k := 113) (v := .bool true) rfl (congrArg Value.bool (decide_eq_true (by decide +kernel))) ?_
    refine wl_pick (by decide) rfl rfl ?_
    refine wl_assign (by decide) rfl ?_
    refine wl_nil ?_
    refine wk_norm ?_
    refine wc_seq ?_
    refine wc_region ?_
    refine wl_call (by decide) Try.cl27 rfl (mkw_ok (b := 1) (x := 1) (y := 9)) ?_
    rintro _ w15_0 ⟨cs15_0, rfl, hr15_0, hE15_0⟩
    have hR15_0 : RF opR (fun _ => True) w15_0 [cs15_0] [⟨true, [1], 1, 9⟩] := RF.one (opR.mono (fun _ _ _ => trivial) hr15_0)
    replace hR := hR.ext hE15_0
    replace hm := hm.ext hE15_0
    replace hm14 := hm14.ext hE15_0
    replace hR1 := hR1.ext hE15_0
    replace hs1 := hs1.ext hE15_0
    replace hR2 := hR2.ext hE15_0
    replace hs2 := hs2.ext hE15_0
    replace hR3 := hR3.ext hE15_0
    replace hs3 := hs3.ext hE15_0
    replace hp := hp.ext hE15_0
    refine wl_call (by decide) Try.cl27 rfl (mkw_ok (b := 2) (x := 1) (y := 9)) ?_
    rintro _ w15_1 ⟨cs15_1, rfl, hr15_1, hE15_1⟩
    have hR15_1 : RF opR (fun _ => True) w15_1 [cs15_1] [⟨true, [2], 1, 9⟩] := RF.one (opR.mono (fun _ _ _ => trivial) hr15_1)
    replace hR := hR.ext hE15_1
    replace hm := hm.ext hE15_1
    replace hm14 := hm14.ext hE15_1
    replace hR1 := hR1.ext hE15_1
    replace hs1 := hs1.ext hE15_1
    replace hR2 := hR2.ext hE15_1
    replace hs2 := hs2.ext hE15_1
    replace hR3 := hR3.ext hE15_1
    replace hs3 := hs3.ext hE15_1
    replace hR15_0 := hR15_0.ext hE15_1
    replace hp := hp.ext hE15_1
    refine wl_call (by decide) Try.cl26 rfl (mkr_ok (b := 1) (x := 10) (y := 11)) ?_
    rintro _ w15_2 ⟨cs15_2, rfl, hr15_2, hE15_2⟩
    have hR15_2 : RF opR (fun _ => True) w15_2 [cs15_2] [⟨false, [1], 10, 11⟩] := RF.one (opR.mono (fun _ _ _ => trivial) hr15_2)
    replace hR := hR.ext hE15_2
    replace hm := hm.ext hE15_2
    replace hm14 := hm14.ext hE15_2
    replace hR1 := hR1.ext hE15_2
    replace hs1 := hs1.ext hE15_2
    replace hR2 := hR2.ext hE15_2
    replace hs2 := hs2.ext hE15_2
    replace hR3 := hR3.ext hE15_2
    replace hs3 := hs3.ext hE15_2
    replace hR15_0 := hR15_0.ext hE15_2
    replace hR15_1 := hR15_1.ext hE15_2
    replace hp := hp.ext hE15_2
    refine wl_call (by decide) Try.cl26 rfl (mkr_ok (b := 1) (x := 12) (y := 13)) ?_
    rintro _ w15_3 ⟨cs15_3, rfl, hr15_3, hE15_3⟩
    have hR15_3 : RF opR (fun _ => True) w15_3 [cs15_3] [⟨false, [1], 12, 13⟩] := RF.one (opR.mono (fun _ _ _ => trivial) hr15_3)
    replace hR := hR.ext hE15_3
    replace hm := hm.ext hE15_3
    replace hm14 := hm14.ext hE15_3
    replace hR1 := hR1.ext hE15_3
    replace hs1 := hs1.ext hE15_3
    replace hR2 := hR2.ext hE15_3
    replace hs2 := hs2.ext hE15_3
    replace hR3 := hR3.ext hE15_3
    replace hs3 := hs3.ext hE15_3
    replace hR15_0 := hR15_0.ext hE15_3
    replace hR15_1 := hR15_1.ext hE15_3
    replace hR15_2 := hR15_2.ext hE15_3
    replace hp := hp.ext hE15_3
    refine wl_bsliceR (r := opR) (css := [cs15_0, cs15_1, cs15_2, cs15_3]) (l := [⟨true, [1], 1, 9⟩, ⟨true, [2], 1, 9⟩, ⟨false, [1], 10, 11⟩, ⟨false, [1], 12, 13⟩]) (xs := [.tmp 115, .tmp 116, .tmp 117, .tmp 118]) (by decide) Try.sl22 rfl rfl (hR15_0.append (hR15_1.append (hR15_2.append hR15_3))) rfl (by simp) (Nat.le_of_ble_eq_true rfl) ?_
    rintro g15_4 w15_4 _ hs15_4 hE15_4
    replace hs15_4 := hs15_4.any
    replace hR := hR.ext hE15_4
    replace hm := hm.ext hE15_4
    replace hm14 := hm14.ext hE15_4
    replace hR1 := hR1.ext hE15_4
    replace hs1 := hs1.ext hE15_4
    replace hR2 := hR2.ext hE15_4
    replace hs2 := hs2.ext hE15_4
    replace hR3 := hR3.ext hE15_4
    replace hs3 := hs3.ext hE15_4
    replace hR15_0 := hR15_0.ext hE15_4
    replace hR15_1 := hR15_1.ext hE15_4
    replace hR15_2 := hR15_2.ext hE15_4
    replace hR15_3 := hR15_3.ext hE15_4
    replace hp := hp.ext hE15_4
    refine wl_bsliceE (enc := fun z : Int => .int .i64 z) (xs := [.const (.int .i64 1), .const (.int .i64 0), .const (.int .i64 2), .const (.int .i64 3)]) (bs := [1, 0, 2, 3]) (fun _ => rfl) (by decide) Try.sl33 rfl rfl rfl (by simp) _ (Nat.le_refl _) ?_
    rintro g15_5 w15_5 _ ho15_5 hE15_5
    have hs15_5 : IS (fun _ => True) _ _ _ [1, 0, 2, 3] := (OwnRow.gs1 ho15_5).any
    replace hR := hR.ext hE15_5
    replace hm := hm.ext hE15_5
    replace hm14 := hm14.ext hE15_5
    replace hR1 := hR1.ext hE15_5
    replace hs1 := hs1.ext hE15_5
    replace hR2 := hR2.ext hE15_5
    replace hs2 := hs2.ext hE15_5
    replace hR3 := hR3.ext hE15_5
    replace hs3 := hs3.ext hE15_5
    replace hR15_0 := hR15_0.ext hE15_5
    replace hR15_1 := hR15_1.ext hE15_5
    replace hR15_2 := hR15_2.ext hE15_5
    replace hR15_3 := hR15_3.ext hE15_5
    replace hs15_4 := hs15_4.ext hE15_5
    replace hp := hp.ext hE15_5
    have hcl := tells_ok (H := [⟨true, [1], 1, 9⟩, ⟨true, [2], 1, 9⟩, ⟨false, [1], 10, 11⟩, ⟨false, [1], 12, 13⟩]) (want := [1, 0, 2, 3]) (q := [1, 0, 2, 3]) (b := true) hs15_4 hs15_5 (by decide +kernel) rfl rfl
    refine wl_call (by decide) Try.cl28 rfl hcl ?_
    clear hcl
    rintro _ w15_6 ⟨rfl, hE15_6⟩
    replace hR := hR.ext hE15_6
    replace hm := hm.ext hE15_6
    replace hm14 := hm14.ext hE15_6
    replace hR1 := hR1.ext hE15_6
    replace hs1 := hs1.ext hE15_6
    replace hR2 := hR2.ext hE15_6
    replace hs2 := hs2.ext hE15_6
    replace hR3 := hR3.ext hE15_6
    replace hs3 := hs3.ext hE15_6
    replace hR15_0 := hR15_0.ext hE15_6
    replace hR15_1 := hR15_1.ext hE15_6
    replace hR15_2 := hR15_2.ext hE15_6
    replace hR15_3 := hR15_3.ext hE15_6
    replace hs15_4 := hs15_4.ext hE15_6
    replace hs15_5 := hs15_5.ext hE15_6
    replace hp := hp.ext hE15_6
    refine wl_move (by decide) rfl ?_
    refine wl_gyes rfl rfl ?_
    refine wl_call (by decide) Try.cl27 rfl (mkw_ok (b := 1) (x := 1) (y := 9)) ?_
    rintro _ w15_8 ⟨cs15_8, rfl, hr15_8, hE15_8⟩
    have hR15_8 : RF opR (fun _ => True) w15_8 [cs15_8] [⟨true, [1], 1, 9⟩] := RF.one (opR.mono (fun _ _ _ => trivial) hr15_8)
    replace hR := hR.ext hE15_8
    replace hm := hm.ext hE15_8
    replace hm14 := hm14.ext hE15_8
    replace hR1 := hR1.ext hE15_8
    replace hs1 := hs1.ext hE15_8
    replace hR2 := hR2.ext hE15_8
    replace hs2 := hs2.ext hE15_8
    replace hR3 := hR3.ext hE15_8
    replace hs3 := hs3.ext hE15_8
    replace hR15_0 := hR15_0.ext hE15_8
    replace hR15_1 := hR15_1.ext hE15_8
    replace hR15_2 := hR15_2.ext hE15_8
    replace hR15_3 := hR15_3.ext hE15_8
    replace hs15_4 := hs15_4.ext hE15_8
    replace hs15_5 := hs15_5.ext hE15_8
    replace hp := hp.ext hE15_8
    refine wl_gyes rfl rfl ?_
    refine wl_call (by decide) Try.cl27 rfl (mkw_ok (b := 2) (x := 1) (y := 9)) ?_
    rintro _ w15_9 ⟨cs15_9, rfl, hr15_9, hE15_9⟩
    have hR15_9 : RF opR (fun _ => True) w15_9 [cs15_9] [⟨true, [2], 1, 9⟩] := RF.one (opR.mono (fun _ _ _ => trivial) hr15_9)
    replace hR := hR.ext hE15_9
    replace hm := hm.ext hE15_9
    replace hm14 := hm14.ext hE15_9
    replace hR1 := hR1.ext hE15_9
    replace hs1 := hs1.ext hE15_9
    replace hR2 := hR2.ext hE15_9
    replace hs2 := hs2.ext hE15_9
    replace hR3 := hR3.ext hE15_9
    replace hs3 := hs3.ext hE15_9
    replace hR15_0 := hR15_0.ext hE15_9
    replace hR15_1 := hR15_1.ext hE15_9
    replace hR15_2 := hR15_2.ext hE15_9
    replace hR15_3 := hR15_3.ext hE15_9
    replace hs15_4 := hs15_4.ext hE15_9
    replace hs15_5 := hs15_5.ext hE15_9
    replace hR15_8 := hR15_8.ext hE15_9
    replace hp := hp.ext hE15_9
    refine wl_gyes rfl rfl ?_
    refine wl_call (by decide) Try.cl26 rfl (mkr_ok (b := 1) (x := 10) (y := 11)) ?_
    rintro _ w15_10 ⟨cs15_10, rfl, hr15_10, hE15_10⟩
    have hR15_10 : RF opR (fun _ => True) w15_10 [cs15_10] [⟨false, [1], 10, 11⟩] := RF.one (opR.mono (fun _ _ _ => trivial) hr15_10)
    replace hR := hR.ext hE15_10
    replace hm := hm.ext hE15_10
    replace hm14 := hm14.ext hE15_10
    replace hR1 := hR1.ext hE15_10
    replace hs1 := hs1.ext hE15_10
    replace hR2 := hR2.ext hE15_10
    replace hs2 := hs2.ext hE15_10
    replace hR3 := hR3.ext hE15_10
    replace hs3 := hs3.ext hE15_10
    replace hR15_0 := hR15_0.ext hE15_10
    replace hR15_1 := hR15_1.ext hE15_10
    replace hR15_2 := hR15_2.ext hE15_10
    replace hR15_3 := hR15_3.ext hE15_10
    replace hs15_4 := hs15_4.ext hE15_10
    replace hs15_5 := hs15_5.ext hE15_10
    replace hR15_8 := hR15_8.ext hE15_10
    replace hR15_9 := hR15_9.ext hE15_10
    replace hp := hp.ext hE15_10
    refine wl_gyes rfl rfl ?_
    refine wl_call (by decide) Try.cl26 rfl (mkr_ok (b := 2) (x := 12) (y := 13)) ?_
    rintro _ w15_11 ⟨cs15_11, rfl, hr15_11, hE15_11⟩
    have hR15_11 : RF opR (fun _ => True) w15_11 [cs15_11] [⟨false, [2], 12, 13⟩] := RF.one (opR.mono (fun _ _ _ => trivial) hr15_11)
    replace hR := hR.ext hE15_11
    replace hm := hm.ext hE15_11
    replace hm14 := hm14.ext hE15_11
    replace hR1 := hR1.ext hE15_11
    replace hs1 := hs1.ext hE15_11
    replace hR2 := hR2.ext hE15_11
    replace hs2 := hs2.ext hE15_11
    replace hR3 := hR3.ext hE15_11
    replace hs3 := hs3.ext hE15_11
    replace hR15_0 := hR15_0.ext hE15_11
    replace hR15_1 := hR15_1.ext hE15_11
    replace hR15_2 := hR15_2.ext hE15_11
    replace hR15_3 := hR15_3.ext hE15_11
    replace hs15_4 := hs15_4.ext hE15_11
    replace hs15_5 := hs15_5.ext hE15_11
    replace hR15_8 := hR15_8.ext hE15_11
    replace hR15_9 := hR15_9.ext hE15_11
    replace hR15_10 := hR15_10.ext hE15_11
    replace hp := hp.ext hE15_11
    refine wl_gyes rfl rfl ?_
    refine wl_bsliceR (r := opR) (css := [cs15_8, cs15_9, cs15_10, cs15_11]) (l := [⟨true, [1], 1, 9⟩, ⟨true, [2], 1, 9⟩, ⟨false, [1], 10, 11⟩, ⟨false, [2], 12, 13⟩]) (xs := [.tmp 123, .tmp 124, .tmp 125, .tmp 126]) (by decide) Try.sl22 rfl rfl (hR15_8.append (hR15_9.append (hR15_10.append hR15_11))) rfl (by simp) (Nat.le_of_ble_eq_true rfl) ?_
    rintro g15_12 w15_12 _ hs15_12 hE15_12
    replace hs15_12 := hs15_12.any
    replace hR := hR.ext hE15_12
    replace hm := hm.ext hE15_12
    replace hm14 := hm14.ext hE15_12
    replace hR1 := hR1.ext hE15_12
    replace hs1 := hs1.ext hE15_12
    replace hR2 := hR2.ext hE15_12
    replace hs2 := hs2.ext hE15_12
    replace hR3 := hR3.ext hE15_12
    replace hs3 := hs3.ext hE15_12
    replace hR15_0 := hR15_0.ext hE15_12
    replace hR15_1 := hR15_1.ext hE15_12
    replace hR15_2 := hR15_2.ext hE15_12
    replace hR15_3 := hR15_3.ext hE15_12
    replace hs15_4 := hs15_4.ext hE15_12
    replace hs15_5 := hs15_5.ext hE15_12
    replace hR15_8 := hR15_8.ext hE15_12
    replace hR15_9 := hR15_9.ext hE15_12
    replace hR15_10 := hR15_10.ext hE15_12
    replace hR15_11 := hR15_11.ext hE15_12
    replace hp := hp.ext hE15_12
    refine wl_gyes rfl rfl ?_
    have hcl := tells_ok (H := [⟨true, [1], 1, 9⟩, ⟨true, [2], 1, 9⟩, ⟨false, [1], 10, 11⟩, ⟨false, [2], 12, 13⟩]) (want := []) (q := []) (b := false) hs15_12 (GS.nil intR (fun _ => True) _ none 0) (by decide +kernel) rfl rfl
    refine wl_call (by decide) Try.cl28 rfl hcl ?_
    clear hcl
    rintro _ w15_13 ⟨rfl, hE15_13⟩
    replace hR := hR.ext hE15_13
    replace hm := hm.ext hE15_13
    replace hm14 := hm14.ext hE15_13
    replace hR1 := hR1.ext hE15_13
    replace hs1 := hs1.ext hE15_13
    replace hR2 := hR2.ext hE15_13
    replace hs2 := hs2.ext hE15_13
    replace hR3 := hR3.ext hE15_13
    replace hs3 := hs3.ext hE15_13
    replace hR15_0 := hR15_0.ext hE15_13
    replace hR15_1 := hR15_1.ext hE15_13
    replace hR15_2 := hR15_2.ext hE15_13
    replace hR15_3 := hR15_3.ext hE15_13
    replace hs15_4 := hs15_4.ext hE15_13
    replace hs15_5 := hs15_5.ext hE15_13
    replace hR15_8 := hR15_8.ext hE15_13
    replace hR15_9 := hR15_9.ext hE15_13
    replace hR15_10 := hR15_10.ext hE15_13
    replace hR15_11 := hR15_11.ext hE15_13
    replace hs15_12 := hs15_12.ext hE15_13
    replace hp := hp.ext hE15_13
    refine wl_pick (by decide) rfl rfl ?_
    refine wl_move (by decide) rfl ?_
    refine wl_gyes rfl rfl ?_
    refine wl_call (by decide) Try.cl27 rfl (mkw_ok (b := 1) (x := 1) (y := 9)) ?_
    rintro _ w15_16 ⟨cs15_16, rfl, hr15_16, hE15_16⟩
    have hR15_16 : RF opR (fun _ => True) w15_16 [cs15_16] [⟨true, [1], 1, 9⟩] := RF.one (opR.mono (fun _ _ _ => trivial) hr15_16)
    replace hR := hR.ext hE15_16
    replace hm := hm.ext hE15_16
    replace hm14 := hm14.ext hE15_16
    replace hR1 := hR1.ext hE15_16
    replace hs1 := hs1.ext hE15_16
    replace hR2 := hR2.ext hE15_16
    replace hs2 := hs2.ext hE15_16
    replace hR3 := hR3.ext hE15_16
    replace hs3 := hs3.ext hE15_16
    replace hR15_0 := hR15_0.ext hE15_16
    replace hR15_1 := hR15_1.ext hE15_16
    replace hR15_2 := hR15_2.ext hE15_16
    replace hR15_3 := hR15_3.ext hE15_16
    replace hs15_4 := hs15_4.ext hE15_16
    replace hs15_5 := hs15_5.ext hE15_16
    replace hR15_8 := hR15_8.ext hE15_16
    replace hR15_9 := hR15_9.ext hE15_16
    replace hR15_10 := hR15_10.ext hE15_16
    replace hR15_11 := hR15_11.ext hE15_16
    replace hs15_12 := hs15_12.ext hE15_16
    replace hp := hp.ext hE15_16
    refine wl_gyes rfl rfl ?_
    refine wl_call (by decide) Try.cl27 rfl (mkw_ok (b := 2) (x := 1) (y := 9)) ?_
    rintro _ w15_17 ⟨cs15_17, rfl, hr15_17, hE15_17⟩
    have hR15_17 : RF opR (fun _ => True) w15_17 [cs15_17] [⟨true, [2], 1, 9⟩] := RF.one (opR.mono (fun _ _ _ => trivial) hr15_17)
    replace hR := hR.ext hE15_17
    replace hm := hm.ext hE15_17
    replace hm14 := hm14.ext hE15_17
    replace hR1 := hR1.ext hE15_17
    replace hs1 := hs1.ext hE15_17
    replace hR2 := hR2.ext hE15_17
    replace hs2 := hs2.ext hE15_17
    replace hR3 := hR3.ext hE15_17
    replace hs3 := hs3.ext hE15_17
    replace hR15_0 := hR15_0.ext hE15_17
    replace hR15_1 := hR15_1.ext hE15_17
    replace hR15_2 := hR15_2.ext hE15_17
    replace hR15_3 := hR15_3.ext hE15_17
    replace hs15_4 := hs15_4.ext hE15_17
    replace hs15_5 := hs15_5.ext hE15_17
    replace hR15_8 := hR15_8.ext hE15_17
    replace hR15_9 := hR15_9.ext hE15_17
    replace hR15_10 := hR15_10.ext hE15_17
    replace hR15_11 := hR15_11.ext hE15_17
    replace hs15_12 := hs15_12.ext hE15_17
    replace hR15_16 := hR15_16.ext hE15_17
    replace hp := hp.ext hE15_17
    refine wl_gyes rfl rfl ?_
    refine wl_call (by decide) Try.cl26 rfl (mkr_ok (b := 1) (x := 2) (y := 3)) ?_
    rintro _ w15_18 ⟨cs15_18, rfl, hr15_18, hE15_18⟩
    have hR15_18 : RF opR (fun _ => True) w15_18 [cs15_18] [⟨false, [1], 2, 3⟩] := RF.one (opR.mono (fun _ _ _ => trivial) hr15_18)
    replace hR := hR.ext hE15_18
    replace hm := hm.ext hE15_18
    replace hm14 := hm14.ext hE15_18
    replace hR1 := hR1.ext hE15_18
    replace hs1 := hs1.ext hE15_18
    replace hR2 := hR2.ext hE15_18
    replace hs2 := hs2.ext hE15_18
    replace hR3 := hR3.ext hE15_18
    replace hs3 := hs3.ext hE15_18
    replace hR15_0 := hR15_0.ext hE15_18
    replace hR15_1 := hR15_1.ext hE15_18
    replace hR15_2 := hR15_2.ext hE15_18
    replace hR15_3 := hR15_3.ext hE15_18
    replace hs15_4 := hs15_4.ext hE15_18
    replace hs15_5 := hs15_5.ext hE15_18
    replace hR15_8 := hR15_8.ext hE15_18
    replace hR15_9 := hR15_9.ext hE15_18
    replace hR15_10 := hR15_10.ext hE15_18
    replace hR15_11 := hR15_11.ext hE15_18
    replace hs15_12 := hs15_12.ext hE15_18
    replace hR15_16 := hR15_16.ext hE15_18
    replace hR15_17 := hR15_17.ext hE15_18
    replace hp := hp.ext hE15_18
    refine wl_gyes rfl rfl ?_
    refine wl_call (by decide) Try.cl26 rfl (mkr_ok (b := 2) (x := 4) (y := 5)) ?_
    rintro _ w15_19 ⟨cs15_19, rfl, hr15_19, hE15_19⟩
    have hR15_19 : RF opR (fun _ => True) w15_19 [cs15_19] [⟨false, [2], 4, 5⟩] := RF.one (opR.mono (fun _ _ _ => trivial) hr15_19)
    replace hR := hR.ext hE15_19
    replace hm := hm.ext hE15_19
    replace hm14 := hm14.ext hE15_19
    replace hR1 := hR1.ext hE15_19
    replace hs1 := hs1.ext hE15_19
    replace hR2 := hR2.ext hE15_19
    replace hs2 := hs2.ext hE15_19
    replace hR3 := hR3.ext hE15_19
    replace hs3 := hs3.ext hE15_19
    replace hR15_0 := hR15_0.ext hE15_19
    replace hR15_1 := hR15_1.ext hE15_19
    replace hR15_2 := hR15_2.ext hE15_19
    replace hR15_3 := hR15_3.ext hE15_19
    replace hs15_4 := hs15_4.ext hE15_19
    replace hs15_5 := hs15_5.ext hE15_19
    replace hR15_8 := hR15_8.ext hE15_19
    replace hR15_9 := hR15_9.ext hE15_19
    replace hR15_10 := hR15_10.ext hE15_19
    replace hR15_11 := hR15_11.ext hE15_19
    replace hs15_12 := hs15_12.ext hE15_19
    replace hR15_16 := hR15_16.ext hE15_19
    replace hR15_17 := hR15_17.ext hE15_19
    replace hR15_18 := hR15_18.ext hE15_19
    replace hp := hp.ext hE15_19
    refine wl_gyes rfl rfl ?_
    refine wl_call (by decide) Try.cl26 rfl (mkr_ok (b := 1) (x := 6) (y := 7)) ?_
    rintro _ w15_20 ⟨cs15_20, rfl, hr15_20, hE15_20⟩
    have hR15_20 : RF opR (fun _ => True) w15_20 [cs15_20] [⟨false, [1], 6, 7⟩] := RF.one (opR.mono (fun _ _ _ => trivial) hr15_20)
    replace hR := hR.ext hE15_20
    replace hm := hm.ext hE15_20
    replace hm14 := hm14.ext hE15_20
    replace hR1 := hR1.ext hE15_20
    replace hs1 := hs1.ext hE15_20
    replace hR2 := hR2.ext hE15_20
    replace hs2 := hs2.ext hE15_20
    replace hR3 := hR3.ext hE15_20
    replace hs3 := hs3.ext hE15_20
    replace hR15_0 := hR15_0.ext hE15_20
    replace hR15_1 := hR15_1.ext hE15_20
    replace hR15_2 := hR15_2.ext hE15_20
    replace hR15_3 := hR15_3.ext hE15_20
    replace hs15_4 := hs15_4.ext hE15_20
    replace hs15_5 := hs15_5.ext hE15_20
    replace hR15_8 := hR15_8.ext hE15_20
    replace hR15_9 := hR15_9.ext hE15_20
    replace hR15_10 := hR15_10.ext hE15_20
    replace hR15_11 := hR15_11.ext hE15_20
    replace hs15_12 := hs15_12.ext hE15_20
    replace hR15_16 := hR15_16.ext hE15_20
    replace hR15_17 := hR15_17.ext hE15_20
    replace hR15_18 := hR15_18.ext hE15_20
    replace hR15_19 := hR15_19.ext hE15_20
    replace hp := hp.ext hE15_20
    refine wl_gyes rfl rfl ?_
    refine wl_bsliceR (r := opR) (css := [cs15_16, cs15_17, cs15_18, cs15_19, cs15_20]) (l := [⟨true, [1], 1, 9⟩, ⟨true, [2], 1, 9⟩, ⟨false, [1], 2, 3⟩, ⟨false, [2], 4, 5⟩, ⟨false, [1], 6, 7⟩]) (xs := [.tmp 131, .tmp 132, .tmp 133, .tmp 134, .tmp 135]) (by decide) Try.sl22 rfl rfl (hR15_16.append (hR15_17.append (hR15_18.append (hR15_19.append hR15_20)))) rfl (by simp) (Nat.le_of_ble_eq_true rfl) ?_
    rintro g15_21 w15_21 _ hs15_21 hE15_21
    replace hs15_21 := hs15_21.any
    replace hR := hR.ext hE15_21
    replace hm := hm.ext hE15_21
    replace hm14 := hm14.ext hE15_21
    replace hR1 := hR1.ext hE15_21
    replace hs1 := hs1.ext hE15_21
    replace hR2 := hR2.ext hE15_21
    replace hs2 := hs2.ext hE15_21
    replace hR3 := hR3.ext hE15_21
    replace hs3 := hs3.ext hE15_21
    replace hR15_0 := hR15_0.ext hE15_21
    replace hR15_1 := hR15_1.ext hE15_21
    replace hR15_2 := hR15_2.ext hE15_21
    replace hR15_3 := hR15_3.ext hE15_21
    replace hs15_4 := hs15_4.ext hE15_21
    replace hs15_5 := hs15_5.ext hE15_21
    replace hR15_8 := hR15_8.ext hE15_21
    replace hR15_9 := hR15_9.ext hE15_21
    replace hR15_10 := hR15_10.ext hE15_21
    replace hR15_11 := hR15_11.ext hE15_21
    replace hs15_12 := hs15_12.ext hE15_21
    replace hR15_16 := hR15_16.ext hE15_21
    replace hR15_17 := hR15_17.ext hE15_21
    replace hR15_18 := hR15_18.ext hE15_21
    replace hR15_19 := hR15_19.ext hE15_21
    replace hR15_20 := hR15_20.ext hE15_21
    replace hp := hp.ext hE15_21
    refine wl_gyes rfl rfl ?_
    have hcl := tells_ok (H := [⟨true, [1], 1, 9⟩, ⟨true, [2], 1, 9⟩, ⟨false, [1], 2, 3⟩, ⟨false, [2], 4, 5⟩, ⟨false, [1], 6, 7⟩]) (want := []) (q := []) (b := false) hs15_21 (GS.nil intR (fun _ => True) _ none 0) (by decide +kernel) rfl rfl
    refine wl_call (by decide) Try.cl28 rfl hcl ?_
    clear hcl
    rintro _ w15_22 ⟨rfl, hE15_22⟩
    replace hR := hR.ext hE15_22
    replace hm := hm.ext hE15_22
    replace hm14 := hm14.ext hE15_22
    replace hR1 := hR1.ext hE15_22
    replace hs1 := hs1.ext hE15_22
    replace hR2 := hR2.ext hE15_22
    replace hs2 := hs2.ext hE15_22
    replace hR3 := hR3.ext hE15_22
    replace hs3 := hs3.ext hE15_22
    replace hR15_0 := hR15_0.ext hE15_22
    replace hR15_1 := hR15_1.ext hE15_22
    replace hR15_2 := hR15_2.ext hE15_22
    replace hR15_3 := hR15_3.ext hE15_22
    replace hs15_4 := hs15_4.ext hE15_22
    replace hs15_5 := hs15_5.ext hE15_22
    replace hR15_8 := hR15_8.ext hE15_22
    replace hR15_9 := hR15_9.ext hE15_22
    replace hR15_10 := hR15_10.ext hE15_22
    replace hR15_11 := hR15_11.ext hE15_22
    replace hs15_12 := hs15_12.ext hE15_22
    replace hR15_16 := hR15_16.ext hE15_22
    replace hR15_17 := hR15_17.ext hE15_22
    replace hR15_18 := hR15_18.ext hE15_22
    replace hR15_19 := hR15_19.ext hE15_22
    replace hR15_20 := hR15_20.ext hE15_22
    replace hs15_21 := hs15_21.ext hE15_22
    replace hp := hp.ext hE15_22
    refine wl_pick (by decide) rfl rfl ?_
    refine wl_move (by decide) rfl ?_
    refine wl_gyes rfl rfl ?_
    refine wl_call (by decide) Try.cl27 rfl (mkw_ok (b := 1) (x := 1) (y := 9)) ?_
    rintro _ w15_25 ⟨cs15_25, rfl, hr15_25, hE15_25⟩
    have hR15_25 : RF opR (fun _ => True) w15_25 [cs15_25] [⟨true, [1], 1, 9⟩] := RF.one (opR.mono (fun _ _ _ => trivial) hr15_25)
    replace hR := hR.ext hE15_25
    replace hm := hm.ext hE15_25
    replace hm14 := hm14.ext hE15_25
    replace hR1 := hR1.ext hE15_25
    replace hs1 := hs1.ext hE15_25
    replace hR2 := hR2.ext hE15_25
    replace hs2 := hs2.ext hE15_25
    replace hR3 := hR3.ext hE15_25
    replace hs3 := hs3.ext hE15_25
    replace hR15_0 := hR15_0.ext hE15_25
    replace hR15_1 := hR15_1.ext hE15_25
    replace hR15_2 := hR15_2.ext hE15_25
    replace hR15_3 := hR15_3.ext hE15_25
    replace hs15_4 := hs15_4.ext hE15_25
    replace hs15_5 := hs15_5.ext hE15_25
    replace hR15_8 := hR15_8.ext hE15_25
    replace hR15_9 := hR15_9.ext hE15_25
    replace hR15_10 := hR15_10.ext hE15_25
    replace hR15_11 := hR15_11.ext hE15_25
    replace hs15_12 := hs15_12.ext hE15_25
    replace hR15_16 := hR15_16.ext hE15_25
    replace hR15_17 := hR15_17.ext hE15_25
    replace hR15_18 := hR15_18.ext hE15_25
    replace hR15_19 := hR15_19.ext hE15_25
    replace hR15_20 := hR15_20.ext hE15_25
    replace hs15_21 := hs15_21.ext hE15_25
    replace hp := hp.ext hE15_25
    refine wl_gyes rfl rfl ?_
    refine wl_call (by decide) Try.cl27 rfl (mkw_ok (b := 2) (x := 1) (y := 9)) ?_
    rintro _ w15_26 ⟨cs15_26, rfl, hr15_26, hE15_26⟩
    have hR15_26 : RF opR (fun _ => True) w15_26 [cs15_26] [⟨true, [2], 1, 9⟩] := RF.one (opR.mono (fun _ _ _ => trivial) hr15_26)
    replace hR := hR.ext hE15_26
    replace hm := hm.ext hE15_26
    replace hm14 := hm14.ext hE15_26
    replace hR1 := hR1.ext hE15_26
    replace hs1 := hs1.ext hE15_26
    replace hR2 := hR2.ext hE15_26
    replace hs2 := hs2.ext hE15_26
    replace hR3 := hR3.ext hE15_26
    replace hs3 := hs3.ext hE15_26
    replace hR15_0 := hR15_0.ext hE15_26
    replace hR15_1 := hR15_1.ext hE15_26
    replace hR15_2 := hR15_2.ext hE15_26
    replace hR15_3 := hR15_3.ext hE15_26
    replace hs15_4 := hs15_4.ext hE15_26
    replace hs15_5 := hs15_5.ext hE15_26
    replace hR15_8 := hR15_8.ext hE15_26
    replace hR15_9 := hR15_9.ext hE15_26
    replace hR15_10 := hR15_10.ext hE15_26
    replace hR15_11 := hR15_11.ext hE15_26
    replace hs15_12 := hs15_12.ext hE15_26
    replace hR15_16 := hR15_16.ext hE15_26
    replace hR15_17 := hR15_17.ext hE15_26
    replace hR15_18 := hR15_18.ext hE15_26
    replace hR15_19 := hR15_19.ext hE15_26
    replace hR15_20 := hR15_20.ext hE15_26
    replace hs15_21 := hs15_21.ext hE15_26
    replace hR15_25 := hR15_25.ext hE15_26
    replace hp := hp.ext hE15_26
    refine wl_gyes rfl rfl ?_
    refine wl_call (by decide) Try.cl26 rfl (mkr_ok (b := 1) (x := 2) (y := 3)) ?_
    rintro _ w15_27 ⟨cs15_27, rfl, hr15_27, hE15_27⟩
    have hR15_27 : RF opR (fun _ => True) w15_27 [cs15_27] [⟨false, [1], 2, 3⟩] := RF.one (opR.mono (fun _ _ _ => trivial) hr15_27)
    replace hR := hR.ext hE15_27
    replace hm := hm.ext hE15_27
    replace hm14 := hm14.ext hE15_27
    replace hR1 := hR1.ext hE15_27
    replace hs1 := hs1.ext hE15_27
    replace hR2 := hR2.ext hE15_27
    replace hs2 := hs2.ext hE15_27
    replace hR3 := hR3.ext hE15_27
    replace hs3 := hs3.ext hE15_27
    replace hR15_0 := hR15_0.ext hE15_27
    replace hR15_1 := hR15_1.ext hE15_27
    replace hR15_2 := hR15_2.ext hE15_27
    replace hR15_3 := hR15_3.ext hE15_27
    replace hs15_4 := hs15_4.ext hE15_27
    replace hs15_5 := hs15_5.ext hE15_27
    replace hR15_8 := hR15_8.ext hE15_27
    replace hR15_9 := hR15_9.ext hE15_27
    replace hR15_10 := hR15_10.ext hE15_27
    replace hR15_11 := hR15_11.ext hE15_27
    replace hs15_12 := hs15_12.ext hE15_27
    replace hR15_16 := hR15_16.ext hE15_27
    replace hR15_17 := hR15_17.ext hE15_27
    replace hR15_18 := hR15_18.ext hE15_27
    replace hR15_19 := hR15_19.ext hE15_27
    replace hR15_20 := hR15_20.ext hE15_27
    replace hs15_21 := hs15_21.ext hE15_27
    replace hR15_25 := hR15_25.ext hE15_27
    replace hR15_26 := hR15_26.ext hE15_27
    replace hp := hp.ext hE15_27
    refine wl_gyes rfl rfl ?_
    refine wl_call (by decide) Try.cl26 rfl (mkr_ok (b := 2) (x := 4) (y := 5)) ?_
    rintro _ w15_28 ⟨cs15_28, rfl, hr15_28, hE15_28⟩
    have hR15_28 : RF opR (fun _ => True) w15_28 [cs15_28] [⟨false, [2], 4, 5⟩] := RF.one (opR.mono (fun _ _ _ => trivial) hr15_28)
    replace hR := hR.ext hE15_28
    replace hm := hm.ext hE15_28
    replace hm14 := hm14.ext hE15_28
    replace hR1 := hR1.ext hE15_28
    replace hs1 := hs1.ext hE15_28
    replace hR2 := hR2.ext hE15_28
    replace hs2 := hs2.ext hE15_28
    replace hR3 := hR3.ext hE15_28
    replace hs3 := hs3.ext hE15_28
    replace hR15_0 := hR15_0.ext hE15_28
    replace hR15_1 := hR15_1.ext hE15_28
    replace hR15_2 := hR15_2.ext hE15_28
    replace hR15_3 := hR15_3.ext hE15_28
    replace hs15_4 := hs15_4.ext hE15_28
    replace hs15_5 := hs15_5.ext hE15_28
    replace hR15_8 := hR15_8.ext hE15_28
    replace hR15_9 := hR15_9.ext hE15_28
    replace hR15_10 := hR15_10.ext hE15_28
    replace hR15_11 := hR15_11.ext hE15_28
    replace hs15_12 := hs15_12.ext hE15_28
    replace hR15_16 := hR15_16.ext hE15_28
    replace hR15_17 := hR15_17.ext hE15_28
    replace hR15_18 := hR15_18.ext hE15_28
    replace hR15_19 := hR15_19.ext hE15_28
    replace hR15_20 := hR15_20.ext hE15_28
    replace hs15_21 := hs15_21.ext hE15_28
    replace hR15_25 := hR15_25.ext hE15_28
    replace hR15_26 := hR15_26.ext hE15_28
    replace hR15_27 := hR15_27.ext hE15_28
    replace hp := hp.ext hE15_28
    refine wl_gyes rfl rfl ?_
    refine wl_bsliceR (r := opR) (css := [cs15_25, cs15_26, cs15_27, cs15_28]) (l := [⟨true, [1], 1, 9⟩, ⟨true, [2], 1, 9⟩, ⟨false, [1], 2, 3⟩, ⟨false, [2], 4, 5⟩]) (xs := [.tmp 140, .tmp 141, .tmp 142, .tmp 143]) (by decide) Try.sl22 rfl rfl (hR15_25.append (hR15_26.append (hR15_27.append hR15_28))) rfl (by simp) (Nat.le_of_ble_eq_true rfl) ?_
    rintro g15_29 w15_29 _ hs15_29 hE15_29
    replace hs15_29 := hs15_29.any
    replace hR := hR.ext hE15_29
    replace hm := hm.ext hE15_29
    replace hm14 := hm14.ext hE15_29
    replace hR1 := hR1.ext hE15_29
    replace hs1 := hs1.ext hE15_29
    replace hR2 := hR2.ext hE15_29
    replace hs2 := hs2.ext hE15_29
    replace hR3 := hR3.ext hE15_29
    replace hs3 := hs3.ext hE15_29
    replace hR15_0 := hR15_0.ext hE15_29
    replace hR15_1 := hR15_1.ext hE15_29
    replace hR15_2 := hR15_2.ext hE15_29
    replace hR15_3 := hR15_3.ext hE15_29
    replace hs15_4 := hs15_4.ext hE15_29
    replace hs15_5 := hs15_5.ext hE15_29
    replace hR15_8 := hR15_8.ext hE15_29
    replace hR15_9 := hR15_9.ext hE15_29
    replace hR15_10 := hR15_10.ext hE15_29
    replace hR15_11 := hR15_11.ext hE15_29
    replace hs15_12 := hs15_12.ext hE15_29
    replace hR15_16 := hR15_16.ext hE15_29
    replace hR15_17 := hR15_17.ext hE15_29
    replace hR15_18 := hR15_18.ext hE15_29
    replace hR15_19 := hR15_19.ext hE15_29
    replace hR15_20 := hR15_20.ext hE15_29
    replace hs15_21 := hs15_21.ext hE15_29
    replace hR15_25 := hR15_25.ext hE15_29
    replace hR15_26 := hR15_26.ext hE15_29
    replace hR15_27 := hR15_27.ext hE15_29
    replace hR15_28 := hR15_28.ext hE15_29
    replace hp := hp.ext hE15_29
    refine wl_gyes rfl rfl ?_
    refine wl_bsliceE (enc := fun z : Int => .int .i64 z) (xs := [.const (.int .i64 0), .const (.int .i64 2), .const (.int .i64 1), .const (.int .i64 3)]) (bs := [0, 2, 1, 3]) (fun _ => rfl) (by decide) Try.sl33 rfl rfl rfl (by simp) _ (Nat.le_refl _) ?_
    rintro g15_30 w15_30 _ ho15_30 hE15_30
    have hs15_30 : IS (fun _ => True) _ _ _ [0, 2, 1, 3] := (OwnRow.gs1 ho15_30).any
    replace hR := hR.ext hE15_30
    replace hm := hm.ext hE15_30
    replace hm14 := hm14.ext hE15_30
    replace hR1 := hR1.ext hE15_30
    replace hs1 := hs1.ext hE15_30
    replace hR2 := hR2.ext hE15_30
    replace hs2 := hs2.ext hE15_30
    replace hR3 := hR3.ext hE15_30
    replace hs3 := hs3.ext hE15_30
    replace hR15_0 := hR15_0.ext hE15_30
    replace hR15_1 := hR15_1.ext hE15_30
    replace hR15_2 := hR15_2.ext hE15_30
    replace hR15_3 := hR15_3.ext hE15_30
    replace hs15_4 := hs15_4.ext hE15_30
    replace hs15_5 := hs15_5.ext hE15_30
    replace hR15_8 := hR15_8.ext hE15_30
    replace hR15_9 := hR15_9.ext hE15_30
    replace hR15_10 := hR15_10.ext hE15_30
    replace hR15_11 := hR15_11.ext hE15_30
    replace hs15_12 := hs15_12.ext hE15_30
    replace hR15_16 := hR15_16.ext hE15_30
    replace hR15_17 := hR15_17.ext hE15_30
    replace hR15_18 := hR15_18.ext hE15_30
    replace hR15_19 := hR15_19.ext hE15_30
    replace hR15_20 := hR15_20.ext hE15_30
    replace hs15_21 := hs15_21.ext hE15_30
    replace hR15_25 := hR15_25.ext hE15_30
    replace hR15_26 := hR15_26.ext hE15_30
    replace hR15_27 := hR15_27.ext hE15_30
    replace hR15_28 := hR15_28.ext hE15_30
    replace hs15_29 := hs15_29.ext hE15_30
    replace hp := hp.ext hE15_30
    refine wl_gyes rfl rfl ?_
    have hcl := tells_ok (H := [⟨true, [1], 1, 9⟩, ⟨true, [2], 1, 9⟩, ⟨false, [1], 2, 3⟩, ⟨false, [2], 4, 5⟩]) (want := [0, 2, 1, 3]) (q := [0, 2, 1, 3]) (b := true) hs15_29 hs15_30 (by decide +kernel) rfl rfl
    refine wl_call (by decide) Try.cl28 rfl hcl ?_
    clear hcl
    rintro _ w15_31 ⟨rfl, hE15_31⟩
    replace hR := hR.ext hE15_31
    replace hm := hm.ext hE15_31
    replace hm14 := hm14.ext hE15_31
    replace hR1 := hR1.ext hE15_31
    replace hs1 := hs1.ext hE15_31
    replace hR2 := hR2.ext hE15_31
    replace hs2 := hs2.ext hE15_31
    replace hR3 := hR3.ext hE15_31
    replace hs3 := hs3.ext hE15_31
    replace hR15_0 := hR15_0.ext hE15_31
    replace hR15_1 := hR15_1.ext hE15_31
    replace hR15_2 := hR15_2.ext hE15_31
    replace hR15_3 := hR15_3.ext hE15_31
    replace hs15_4 := hs15_4.ext hE15_31
    replace hs15_5 := hs15_5.ext hE15_31
    replace hR15_8 := hR15_8.ext hE15_31
    replace hR15_9 := hR15_9.ext hE15_31
    replace hR15_10 := hR15_10.ext hE15_31
    replace hR15_11 := hR15_11.ext hE15_31
    replace hs15_12 := hs15_12.ext hE15_31
    replace hR15_16 := hR15_16.ext hE15_31
    replace hR15_17 := hR15_17.ext hE15_31
    replace hR15_18 := hR15_18.ext hE15_31
    replace hR15_19 := hR15_19.ext hE15_31
    replace hR15_20 := hR15_20.ext hE15_31
    replace hs15_21 := hs15_21.ext hE15_31
    replace hR15_25 := hR15_25.ext hE15_31
    replace hR15_26 := hR15_26.ext hE15_31
    replace hR15_27 := hR15_27.ext hE15_31
    replace hR15_28 := hR15_28.ext hE15_31
    replace hs15_29 := hs15_29.ext hE15_31
    replace hs15_30 := hs15_30.ext hE15_31
    replace hp := hp.ext hE15_31
    refine wl_pick (by decide) rfl rfl ?_
    refine wl_assign (by decide) rfl ?_
    refine wl_nil ?_
    refine wk_norm ?_
    refine wc_seq ?_
    refine wc_region ?_
    refine wl_call (by decide) Try.cl27 rfl (mkw_ok (b := 1) (x := 1) (y := 5)) ?_
    rintro _ w16_0 ⟨cs16_0, rfl, hr16_0, hE16_0⟩
    have hR16_0 : RF opR (fun _ => True) w16_0 [cs16_0] [⟨true, [1], 1, 5⟩] := RF.one (opR.mono (fun _ _ _ => trivial) hr16_0)
    replace hR := hR.ext hE16_0
    replace hm := hm.ext hE16_0
    replace hm14 := hm14.ext hE16_0
    replace hR1 := hR1.ext hE16_0
    replace hs1 := hs1.ext hE16_0
    replace hR2 := hR2.ext hE16_0
    replace hs2 := hs2.ext hE16_0
    replace hR3 := hR3.ext hE16_0
    replace hs3 := hs3.ext hE16_0
    replace hR15_0 := hR15_0.ext hE16_0
    replace hR15_1 := hR15_1.ext hE16_0
    replace hR15_2 := hR15_2.ext hE16_0
    replace hR15_3 := hR15_3.ext hE16_0
    replace hs15_4 := hs15_4.ext hE16_0
    replace hs15_5 := hs15_5.ext hE16_0
    replace hR15_8 := hR15_8.ext hE16_0
    replace hR15_9 := hR15_9.ext hE16_0
    replace hR15_10 := hR15_10.ext hE16_0
    replace hR15_11 := hR15_11.ext hE16_0
    replace hs15_12 := hs15_12.ext hE16_0
    replace hR15_16 := hR15_16.ext hE16_0
    replace hR15_17 := hR15_17.ext hE16_0
    replace hR15_18 := hR15_18.ext hE16_0
    replace hR15_19 := hR15_19.ext hE16_0
    replace hR15_20 := hR15_20.ext hE16_0
    replace hs15_21 := hs15_21.ext hE16_0
    replace hR15_25 := hR15_25.ext hE16_0
    replace hR15_26 := hR15_26.ext hE16_0
    replace hR15_27 := hR15_27.ext hE16_0
    replace hR15_28 := hR15_28.ext hE16_0
    replace hs15_29 := hs15_29.ext hE16_0
    replace hs15_30 := hs15_30.ext hE16_0
    replace hp := hp.ext hE16_0
    refine wl_call (by decide) Try.cl26 rfl (mkr_ok (b := 0) (x := 5) (y := 9)) ?_
    rintro _ w16_1 ⟨cs16_1, rfl, hr16_1, hE16_1⟩
    have hR16_1 : RF opR (fun _ => True) w16_1 [cs16_1] [⟨false, [0], 5, 9⟩] := RF.one (opR.mono (fun _ _ _ => trivial) hr16_1)
    replace hR := hR.ext hE16_1
    replace hm := hm.ext hE16_1
    replace hm14 := hm14.ext hE16_1
    replace hR1 := hR1.ext hE16_1
    replace hs1 := hs1.ext hE16_1
    replace hR2 := hR2.ext hE16_1
    replace hs2 := hs2.ext hE16_1
    replace hR3 := hR3.ext hE16_1
    replace hs3 := hs3.ext hE16_1
    replace hR15_0 := hR15_0.ext hE16_1
    replace hR15_1 := hR15_1.ext hE16_1
    replace hR15_2 := hR15_2.ext hE16_1
    replace hR15_3 := hR15_3.ext hE16_1
    replace hs15_4 := hs15_4.ext hE16_1
    replace hs15_5 := hs15_5.ext hE16_1
    replace hR15_8 := hR15_8.ext hE16_1
    replace hR15_9 := hR15_9.ext hE16_1
    replace hR15_10 := hR15_10.ext hE16_1
    replace hR15_11 := hR15_11.ext hE16_1
    replace hs15_12 := hs15_12.ext hE16_1
    replace hR15_16 := hR15_16.ext hE16_1
    replace hR15_17 := hR15_17.ext hE16_1
    replace hR15_18 := hR15_18.ext hE16_1
    replace hR15_19 := hR15_19.ext hE16_1
    replace hR15_20 := hR15_20.ext hE16_1
    replace hs15_21 := hs15_21.ext hE16_1
    replace hR15_25 := hR15_25.ext hE16_1
    replace hR15_26 := hR15_26.ext hE16_1
    replace hR15_27 := hR15_27.ext hE16_1
    replace hR15_28 := hR15_28.ext hE16_1
    replace hs15_29 := hs15_29.ext hE16_1
    replace hs15_30 := hs15_30.ext hE16_1
    replace hR16_0 := hR16_0.ext hE16_1
    replace hp := hp.ext hE16_1
    refine wl_bsliceR (r := opR) (css := [cs16_0, cs16_1]) (l := [⟨true, [1], 1, 5⟩, ⟨false, [0], 5, 9⟩]) (xs := [.tmp 148, .tmp 149]) (by decide) Try.sl22 rfl rfl (hR16_0.append hR16_1) rfl (by simp) (Nat.le_of_ble_eq_true rfl) ?_
    rintro g16_2 w16_2 _ hs16_2 hE16_2
    replace hs16_2 := hs16_2.any
    replace hR := hR.ext hE16_2
    replace hm := hm.ext hE16_2
    replace hm14 := hm14.ext hE16_2
    replace hR1 := hR1.ext hE16_2
    replace hs1 := hs1.ext hE16_2
    replace hR2 := hR2.ext hE16_2
    replace hs2 := hs2.ext hE16_2
    replace hR3 := hR3.ext hE16_2
    replace hs3 := hs3.ext hE16_2
    replace hR15_0 := hR15_0.ext hE16_2
    replace hR15_1 := hR15_1.ext hE16_2
    replace hR15_2 := hR15_2.ext hE16_2
    replace hR15_3 := hR15_3.ext hE16_2
    replace hs15_4 := hs15_4.ext hE16_2
    replace hs15_5 := hs15_5.ext hE16_2
    replace hR15_8 := hR15_8.ext hE16_2
    replace hR15_9 := hR15_9.ext hE16_2
    replace hR15_10 := hR15_10.ext hE16_2
    replace hR15_11 := hR15_11.ext hE16_2
    replace hs15_12 := hs15_12.ext hE16_2
    replace hR15_16 := hR15_16.ext hE16_2
    replace hR15_17 := hR15_17.ext hE16_2
    replace hR15_18 := hR15_18.ext hE16_2
    replace hR15_19 := hR15_19.ext hE16_2
    replace hR15_20 := hR15_20.ext hE16_2
    replace hs15_21 := hs15_21.ext hE16_2
    replace hR15_25 := hR15_25.ext hE16_2
    replace hR15_26 := hR15_26.ext hE16_2
    replace hR15_27 := hR15_27.ext hE16_2
    replace hR15_28 := hR15_28.ext hE16_2
    replace hs15_29 := hs15_29.ext hE16_2
    replace hs15_30 := hs15_30.ext hE16_2
    replace hR16_0 := hR16_0.ext hE16_2
    replace hR16_1 := hR16_1.ext hE16_2
    replace hp := hp.ext hE16_2
    refine wl_bsliceE (enc := fun z : Int => .int .i64 z) (xs := [.const (.int .i64 1), .const (.int .i64 0)]) (bs := [1, 0]) (fun _ => rfl) (by decide) Try.sl33 rfl rfl rfl (by simp) _ (Nat.le_refl _) ?_
    rintro g16_3 w16_3 _ ho16_3 hE16_3
    have hs16_3 : IS (fun _ => True) _ _ _ [1, 0] := (OwnRow.gs1 ho16_3).any
    replace hR := hR.ext hE16_3
    replace hm := hm.ext hE16_3
    replace hm14 := hm14.ext hE16_3
    replace hR1 := hR1.ext hE16_3
    replace hs1 := hs1.ext hE16_3
    replace hR2 := hR2.ext hE16_3
    replace hs2 := hs2.ext hE16_3
    replace hR3 := hR3.ext hE16_3
    replace hs3 := hs3.ext hE16_3
    replace hR15_0 := hR15_0.ext hE16_3
    replace hR15_1 := hR15_1.ext hE16_3
    replace hR15_2 := hR15_2.ext hE16_3
    replace hR15_3 := hR15_3.ext hE16_3
    replace hs15_4 := hs15_4.ext hE16_3
    replace hs15_5 := hs15_5.ext hE16_3
    replace hR15_8 := hR15_8.ext hE16_3
    replace hR15_9 := hR15_9.ext hE16_3
    replace hR15_10 := hR15_10.ext hE16_3
    replace hR15_11 := hR15_11.ext hE16_3
    replace hs15_12 := hs15_12.ext hE16_3
    replace hR15_16 := hR15_16.ext hE16_3
    replace hR15_17 := hR15_17.ext hE16_3
    replace hR15_18 := hR15_18.ext hE16_3
    replace hR15_19 := hR15_19.ext hE16_3
    replace hR15_20 := hR15_20.ext hE16_3
    replace hs15_21 := hs15_21.ext hE16_3
    replace hR15_25 := hR15_25.ext hE16_3
    replace hR15_26 := hR15_26.ext hE16_3
    replace hR15_27 := hR15_27.ext hE16_3
    replace hR15_28 := hR15_28.ext hE16_3
    replace hs15_29 := hs15_29.ext hE16_3
    replace hs15_30 := hs15_30.ext hE16_3
    replace hR16_0 := hR16_0.ext hE16_3
    replace hR16_1 := hR16_1.ext hE16_3
    replace hs16_2 := hs16_2.ext hE16_3
    replace hp := hp.ext hE16_3
    have hcl := tells_ok (H := [⟨true, [1], 1, 5⟩, ⟨false, [0], 5, 9⟩]) (want := [1, 0]) (q := [1, 0]) (b := true) hs16_2 hs16_3 (by decide +kernel) rfl rfl
    refine wl_call (by decide) Try.cl28 rfl hcl ?_
    clear hcl
    rintro _ w16_4 ⟨rfl, hE16_4⟩
    replace hR := hR.ext hE16_4
    replace hm := hm.ext hE16_4
    replace hm14 := hm14.ext hE16_4
    replace hR1 := hR1.ext hE16_4
    replace hs1 := hs1.ext hE16_4
    replace hR2 := hR2.ext hE16_4
    replace hs2 := hs2.ext hE16_4
    replace hR3 := hR3.ext hE16_4
    replace hs3 := hs3.ext hE16_4
    replace hR15_0 := hR15_0.ext hE16_4
    replace hR15_1 := hR15_1.ext hE16_4
    replace hR15_2 := hR15_2.ext hE16_4
    replace hR15_3 := hR15_3.ext hE16_4
    replace hs15_4 := hs15_4.ext hE16_4
    replace hs15_5 := hs15_5.ext hE16_4
    replace hR15_8 := hR15_8.ext hE16_4
    replace hR15_9 := hR15_9.ext hE16_4
    replace hR15_10 := hR15_10.ext hE16_4
    replace hR15_11 := hR15_11.ext hE16_4
    replace hs15_12 := hs15_12.ext hE16_4
    replace hR15_16 := hR15_16.ext hE16_4
    replace hR15_17 := hR15_17.ext hE16_4
    replace hR15_18 := hR15_18.ext hE16_4
    replace hR15_19 := hR15_19.ext hE16_4
    replace hR15_20 := hR15_20.ext hE16_4
    replace hs15_21 := hs15_21.ext hE16_4
    replace hR15_25 := hR15_25.ext hE16_4
    replace hR15_26 := hR15_26.ext hE16_4
    replace hR15_27 := hR15_27.ext hE16_4
    replace hR15_28 := hR15_28.ext hE16_4
    replace hs15_29 := hs15_29.ext hE16_4
    replace hs15_30 := hs15_30.ext hE16_4
    replace hR16_0 := hR16_0.ext hE16_4
    replace hR16_1 := hR16_1.ext hE16_4
    replace hs16_2 := hs16_2.ext hE16_4
    replace hs16_3 := hs16_3.ext hE16_4
    replace hp := hp.ext hE16_4
    refine wl_move (by decide) rfl ?_
    refine wl_gyes rfl rfl ?_
    refine wl_call (by decide) Try.cl27 rfl (mkw_ok (b := 1) (x := 1) (y := 5)) ?_
    rintro _ w16_6 ⟨cs16_6, rfl, hr16_6, hE16_6⟩
    have hR16_6 : RF opR (fun _ => True) w16_6 [cs16_6] [⟨true, [1], 1, 5⟩] := RF.one (opR.mono (fun _ _ _ => trivial) hr16_6)
    replace hR := hR.ext hE16_6
    replace hm := hm.ext hE16_6
    replace hm14 := hm14.ext hE16_6
    replace hR1 := hR1.ext hE16_6
    replace hs1 := hs1.ext hE16_6
    replace hR2 := hR2.ext hE16_6
    replace hs2 := hs2.ext hE16_6
    replace hR3 := hR3.ext hE16_6
    replace hs3 := hs3.ext hE16_6
    replace hR15_0 := hR15_0.ext hE16_6
    replace hR15_1 := hR15_1.ext hE16_6
    replace hR15_2 := hR15_2.ext hE16_6
    replace hR15_3 := hR15_3.ext hE16_6
    replace hs15_4 := hs15_4.ext hE16_6
    replace hs15_5 := hs15_5.ext hE16_6
    replace hR15_8 := hR15_8.ext hE16_6
    replace hR15_9 := hR15_9.ext hE16_6
    replace hR15_10 := hR15_10.ext hE16_6
    replace hR15_11 := hR15_11.ext hE16_6
    replace hs15_12 := hs15_12.ext hE16_6
    replace hR15_16 := hR15_16.ext hE16_6
    replace hR15_17 := hR15_17.ext hE16_6
    replace hR15_18 := hR15_18.ext hE16_6
    replace hR15_19 := hR15_19.ext hE16_6
    replace hR15_20 := hR15_20.ext hE16_6
    replace hs15_21 := hs15_21.ext hE16_6
    replace hR15_25 := hR15_25.ext hE16_6
    replace hR15_26 := hR15_26.ext hE16_6
    replace hR15_27 := hR15_27.ext hE16_6
    replace hR15_28 := hR15_28.ext hE16_6
    replace hs15_29 := hs15_29.ext hE16_6
    replace hs15_30 := hs15_30.ext hE16_6
    replace hR16_0 := hR16_0.ext hE16_6
    replace hR16_1 := hR16_1.ext hE16_6
    replace hs16_2 := hs16_2.ext hE16_6
    replace hs16_3 := hs16_3.ext hE16_6
    replace hp := hp.ext hE16_6
    refine wl_gyes rfl rfl ?_
    refine wl_call (by decide) Try.cl26 rfl (mkr_ok (b := 0) (x := 6) (y := 9)) ?_
    rintro _ w16_7 ⟨cs16_7, rfl, hr16_7, hE16_7⟩
    have hR16_7 : RF opR (fun _ => True) w16_7 [cs16_7] [⟨false, [0], 6, 9⟩] := RF.one (opR.mono (fun _ _ _ => trivial) hr16_7)
    replace hR := hR.ext hE16_7
    replace hm := hm.ext hE16_7
    replace hm14 := hm14.ext hE16_7
    replace hR1 := hR1.ext hE16_7
    replace hs1 := hs1.ext hE16_7
    replace hR2 := hR2.ext hE16_7
    replace hs2 := hs2.ext hE16_7
    replace hR3 := hR3.ext hE16_7
    replace hs3 := hs3.ext hE16_7
    replace hR15_0 := hR15_0.ext hE16_7
    replace hR15_1 := hR15_1.ext hE16_7
    replace hR15_2 := hR15_2.ext hE16_7
    replace hR15_3 := hR15_3.ext hE16_7
    replace hs15_4 := hs15_4.ext hE16_7
    replace hs15_5 := hs15_5.ext hE16_7
    replace hR15_8 := hR15_8.ext hE16_7
    replace hR15_9 := hR15_9.ext hE16_7
    replace hR15_10 := hR15_10.ext hE16_7
    replace hR15_11 := hR15_11.ext hE16_7
    replace hs15_12 := hs15_12.ext hE16_7
    replace hR15_16 := hR15_16.ext hE16_7
    replace hR15_17 := hR15_17.ext hE16_7
    replace hR15_18 := hR15_18.ext hE16_7
    replace hR15_19 := hR15_19.ext hE16_7
    replace hR15_20 := hR15_20.ext hE16_7
    replace hs15_21 := hs15_21.ext hE16_7
    replace hR15_25 := hR15_25.ext hE16_7
    replace hR15_26 := hR15_26.ext hE16_7
    replace hR15_27 := hR15_27.ext hE16_7
    replace hR15_28 := hR15_28.ext hE16_7
    replace hs15_29 := hs15_29.ext hE16_7
    replace hs15_30 := hs15_30.ext hE16_7
    replace hR16_0 := hR16_0.ext hE16_7
    replace hR16_1 := hR16_1.ext hE16_7
    replace hs16_2 := hs16_2.ext hE16_7
    replace hs16_3 := hs16_3.ext hE16_7
    replace hR16_6 := hR16_6.ext hE16_7
    replace hp := hp.ext hE16_7
    refine wl_gyes rfl rfl ?_
    refine wl_bsliceR (r := opR) (css := [cs16_6, cs16_7]) (l := [⟨true, [1], 1, 5⟩, ⟨false, [0], 6, 9⟩]) (xs := [.tmp 154, .tmp 155]) (by decide) Try.sl22 rfl rfl (hR16_6.append hR16_7) rfl (by simp) (Nat.le_of_ble_eq_true rfl) ?_
    rintro g16_8 w16_8 _ hs16_8 hE16_8
    replace hs16_8 := hs16_8.any
    replace hR := hR.ext hE16_8
    replace hm := hm.ext hE16_8
    replace hm14 := hm14.ext hE16_8
    replace hR1 := hR1.ext hE16_8
    replace hs1 := hs1.ext hE16_8
    replace hR2 := hR2.ext hE16_8
    replace hs2 := hs2.ext hE16_8
    replace hR3 := hR3.ext hE16_8
    replace hs3 := hs3.ext hE16_8
    replace hR15_0 := hR15_0.ext hE16_8
    replace hR15_1 := hR15_1.ext hE16_8
    replace hR15_2 := hR15_2.ext hE16_8
    replace hR15_3 := hR15_3.ext hE16_8
    replace hs15_4 := hs15_4.ext hE16_8
    replace hs15_5 := hs15_5.ext hE16_8
    replace hR15_8 := hR15_8.ext hE16_8
    replace hR15_9 := hR15_9.ext hE16_8
    replace hR15_10 := hR15_10.ext hE16_8
    replace hR15_11 := hR15_11.ext hE16_8
    replace hs15_12 := hs15_12.ext hE16_8
    replace hR15_16 := hR15_16.ext hE16_8
    replace hR15_17 := hR15_17.ext hE16_8
    replace hR15_18 := hR15_18.ext hE16_8
    replace hR15_19 := hR15_19.ext hE16_8
    replace hR15_20 := hR15_20.ext hE16_8
    replace hs15_21 := hs15_21.ext hE16_8
    replace hR15_25 := hR15_25.ext hE16_8
    replace hR15_26 := hR15_26.ext hE16_8
    replace hR15_27 := hR15_27.ext hE16_8
    replace hR15_28 := hR15_28.ext hE16_8
    replace hs15_29 := hs15_29.ext hE16_8
    replace hs15_30 := hs15_30.ext hE16_8
    replace hR16_0 := hR16_0.ext hE16_8
    replace hR16_1 := hR16_1.ext hE16_8
    replace hs16_2 := hs16_2.ext hE16_8
    replace hs16_3 := hs16_3.ext hE16_8
    replace hR16_6 := hR16_6.ext hE16_8
    replace hR16_7 := hR16_7.ext hE16_8
    replace hp := hp.ext hE16_8
    refine wl_gyes rfl rfl ?_
    have hcl := tells_ok (H := [⟨true, [1], 1, 5⟩, ⟨false, [0], 6, 9⟩]) (want := []) (q := []) (b := false) hs16_8 (GS.nil intR (fun _ => True) _ none 0) (by decide +kernel) rfl rfl
    refine wl_call (by decide) Try.cl28 rfl hcl ?_
    clear hcl
    rintro _ w16_9 ⟨rfl, hE16_9⟩
    replace hR := hR.ext hE16_9
    replace hm := hm.ext hE16_9
    replace hm14 := hm14.ext hE16_9
    replace hR1 := hR1.ext hE16_9
    replace hs1 := hs1.ext hE16_9
    replace hR2 := hR2.ext hE16_9
    replace hs2 := hs2.ext hE16_9
    replace hR3 := hR3.ext hE16_9
    replace hs3 := hs3.ext hE16_9
    replace hR15_0 := hR15_0.ext hE16_9
    replace hR15_1 := hR15_1.ext hE16_9
    replace hR15_2 := hR15_2.ext hE16_9
    replace hR15_3 := hR15_3.ext hE16_9
    replace hs15_4 := hs15_4.ext hE16_9
    replace hs15_5 := hs15_5.ext hE16_9
    replace hR15_8 := hR15_8.ext hE16_9
    replace hR15_9 := hR15_9.ext hE16_9
    replace hR15_10 := hR15_10.ext hE16_9
    replace hR15_11 := hR15_11.ext hE16_9
    replace hs15_12 := hs15_12.ext hE16_9
    replace hR15_16 := hR15_16.ext hE16_9
    replace hR15_17 := hR15_17.ext hE16_9
    replace hR15_18 := hR15_18.ext hE16_9
    replace hR15_19 := hR15_19.ext hE16_9
    replace hR15_20 := hR15_20.ext hE16_9
    replace hs15_21 := hs15_21.ext hE16_9
    replace hR15_25 := hR15_25.ext hE16_9
    replace hR15_26 := hR15_26.ext hE16_9
    replace hR15_27 := hR15_27.ext hE16_9
    replace hR15_28 := hR15_28.ext hE16_9
    replace hs15_29 := hs15_29.ext hE16_9
    replace hs15_30 := hs15_30.ext hE16_9
    replace hR16_0 := hR16_0.ext hE16_9
    replace hR16_1 := hR16_1.ext hE16_9
    replace hs16_2 := hs16_2.ext hE16_9
    replace hs16_3 := hs16_3.ext hE16_9
    replace hR16_6 := hR16_6.ext hE16_9
    replace hR16_7 := hR16_7.ext hE16_9
    replace hs16_8 := hs16_8.ext hE16_9
    replace hp := hp.ext hE16_9
    refine wl_pick (by decide) rfl rfl ?_
    refine wl_assign (by decide) rfl ?_
    refine wl_nil ?_
    refine wk_norm ?_
    refine wc_seq ?_
    refine wc_region ?_
    refine wl_move (by decide) rfl ?_
    refine wl_gyes rfl rfl ?_
    refine wl_call (by decide) Try.cl16 rfl (works28_ok) ?_
    rintro _ w2 ⟨rfl, hE2⟩
    replace hR := hR.ext hE2
    replace hm := hm.ext hE2
    replace hm14 := hm14.ext hE2
    replace hR1 := hR1.ext hE2
    replace hs1 := hs1.ext hE2
    replace hR2 := hR2.ext hE2
    replace hs2 := hs2.ext hE2
    replace hR3 := hR3.ext hE2
    replace hs3 := hs3.ext hE2
    replace hR15_0 := hR15_0.ext hE2
    replace hR15_1 := hR15_1.ext hE2
    replace hR15_2 := hR15_2.ext hE2
    replace hR15_3 := hR15_3.ext hE2
    replace hs15_4 := hs15_4.ext hE2
    replace hs15_5 := hs15_5.ext hE2
    replace hR15_8 := hR15_8.ext hE2
    replace hR15_9 := hR15_9.ext hE2
    replace hR15_10 := hR15_10.ext hE2
    replace hR15_11 := hR15_11.ext hE2
    replace hs15_12 := hs15_12.ext hE2
    replace hR15_16 := hR15_16.ext hE2
    replace hR15_17 := hR15_17.ext hE2
    replace hR15_18 := hR15_18.ext hE2
    replace hR15_19 := hR15_19.ext hE2
    replace hR15_20 := hR15_20.ext hE2
    replace hs15_21 := hs15_21.ext hE2
    replace hR15_25 := hR15_25.ext hE2
    replace hR15_26 := hR15_26.ext hE2
    replace hR15_27 := hR15_27.ext hE2
    replace hR15_28 := hR15_28.ext hE2
    replace hs15_29 := hs15_29.ext hE2
    replace hs15_30 := hs15_30.ext hE2
    replace hR16_0 := hR16_0.ext hE2
    replace hR16_1 := hR16_1.ext hE2
    replace hs16_2 := hs16_2.ext hE2
    replace hs16_3 := hs16_3.ext hE2
    replace hR16_6 := hR16_6.ext hE2
    replace hR16_7 := hR16_7.ext hE2
    replace hs16_8 := hs16_8.ext hE2
    replace hp := hp.ext hE2
    refine wl_pick (by decide) rfl rfl ?_
    refine wl_move (by decide) rfl ?_
    refine wl_gyes rfl rfl ?_
    refine wl_move (by decide) rfl ?_
    refine wl_pick (by decide) rfl rfl ?_
    refine wl_move (by decide) rfl ?_
    refine wl_gyes rfl rfl ?_
    refine wl_move (by decide) rfl ?_
    refine wl_pick (by decide) rfl rfl ?_
    refine wl_move (by decide) rfl ?_
    refine wl_gyes rfl rfl ?_
    refine wl_move (by decide) rfl ?_
    refine wl_pick (by decide) rfl rfl ?_
    refine wl_move (by decide) rfl ?_
    refine wl_gyes rfl rfl ?_
    refine wl_move (by decide) rfl ?_
    refine wl_pick (by decide) rfl rfl ?_
    refine wl_assign (by decide) rfl ?_
    refine wl_nil ?_
    refine wk_norm ?_
    refine wc_ret ?_
    refine wk_post1 (.inl rfl) Try.results9 rfl ?_
    exact ⟨_, rfl, rfl, hp.chg⟩

end Go.Proofs.Ytnlpibfdobinoaa
