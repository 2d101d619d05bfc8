/- Lnr (printed by program: wip/gen) -/
import Derived.Test.YtnlpibfdobinoaaLnq
namespace Go.Proofs.Ytnlpibfdobinoaa
open Go.RowKit Go.Eng

theorem tells_ok {A B : Option Addr} {c d : Nat} {H : List HOp} {want : List Int} {S S2 : Nat → Prop} {w : World} {q : List Nat} {b : Bool} (h : HS S w A c H) (hw : IS S2 w B d want) (ho : ordS H [0] = (q, b, 0)) (hq : want = nats q) (hb : b = decide (0 < q.length)) : Ret Try.prog 28 #[.slice A H.length c, .slice B want.length d] w (fun v w' => v = .bool true ∧ Ext w w') := by
  refine ret_of_wk Try.func28 rfl Try.ntmps28 (Nat.le_of_ble_eq_true rfl) ?_
  have hEc : Ext w w := Chg.refl _ _
  refine wc_seq ?_
  refine wc_region ?_
  refine wl_assign (by decide) rfl ?_
  refine wl_nil ?_
  refine wk_norm ?_
  refine wc_seq ?_
  refine wc_region ?_
  refine wl_move (by decide) rfl ?_
  refine wl_bsliceB (xs := [.const (.int .u8 0)]) (bs := [0]) (by decide) Try.sl23 rfl rfl rfl (by simp) _ (Nat.le_refl _) ?_
  rintro g1 w1 _ hs1 hE1
  replace hs1 := hs1.bs.any
  replace h := h.ext hE1
  replace hw := hw.ext hE1
  replace hEc := hEc.trans hE1
  have hcl := porder_ok h hs1
  refine wl_call (by decide) Try.cl17 rfl hcl ?_
  clear hcl
  rintro _ w2 ⟨A2, c2, rfl, ho2, hE2⟩
  replace h := h.ext hE2
  replace hw := hw.ext hE2
  replace hs1 := hs1.ext hE2
  replace hEc := hEc.trans hE2
  refine wl_move (by decide) rfl ?_
  refine wl_extract (by decide) rfl rfl ?_
  refine wl_extract (by decide) rfl rfl ?_
  refine wl_extract (by decide) rfl rfl ?_
  refine wl_assign (by decide) rfl ?_
  refine wl_assign (by decide) rfl ?_
  refine wl_assign (by decide) rfl ?_
  refine wl_nil ?_
  refine wk_norm ?_
  refine wc_seq ?_
  refine wc_region ?_
  refine wl_move (by decide) rfl ?_
  refine wl_bsliceB (xs := [.const (.int .u8 0)]) (bs := [0]) (by decide) Try.sl23 rfl rfl rfl (by simp) _ (Nat.le_refl _) ?_
  rintro g3 w3 _ hs3 hE3
  replace hs3 := hs3.bs.any
  replace h := h.ext hE3
  replace hw := hw.ext hE3
  replace hs1 := hs1.ext hE3
  replace ho2 := ho2.ext hE3
  replace hEc := hEc.trans hE3
  have hcl := plinear_ok h hs3
  refine wl_call (by decide) Try.cl19 rfl hcl ?_
  clear hcl
  rintro _ w4 ⟨rfl, hE4⟩
  replace h := h.ext hE4
  replace hw := hw.ext hE4
  replace hs1 := hs1.ext hE4
  replace ho2 := ho2.ext hE4
  replace hs3 := hs3.ext hE4
  replace hEc := hEc.trans hE4
  refine wl_move (by decide) rfl ?_
  refine wl_extract (by decide) rfl rfl ?_
  refine wl_extract (by decide) rfl rfl ?_
  refine wl_assign (by decide) rfl ?_
  refine wl_assign (by decide) rfl ?_
  refine wl_nil ?_
  refine wk_norm ?_
  refine wc_seq ?_
  refine wc_region ?_
  refine wl_move (by decide) rfl ?_
  refine wl_eql (by decide) rfl rfl ?_
  refine wl_re (k := 24) (v := .bool true) rfl (congrArg Value.bool (decide_eq_true (by rw [ho]))) ?_
  refine wl_move (by decide) rfl ?_
  refine wl_gyes rfl rfl ?_
  refine wl_move (by decide) rfl ?_
  refine wl_gyes rfl rfl ?_
  refine wl_eql (by decide) rfl rfl ?_
  refine wl_re (k := 27) (v := .bool true) rfl (congrArg Value.bool (decide_eq_true (by rw [ho]))) ?_
  refine wl_pick (by decide) rfl rfl ?_
  refine wl_move (by decide) rfl ?_
  refine wl_gyes rfl rfl ?_
  refine wl_move (by decide) rfl ?_
  refine wl_gyes rfl rfl ?_
  refine wl_move (by decide) rfl ?_
  refine wl_gyes rfl rfl ?_
  refine wl_eqlb (by decide) Try.bo4 rfl rfl ?_
  refine wl_re (k := 32) (v := .bool true) rfl (congrArg Value.bool (decide_eq_true (by rfl))) ?_
  refine wl_pick (by decide) rfl rfl ?_
  refine wl_move (by decide) rfl ?_
  refine wl_gyes rfl rfl ?_
  refine wl_move (by decide) rfl ?_
  refine wl_gyes rfl rfl ?_
  refine wl_move (by decide) rfl ?_
  refine wl_gyes rfl rfl ?_
  refine wl_len (by decide) Try.underlying33 rfl ?_
  refine wl_gyes rfl rfl ?_
  refine wl_gtr (by decide) rfl rfl ?_
  refine wl_gyes rfl rfl ?_
  refine wl_eqlb (by decide) Try.bo4 rfl rfl ?_
  refine wl_re (k := 39) (v := .bool true) rfl (congrArg Value.bool (decide_eq_true (by rw [ho, hb, hq, nats_len]; simp))) ?_
  refine wl_pick (by decide) rfl rfl ?_
  refine wl_move (by decide) rfl ?_
  refine wl_gyes rfl rfl ?_
  refine wl_move (by decide) rfl ?_
  refine wl_gyes rfl rfl ?_
  refine wl_move (by decide) rfl ?_
  refine wl_gyes rfl rfl ?_
  have hcl := eqInts_ok ho2 hw
  refine wl_call (by decide) Try.cl21 rfl hcl ?_
  clear hcl
  rintro _ w5 ⟨rfl, hE5⟩
  replace h := h.ext hE5
  replace hw := hw.ext hE5
  replace hs1 := hs1.ext hE5
  replace ho2 := ho2.ext hE5
  replace hs3 := hs3.ext hE5
  replace hEc := hEc.trans hE5
  refine wl_re (k := 44) (v := .bool true) rfl (congrArg Value.bool (decide_eq_true (by rw [ho, hq]))) ?_
  refine wl_pick (by decide) rfl rfl ?_
  refine wl_assign (by decide) rfl ?_
  refine wl_nil ?_
  refine wk_norm ?_
  refine wc_ret ?_
  refine wk_post1 (.inl rfl) Try.results28 rfl ?_
  exact ⟨_, rfl, rfl, hEc⟩

theorem works28_ok {w : World} : Ret Try.prog 16 #[] w (fun v w' => v = .bool true ∧ Ext w w') := by
  refine ret_of_wk Try.func16 rfl Try.ntmps16 (Nat.le_of_ble_eq_true rfl) ?_
  have hEc : Ext w w := Chg.refl _ _
  refine wc_seq ?_
  refine wc_region ?_
  refine wl_assign (by decide) rfl ?_
  refine wl_nil ?_
  refine wk_norm ?_
  refine wc_seq ?_
  refine wc_region ?_
  refine wl_call (by decide) Try.cl27 rfl (mkw_ok (b := 1) (x := 1) (y := 4)) ?_
  rintro _ w1_0 ⟨cs1_0, rfl, hr1_0, hE1_0⟩
  have hR1_0 : RF opR (fun _ => True) w1_0 [cs1_0] [⟨true, [1], 1, 4⟩] := RF.one (opR.mono (fun _ _ _ => trivial) hr1_0)
  replace hEc := hEc.trans hE1_0
  refine wl_call (by decide) Try.cl26 rfl (mkr_ok (b := 1) (x := 2) (y := 3)) ?_
  rintro _ w1_1 ⟨cs1_1, rfl, hr1_1, hE1_1⟩
  have hR1_1 : RF opR (fun _ => True) w1_1 [cs1_1] [⟨false, [1], 2, 3⟩] := RF.one (opR.mono (fun _ _ _ => trivial) hr1_1)
  replace hR1_0 := hR1_0.ext hE1_1
  replace hEc := hEc.trans hE1_1
  refine wl_bsliceR (r := opR) (css := [cs1_0, cs1_1]) (l := [⟨true, [1], 1, 4⟩, ⟨false, [1], 2, 3⟩]) (xs := [.tmp 1, .tmp 2]) (by decide) Try.sl22 rfl rfl (hR1_0.append hR1_1) rfl (by simp) (Nat.le_of_ble_eq_true rfl) ?_
  rintro g1_2 w1_2 _ hs1_2 hE1_2
  replace hs1_2 := hs1_2.any
  replace hR1_0 := hR1_0.ext hE1_2
  replace hR1_1 := hR1_1.ext hE1_2
  replace hEc := hEc.trans hE1_2
  refine wl_bsliceE (enc := fun z : Int => .int .i64 z) (xs := [.const (.int .i64 0), .const (.int .i64 1)]) (bs := [0, 1]) (fun _ => rfl) (by decide) Try.sl33 rfl rfl rfl (by simp) _ (Nat.le_refl _) ?_
  rintro g1_3 w1_3 _ ho1_3 hE1_3
  have hs1_3 : IS (fun _ => True) _ _ _ [0, 1] := (OwnRow.gs1 ho1_3).any
  replace hR1_0 := hR1_0.ext hE1_3
  replace hR1_1 := hR1_1.ext hE1_3
  replace hs1_2 := hs1_2.ext hE1_3
  replace hEc := hEc.trans hE1_3
  have hcl := tells_ok (H := [⟨true, [1], 1, 4⟩, ⟨false, [1], 2, 3⟩]) (want := [0, 1]) (q := [0, 1]) (b := true) hs1_2 hs1_3 (by decide +kernel) rfl rfl
  refine wl_call (by decide) Try.cl28 rfl hcl ?_
  clear hcl
  rintro _ w1_4 ⟨rfl, hE1_4⟩
  replace hR1_0 := hR1_0.ext hE1_4
  replace hR1_1 := hR1_1.ext hE1_4
  replace hs1_2 := hs1_2.ext hE1_4
  replace hs1_3 := hs1_3.ext hE1_4
  replace hEc := hEc.trans hE1_4
  refine wl_move (by decide) rfl ?_
  refine wl_gyes rfl rfl ?_
  refine wl_call (by decide) Try.cl27 rfl (mkw_ok (b := 1) (x := 1) (y := 2)) ?_
  rintro _ w1_6 ⟨cs1_6, rfl, hr1_6, hE1_6⟩
  have hR1_6 : RF opR (fun _ => True) w1_6 [cs1_6] [⟨true, [1], 1, 2⟩] := RF.one (opR.mono (fun _ _ _ => trivial) hr1_6)
  replace hR1_0 := hR1_0.ext hE1_6
  replace hR1_1 := hR1_1.ext hE1_6
  replace hs1_2 := hs1_2.ext hE1_6
  replace hs1_3 := hs1_3.ext hE1_6
  replace hEc := hEc.trans hE1_6
  refine wl_gyes rfl rfl ?_
  refine wl_call (by decide) Try.cl26 rfl (mkr_ok (b := 0) (x := 3) (y := 4)) ?_
  rintro _ w1_7 ⟨cs1_7, rfl, hr1_7, hE1_7⟩
  have hR1_7 : RF opR (fun _ => True) w1_7 [cs1_7] [⟨false, [0], 3, 4⟩] := RF.one (opR.mono (fun _ _ _ => trivial) hr1_7)
  replace hR1_0 := hR1_0.ext hE1_7
  replace hR1_1 := hR1_1.ext hE1_7
  replace hs1_2 := hs1_2.ext hE1_7
  replace hs1_3 := hs1_3.ext hE1_7
  replace hR1_6 := hR1_6.ext hE1_7
  replace hEc := hEc.trans hE1_7
  refine wl_gyes rfl rfl ?_
  refine wl_bsliceR (r := opR) (css := [cs1_6, cs1_7]) (l := [⟨true, [1], 1, 2⟩, ⟨false, [0], 3, 4⟩]) (xs := [.tmp 7, .tmp 8]) (by decide) Try.sl22 rfl rfl (hR1_6.append hR1_7) rfl (by simp) (Nat.le_of_ble_eq_true rfl) ?_
  rintro g1_8 w1_8 _ hs1_8 hE1_8
  replace hs1_8 := hs1_8.any
  replace hR1_0 := hR1_0.ext hE1_8
  replace hR1_1 := hR1_1.ext hE1_8
  replace hs1_2 := hs1_2.ext hE1_8
  replace hs1_3 := hs1_3.ext hE1_8
  replace hR1_6 := hR1_6.ext hE1_8
  replace hR1_7 := hR1_7.ext hE1_8
  replace hEc := hEc.trans hE1_8
  refine wl_gyes rfl rfl ?_
  have hcl := tells_ok (H := [⟨true, [1], 1, 2⟩, ⟨false, [0], 3, 4⟩]) (want := []) (q := []) (b := false) hs1_8 (GS.nil intR (fun _ => True) _ none 0) (by decide +kernel) rfl rfl
  refine wl_call (by decide) Try.cl28 rfl hcl ?_
  clear hcl
  rintro _ w1_9 ⟨rfl, hE1_9⟩
  replace hR1_0 := hR1_0.ext hE1_9
  replace hR1_1 := hR1_1.ext hE1_9
  replace hs1_2 := hs1_2.ext hE1_9
  replace hs1_3 := hs1_3.ext hE1_9
  replace hR1_6 := hR1_6.ext hE1_9
  replace hR1_7 := hR1_7.ext hE1_9
  replace hs1_8 := hs1_8.ext hE1_9
  replace hEc := hEc.trans hE1_9
  refine wl_pick (by decide) rfl rfl ?_
  refine wl_move (by decide) rfl ?_
  refine wl_gyes rfl rfl ?_
  refine wl_call (by decide) Try.cl27 rfl (mkw_ok (b := 1) (x := 1) (y := 0)) ?_
  rintro _ w1_12 ⟨cs1_12, rfl, hr1_12, hE1_12⟩
  have hR1_12 : RF opR (fun _ => True) w1_12 [cs1_12] [⟨true, [1], 1, 0⟩] := RF.one (opR.mono (fun _ _ _ => trivial) hr1_12)
  replace hR1_0 := hR1_0.ext hE1_12
  replace hR1_1 := hR1_1.ext hE1_12
  replace hs1_2 := hs1_2.ext hE1_12
  replace hs1_3 := hs1_3.ext hE1_12
  replace hR1_6 := hR1_6.ext hE1_12
  replace hR1_7 := hR1_7.ext hE1_12
  replace hs1_8 := hs1_8.ext hE1_12
  replace hEc := hEc.trans hE1_12
  refine wl_gyes rfl rfl ?_
  refine wl_call (by decide) Try.cl26 rfl (mkr_ok (b := 1) (x := 2) (y := 3)) ?_
  rintro _ w1_13 ⟨cs1_13, rfl, hr1_13, hE1_13⟩
  have hR1_13 : RF opR (fun _ => True) w1_13 [cs1_13] [⟨false, [1], 2, 3⟩] := RF.one (opR.mono (fun _ _ _ => trivial) hr1_13)
  replace hR1_0 := hR1_0.ext hE1_13
  replace hR1_1 := hR1_1.ext hE1_13
  replace hs1_2 := hs1_2.ext hE1_13
  replace hs1_3 := hs1_3.ext hE1_13
  replace hR1_6 := hR1_6.ext hE1_13
  replace hR1_7 := hR1_7.ext hE1_13
  replace hs1_8 := hs1_8.ext hE1_13
  replace hR1_12 := hR1_12.ext hE1_13
  replace hEc := hEc.trans hE1_13
  refine wl_gyes rfl rfl ?_
  refine wl_call (by decide) Try.cl26 rfl (mkr_ok (b := 1) (x := 4) (y := 5)) ?_
  rintro _ w1_14 ⟨cs1_14, rfl, hr1_14, hE1_14⟩
  have hR1_14 : RF opR (fun _ => True) w1_14 [cs1_14] [⟨false, [1], 4, 5⟩] := RF.one (opR.mono (fun _ _ _ => trivial) hr1_14)
  replace hR1_0 := hR1_0.ext hE1_14
  replace hR1_1 := hR1_1.ext hE1_14
  replace hs1_2 := hs1_2.ext hE1_14
  replace hs1_3 := hs1_3.ext hE1_14
  replace hR1_6 := hR1_6.ext hE1_14
  replace hR1_7 := hR1_7.ext hE1_14
  replace hs1_8 := hs1_8.ext hE1_14
  replace hR1_12 := hR1_12.ext hE1_14
  replace hR1_13 := hR1_13.ext hE1_14
  replace hEc := hEc.trans hE1_14
  refine wl_gyes rfl rfl ?_
  refine wl_bsliceR (r := opR) (css := [cs1_12, cs1_13, cs1_14]) (l := [⟨true, [1], 1, 0⟩, ⟨false, [1], 2, 3⟩, ⟨false, [1], 4, 5⟩]) (xs := [.tmp 13, .tmp 14, .tmp 15]) (by decide) Try.sl22 rfl rfl (hR1_12.append (hR1_13.append hR1_14)) rfl (by simp) (Nat.le_of_ble_eq_true rfl) ?_
  rintro g1_15 w1_15 _ hs1_15 hE1_15
  replace hs1_15 := hs1_15.any
  replace hR1_0 := hR1_0.ext hE1_15
  replace hR1_1 := hR1_1.ext hE1_15
  replace hs1_2 := hs1_2.ext hE1_15
  replace hs1_3 := hs1_3.ext hE1_15
  replace hR1_6 := hR1_6.ext hE1_15
  replace hR1_7 := hR1_7.ext hE1_15
  replace hs1_8 := hs1_8.ext hE1_15
  replace hR1_12 := hR1_12.ext hE1_15
  replace hR1_13 := hR1_13.ext hE1_15
  replace hR1_14 := hR1_14.ext hE1_15
  replace hEc := hEc.trans hE1_15
  refine wl_gyes rfl rfl ?_
  refine wl_bsliceE (enc := fun z : Int => .int .i64 z) (xs := [.const (.int .i64 0), .const (.int .i64 1), .const (.int .i64 2)]) (bs := [0, 1, 2]) (fun _ => rfl) (by decide) Try.sl33 rfl rfl rfl (by simp) _ (Nat.le_refl _) ?_
  rintro g1_16 w1_16 _ ho1_16 hE1_16
  have hs1_16 : IS (fun _ => True) _ _ _ [0, 1, 2] := (OwnRow.gs1 ho1_16).any
  replace hR1_0 := hR1_0.ext hE1_16
  replace hR1_1 := hR1_1.ext hE1_16
  replace hs1_2 := hs1_2.ext hE1_16
  replace hs1_3 := hs1_3.ext hE1_16
  replace hR1_6 := hR1_6.ext hE1_16
  replace hR1_7 := hR1_7.ext hE1_16
  replace hs1_8 := hs1_8.ext hE1_16
  replace hR1_12 := hR1_12.ext hE1_16
  replace hR1_13 := hR1_13.ext hE1_16
  replace hR1_14 := hR1_14.ext hE1_16
  replace hs1_15 := hs1_15.ext hE1_16
  replace hEc := hEc.trans hE1_16
  refine wl_gyes rfl rfl ?_
  have hcl := tells_ok (H := [⟨true, [1], 1, 0⟩, ⟨false, [1], 2, 3⟩, ⟨false, [1], 4, 5⟩]) (want := [0, 1, 2]) (q := [0, 1, 2]) (b := true) hs1_15 hs1_16 (by decide +kernel) rfl rfl
  refine wl_call (by decide) Try.cl28 rfl hcl ?_
  clear hcl
  rintro _ w1_17 ⟨rfl, hE1_17⟩
  replace hR1_0 := hR1_0.ext hE1_17
  replace hR1_1 := hR1_1.ext hE1_17
  replace hs1_2 := hs1_2.ext hE1_17
  replace hs1_3 := hs1_3.ext hE1_17
  replace hR1_6 := hR1_6.ext hE1_17
  replace hR1_7 := hR1_7.ext hE1_17
  replace hs1_8 := hs1_8.ext hE1_17
  replace hR1_12 := hR1_12.ext hE1_17
  replace hR1_13 := hR1_13.ext hE1_17
  replace hR1_14 := hR1_14.ext hE1_17
  replace hs1_15 := hs1_15.ext hE1_17
  replace hs1_16 := hs1_16.ext hE1_17
  replace hEc := hEc.trans hE1_17
  refine wl_pick (by decide) rfl rfl ?_
  refine wl_move (by decide) rfl ?_
  refine wl_gyes rfl rfl ?_
  refine wl_call (by decide) Try.cl27 rfl (mkw_ok (b := 1) (x := 1) (y := 0)) ?_
  rintro _ w1_20 ⟨cs1_20, rfl, hr1_20, hE1_20⟩
  have hR1_20 : RF opR (fun _ => True) w1_20 [cs1_20] [⟨true, [1], 1, 0⟩] := RF.one (opR.mono (fun _ _ _ => trivial) hr1_20)
  replace hR1_0 := hR1_0.ext hE1_20
  replace hR1_1 := hR1_1.ext hE1_20
  replace hs1_2 := hs1_2.ext hE1_20
  replace hs1_3 := hs1_3.ext hE1_20
  replace hR1_6 := hR1_6.ext hE1_20
  replace hR1_7 := hR1_7.ext hE1_20
  replace hs1_8 := hs1_8.ext hE1_20
  replace hR1_12 := hR1_12.ext hE1_20
  replace hR1_13 := hR1_13.ext hE1_20
  replace hR1_14 := hR1_14.ext hE1_20
  replace hs1_15 := hs1_15.ext hE1_20
  replace hs1_16 := hs1_16.ext hE1_20
  replace hEc := hEc.trans hE1_20
  refine wl_gyes rfl rfl ?_
  refine wl_call (by decide) Try.cl26 rfl (mkr_ok (b := 1) (x := 2) (y := 3)) ?_
  rintro _ w1_21 ⟨cs1_21, rfl, hr1_21, hE1_21⟩
  have hR1_21 : RF opR (fun _ => True) w1_21 [cs1_21] [⟨false, [1], 2, 3⟩] := RF.one (opR.mono (fun _ _ _ => trivial) hr1_21)
  replace hR1_0 := hR1_0.ext hE1_21
  replace hR1_1 := hR1_1.ext hE1_21
  replace hs1_2 := hs1_2.ext hE1_21
  replace hs1_3 := hs1_3.ext hE1_21
  replace hR1_6 := hR1_6.ext hE1_21
  replace hR1_7 := hR1_7.ext hE1_21
  replace hs1_8 := hs1_8.ext hE1_21
  replace hR1_12 := hR1_12.ext hE1_21
  replace hR1_13 := hR1_13.ext hE1_21
  replace hR1_14 := hR1_14.ext hE1_21
  replace hs1_15 := hs1_15.ext hE1_21
  replace hs1_16 := hs1_16.ext hE1_21
  replace hR1_20 := hR1_20.ext hE1_21
  replace hEc := hEc.trans hE1_21
  refine wl_gyes rfl rfl ?_
  refine wl_call (by decide) Try.cl26 rfl (mkr_ok (b := 0) (x := 4) (y := 5)) ?_
  rintro _ w1_22 ⟨cs1_22, rfl, hr1_22, hE1_22⟩
  have hR1_22 : RF opR (fun _ => True) w1_22 [cs1_22] [⟨false, [0], 4, 5⟩] := RF.one (opR.mono (fun _ _ _ => trivial) hr1_22)
  replace hR1_0 := hR1_0.ext hE1_22
  replace hR1_1 := hR1_1.ext hE1_22
  replace hs1_2 := hs1_2.ext hE1_22
  replace hs1_3 := hs1_3.ext hE1_22
  replace hR1_6 := hR1_6.ext hE1_22
  replace hR1_7 := hR1_7.ext hE1_22
  replace hs1_8 := hs1_8.ext hE1_22
  replace hR1_12 := hR1_12.ext hE1_22
  replace hR1_13 := hR1_13.ext hE1_22
  replace hR1_14 := hR1_14.ext hE1_22
  replace hs1_15 := hs1_15.ext hE1_22
  replace hs1_16 := hs1_16.ext hE1_22
  replace hR1_20 := hR1_20.ext hE1_22
  replace hR1_21 := hR1_21.ext hE1_22
  replace hEc := hEc.trans hE1_22
  refine wl_gyes rfl rfl ?_
  refine wl_bsliceR (r := opR) (css := [cs1_20, cs1_21, cs1_22]) (l := [⟨true, [1], 1, 0⟩, ⟨false, [1], 2, 3⟩, ⟨false, [0], 4, 5⟩]) (xs := [.tmp 21, .tmp 22, .tmp 23]) (by decide) Try.sl22 rfl rfl (hR1_20.append (hR1_21.append hR1_22)) rfl (by simp) (Nat.le_of_ble_eq_true rfl) ?_
  rintro g1_23 w1_23 _ hs1_23 hE1_23
  replace hs1_23 := hs1_23.any
  replace hR1_0 := hR1_0.ext hE1_23
  replace hR1_1 := hR1_1.ext hE1_23
  replace hs1_2 := hs1_2.ext hE1_23
  replace hs1_3 := hs1_3.ext hE1_23
  replace hR1_6 := hR1_6.ext hE1_23
  replace hR1_7 := hR1_7.ext hE1_23
  replace hs1_8 := hs1_8.ext hE1_23
  replace hR1_12 := hR1_12.ext hE1_23
  replace hR1_13 := hR1_13.ext hE1_23
  replace hR1_14 := hR1_14.ext hE1_23
  replace hs1_15 := hs1_15.ext hE1_23
  replace hs1_16 := hs1_16.ext hE1_23
  replace hR1_20 := hR1_20.ext hE1_23
  replace hR1_21 := hR1_21.ext hE1_23
  replace hR1_22 := hR1_22.ext hE1_23
  replace hEc := hEc.trans hE1_23
  refine wl_gyes rfl rfl ?_
  have hcl := tells_ok (H := [⟨true, [1], 1, 0⟩, ⟨false, [1], 2, 3⟩, ⟨false, [0], 4, 5⟩]) (want := []) (q := []) (b := false) hs1_23 (GS.nil intR (fun _ => True) _ none 0) (by decide +kernel) rfl rfl
  refine wl_call (by decide) Try.cl28 rfl hcl ?_
  clear hcl
  rintro _ w1_24 ⟨rfl, hE1_24⟩
  replace hR1_0 := hR1_0.ext hE1_24
  replace hR1_1 := hR1_1.ext hE1_24
  replace hs1_2 := hs1_2.ext hE1_24
  replace hs1_3 := hs1_3.ext hE1_24
  replace hR1_6 := hR1_6.ext hE1_24
  replace hR1_7 := hR1_7.ext hE1_24
  replace hs1_8 := hs1_8.ext hE1_24
  replace hR1_12 := hR1_12.ext hE1_24
  replace hR1_13 := hR1_13.ext hE1_24
  replace hR1_14 := hR1_14.ext hE1_24
  replace hs1_15 := hs1_15.ext hE1_24
  replace hs1_16 := hs1_16.ext hE1_24
  replace hR1_20 := hR1_20.ext hE1_24
  replace hR1_21 := hR1_21.ext hE1_24
  replace hR1_22 := hR1_22.ext hE1_24
  replace hs1_23 := hs1_23.ext hE1_24
  replace hEc := hEc.trans hE1_24
  refine wl_pick (by decide) rfl rfl ?_
  refine wl_assign (by decide) rfl ?_
  refine wl_nil ?_
  refine wk_norm ?_
  refine wc_ret ?_
  refine wk_post1 (.inl rfl) Try.results16 rfl ?_
  exact ⟨_, rfl, rfl, hEc⟩

end Go.Proofs.Ytnlpibfdobinoaa
