/- Lwt (printed by program: wip/gen) -/
import Derived.Test.YtifnbemboednaaaLws
namespace Go.Proofs.Ytifnbemboednaaa
open Go.RowKit Go.Eng

set_option maxHeartbeats 1000000 in
set_option maxRecDepth 20000 in
theorem binKnown_ok  {w : World} : Ret Try.prog 16 #[] w (fun v w' => v = .bool true ∧ Ext w w') := by
  refine ret_of_wk Try.func16 rfl Try.ntmps16 (Nat.le_of_ble_eq_true rfl) ?_
  have hEc : Ext w w := Chg.refl _ _
  refine wc_seq ?_
  refine wc_region ?_
  refine wl_assign (by decide) rfl ?_
  refine wl_nil ?_
  refine wk_norm ?_
  refine wc_seq ?_
  refine wc_region ?_
  refine wl_call (by decide) Try.cl17 rfl (num_ok (by omega) (by omega)) ?_
  rintro _ w1 ⟨A1, c1, rfl, ho1, hE1⟩
  replace ho1 := ho1.bs.any
  replace hEc := hEc.trans hE1
  refine wl_move (by decide) rfl ?_
  refine wl_extract (by decide) rfl rfl ?_
  refine wl_extract (by decide) rfl rfl ?_
  refine wl_assign (by decide) rfl ?_
  refine wl_assign (by decide) rfl ?_
  refine wl_nil ?_
  refine wk_norm ?_
  refine wc_seq ?_
  refine wc_region ?_
  refine wl_call (by decide) Try.cl17 rfl (num_ok (by omega) (by omega)) ?_
  rintro _ w2 ⟨A2, c2, rfl, ho2, hE2⟩
  replace ho2 := ho2.bs.any
  replace ho1 := ho1.ext hE2
  replace hEc := hEc.trans hE2
  refine wl_move (by decide) rfl ?_
  refine wl_extract (by decide) rfl rfl ?_
  refine wl_extract (by decide) rfl rfl ?_
  refine wl_assign (by decide) rfl ?_
  refine wl_assign (by decide) rfl ?_
  refine wl_nil ?_
  refine wk_norm ?_
  refine wc_seq ?_
  refine wc_region ?_
  refine wl_call (by decide) Try.cl17 rfl (num_ok (by omega) (by omega)) ?_
  rintro _ w3 ⟨A3, c3, rfl, ho3, hE3⟩
  replace ho3 := ho3.bs.any
  replace ho1 := ho1.ext hE3
  replace ho2 := ho2.ext hE3
  replace hEc := hEc.trans hE3
  refine wl_move (by decide) rfl ?_
  refine wl_extract (by decide) rfl rfl ?_
  refine wl_extract (by decide) rfl rfl ?_
  refine wl_assign (by decide) rfl ?_
  refine wl_assign (by decide) rfl ?_
  refine wl_nil ?_
  refine wk_norm ?_
  refine wc_seq ?_
  refine wc_region ?_
  refine wl_call (by decide) Try.cl17 rfl (num_ok (by omega) (by omega)) ?_
  rintro _ w4 ⟨A4, c4, rfl, ho4, hE4⟩
  replace ho4 := ho4.bs.any
  replace ho1 := ho1.ext hE4
  replace ho2 := ho2.ext hE4
  replace ho3 := ho3.ext hE4
  replace hEc := hEc.trans hE4
  refine wl_move (by decide) rfl ?_
  refine wl_extract (by decide) rfl rfl ?_
  refine wl_extract (by decide) rfl rfl ?_
  refine wl_assign (by decide) rfl ?_
  refine wl_assign (by decide) rfl ?_
  refine wl_nil ?_
  refine wk_norm ?_
  refine wc_seq ?_
  refine wc_region ?_
  refine wl_call (by decide) Try.cl17 rfl (num_ok (by omega) (by omega)) ?_
  rintro _ w5 ⟨A5, c5, rfl, ho5, hE5⟩
  replace ho5 := ho5.bs.any
  replace ho1 := ho1.ext hE5
  replace ho2 := ho2.ext hE5
  replace ho3 := ho3.ext hE5
  replace ho4 := ho4.ext hE5
  replace hEc := hEc.trans hE5
  refine wl_move (by decide) rfl ?_
  refine wl_extract (by decide) rfl rfl ?_
  refine wl_extract (by decide) rfl rfl ?_
  refine wl_assign (by decide) rfl ?_
  refine wl_assign (by decide) rfl ?_
  refine wl_nil ?_
  refine wk_norm ?_
  refine wc_seq ?_
  refine wc_region ?_
  refine wl_move (by decide) rfl ?_
  refine wl_eql (by decide) rfl rfl ?_
  refine wl_re (k := 85) (v := .bool true) rfl (congrArg Value.bool (decide_eq_true (by decide +kernel))) ?_
  refine wl_move (by decide) rfl ?_
  refine wl_gyes rfl rfl ?_
  refine wl_move (by decide) rfl ?_
  refine wl_gyes rfl rfl ?_
  refine wl_bsliceB (xs := [.const (.int .u8 0)]) (bs := [0]) (by decide) Try.sl22 rfl rfl rfl (by simp) _ (Nat.le_refl _) ?_
  rintro g6 w6 _ hs6 hE6
  replace hs6 := hs6.bs.any
  replace ho1 := ho1.ext hE6
  replace ho2 := ho2.ext hE6
  replace ho3 := ho3.ext hE6
  replace ho4 := ho4.ext hE6
  replace ho5 := ho5.ext hE6
  replace hEc := hEc.trans hE6
  refine wl_gyes rfl rfl ?_
  have hcl := eqBytes_ok ho1 hs6
  refine wl_call (by decide) Try.cl22 rfl hcl ?_
  clear hcl
  rintro _ w7 ⟨rfl, hE7⟩
  replace ho1 := ho1.ext hE7
  replace ho2 := ho2.ext hE7
  replace ho3 := ho3.ext hE7
  replace ho4 := ho4.ext hE7
  replace ho5 := ho5.ext hE7
  replace hs6 := hs6.ext hE7
  replace hEc := hEc.trans hE7
  refine wl_re (k := 89) (v := .bool true) rfl (congrArg Value.bool (decide_eq_true (by decide +kernel))) ?_
  refine wl_pick (by decide) rfl rfl ?_
  refine wl_move (by decide) rfl ?_
  refine wl_gyes rfl rfl ?_
  refine wl_move (by decide) rfl ?_
  refine wl_gyes rfl rfl ?_
  refine wl_eql (by decide) rfl rfl ?_
  refine wl_re (k := 93) (v := .bool true) rfl (congrArg Value.bool (decide_eq_true (by decide +kernel))) ?_
  refine wl_pick (by decide) rfl rfl ?_
  refine wl_move (by decide) rfl ?_
  refine wl_gyes rfl rfl ?_
  refine wl_move (by decide) rfl ?_
  refine wl_gyes rfl rfl ?_
  refine wl_bsliceB (xs := [.const (.int .u8 1), .const (.int .u8 255)]) (bs := [1, 255]) (by decide) Try.sl22 rfl rfl rfl (by simp) _ (Nat.le_refl _) ?_
  rintro g8 w8 _ hs8 hE8
  replace hs8 := hs8.bs.any
  replace ho1 := ho1.ext hE8
  replace ho2 := ho2.ext hE8
  replace ho3 := ho3.ext hE8
  replace ho4 := ho4.ext hE8
  replace ho5 := ho5.ext hE8
  replace hs6 := hs6.ext hE8
  replace hEc := hEc.trans hE8
  refine wl_gyes rfl rfl ?_
  have hcl := eqBytes_ok ho2 hs8
  refine wl_call (by decide) Try.cl22 rfl hcl ?_
  clear hcl
  rintro _ w9 ⟨rfl, hE9⟩
  replace ho1 := ho1.ext hE9
  replace ho2 := ho2.ext hE9
  replace ho3 := ho3.ext hE9
  replace ho4 := ho4.ext hE9
  replace ho5 := ho5.ext hE9
  replace hs6 := hs6.ext hE9
  replace hs8 := hs8.ext hE9
  replace hEc := hEc.trans hE9
  refine wl_re (k := 98) (v := .bool true) rfl (congrArg Value.bool (decide_eq_true (by decide +kernel))) ?_
  refine wl_pick (by decide) rfl rfl ?_
  refine wl_move (by decide) rfl ?_
  refine wl_gyes rfl rfl ?_
  refine wl_move (by decide) rfl ?_
  refine wl_gyes rfl rfl ?_
  refine wl_eql (by decide) rfl rfl ?_
  refine wl_re (k := 102) (v := .bool true) rfl (congrArg Value.bool (decide_eq_true (by decide +kernel))) ?_
  refine wl_pick (by decide) rfl rfl ?_
  refine wl_move (by decide) rfl ?_
  refine wl_gyes rfl rfl ?_
  refine wl_move (by decide) rfl ?_
  refine wl_gyes rfl rfl ?_
  refine wl_bsliceB (xs := [.const (.int .u8 7), .const (.int .u8 31), .const (.int .u8 255), .const (.int .u8 255), .const (.int .u8 255), .const (.int .u8 255), .const (.int .u8 255), .const (.int .u8 255)]) (bs := [7, 31, 255, 255, 255, 255, 255, 255]) (by decide) Try.sl22 rfl rfl rfl (by simp) _ (Nat.le_refl _) ?_
  rintro g10 w10 _ hs10 hE10
  replace hs10 := hs10.bs.any
  replace ho1 := ho1.ext hE10
  replace ho2 := ho2.ext hE10
  replace ho3 := ho3.ext hE10
  replace ho4 := ho4.ext hE10
  replace ho5 := ho5.ext hE10
  replace hs6 := hs6.ext hE10
  replace hs8 := hs8.ext hE10
  replace hEc := hEc.trans hE10
  refine wl_gyes rfl rfl ?_
  have hcl := eqBytes_ok ho3 hs10
  refine wl_call (by decide) Try.cl22 rfl hcl ?_
  clear hcl
  rintro _ w11 ⟨rfl, hE11⟩
  replace ho1 := ho1.ext hE11
  replace ho2 := ho2.ext hE11
  replace ho3 := ho3.ext hE11
  replace ho4 := ho4.ext hE11
  replace ho5 := ho5.ext hE11
  replace hs6 := hs6.ext hE11
  replace hs8 := hs8.ext hE11
  replace hs10 := hs10.ext hE11
  replace hEc := hEc.trans hE11
  refine wl_re (k := 107) (v := .bool true) rfl (congrArg Value.bool (decide_eq_true (by decide +kernel))) ?_
  refine wl_pick (by decide) rfl rfl ?_
  refine wl_move (by decide) rfl ?_
  refine wl_gyes rfl rfl ?_
  refine wl_move (by decide) rfl ?_
  refine wl_gyes rfl rfl ?_
  refine wl_eql (by decide) rfl rfl ?_
  refine wl_re (k := 111) (v := .bool true) rfl (congrArg Value.bool (decide_eq_true (by decide +kernel))) ?_
  refine wl_pick (by decide) rfl rfl ?_
  refine wl_move (by decide) rfl ?_
  refine wl_gyes rfl rfl ?_
  refine wl_move (by decide) rfl ?_
  refine wl_gyes rfl rfl ?_
  refine wl_eql (by decide) rfl rfl ?_
  refine wl_re (k := 115) (v := .bool true) rfl (congrArg Value.bool (decide_eq_true (by decide +kernel))) ?_
  refine wl_pick (by decide) rfl rfl ?_
  refine wl_assign (by decide) rfl ?_
  refine wl_nil ?_
  refine wk_norm ?_
  refine wc_seq ?_
  refine wc_region ?_
  refine wl_bsliceB (xs := [.const (.int .u8 2), .const (.int .u8 0), .const (.int .u8 1)]) (bs := [2, 0, 1]) (by decide) Try.sl22 rfl rfl rfl (by simp) _ (Nat.le_refl _) ?_
  rintro g12 w12 _ hs12 hE12
  replace hs12 := hs12.bs.any
  replace ho1 := ho1.ext hE12
  replace ho2 := ho2.ext hE12
  replace ho3 := ho3.ext hE12
  replace ho4 := ho4.ext hE12
  replace ho5 := ho5.ext hE12
  replace hs6 := hs6.ext hE12
  replace hs8 := hs8.ext hE12
  replace hs10 := hs10.ext hE12
  replace hEc := hEc.trans hE12
  have hcl := takeNum_ok hs12
  refine wl_call (by decide) Try.cl20 rfl hcl ?_
  clear hcl
  rintro _ w13 ⟨A13, c13, rfl, ho13, hE13⟩
  replace ho13 := ho13.bs.any
  replace ho1 := ho1.ext hE13
  replace ho2 := ho2.ext hE13
  replace ho3 := ho3.ext hE13
  replace ho4 := ho4.ext hE13
  replace ho5 := ho5.ext hE13
  replace hs6 := hs6.ext hE13
  replace hs8 := hs8.ext hE13
  replace hs10 := hs10.ext hE13
  replace hs12 := hs12.ext hE13
  replace hEc := hEc.trans hE13
  refine wl_move (by decide) rfl ?_
  refine wl_extract (by decide) rfl rfl ?_
  refine wl_extract (by decide) rfl rfl ?_
  refine wl_extract (by decide) rfl rfl ?_
  refine wl_assign (by decide) rfl ?_
  refine wl_assign (by decide) rfl ?_
  refine wl_assign (by decide) rfl ?_
  refine wl_nil ?_
  refine wk_norm ?_
  refine wc_seq ?_
  refine wc_region ?_
  refine wl_bsliceB (xs := [.const (.int .u8 8), .const (.int .u8 1), .const (.int .u8 1), .const (.int .u8 1), .const (.int .u8 1), .const (.int .u8 1), .const (.int .u8 1), .const (.int .u8 1), .const (.int .u8 1)]) (bs := [8, 1, 1, 1, 1, 1, 1, 1, 1]) (by decide) Try.sl22 rfl rfl rfl (by simp) _ (Nat.le_refl _) ?_
  rintro g14 w14 _ hs14 hE14
  replace hs14 := hs14.bs.any
  replace ho1 := ho1.ext hE14
  replace ho2 := ho2.ext hE14
  replace ho3 := ho3.ext hE14
  replace ho4 := ho4.ext hE14
  replace ho5 := ho5.ext hE14
  replace hs6 := hs6.ext hE14
  replace hs8 := hs8.ext hE14
  replace hs10 := hs10.ext hE14
  replace hs12 := hs12.ext hE14
  replace ho13 := ho13.ext hE14
  replace hEc := hEc.trans hE14
  have hcl := takeNum_ok hs14
  refine wl_call (by decide) Try.cl20 rfl hcl ?_
  clear hcl
  rintro _ w15 ⟨A15, c15, rfl, ho15, hE15⟩
  replace ho15 := ho15.bs.any
  replace ho1 := ho1.ext hE15
  replace ho2 := ho2.ext hE15
  replace ho3 := ho3.ext hE15
  replace ho4 := ho4.ext hE15
  replace ho5 := ho5.ext hE15
  replace hs6 := hs6.ext hE15
  replace hs8 := hs8.ext hE15
  replace hs10 := hs10.ext hE15
  replace hs12 := hs12.ext hE15
  replace ho13 := ho13.ext hE15
  replace hs14 := hs14.ext hE15
  replace hEc := hEc.trans hE15
  refine wl_move (by decide) rfl ?_
  refine wl_extract (by decide) rfl rfl ?_
  refine wl_extract (by decide) rfl rfl ?_
  refine wl_extract (by decide) rfl rfl ?_
  refine wl_assign (by decide) rfl ?_
  refine wl_assign (by decide) rfl ?_
  refine wl_assign (by decide) rfl ?_
  refine wl_nil ?_
  refine wk_norm ?_
  refine wc_seq ?_
  refine wc_region ?_
  refine wl_bsliceB (xs := [.const (.int .u8 1)]) (bs := [1]) (by decide) Try.sl22 rfl rfl rfl (by simp) _ (Nat.le_refl _) ?_
  rintro g16 w16 _ hs16 hE16
  replace hs16 := hs16.bs.any
  replace ho1 := ho1.ext hE16
  replace ho2 := ho2.ext hE16
  replace ho3 := ho3.ext hE16
  replace ho4 := ho4.ext hE16
  replace ho5 := ho5.ext hE16
  replace hs6 := hs6.ext hE16
  replace hs8 := hs8.ext hE16
  replace hs10 := hs10.ext hE16
  replace hs12 := hs12.ext hE16
  replace ho13 := ho13.ext hE16
  replace hs14 := hs14.ext hE16
  replace ho15 := ho15.ext hE16
  replace hEc := hEc.trans hE16
  have hcl := takeNum_ok hs16
  refine wl_call (by decide) Try.cl20 rfl hcl ?_
  clear hcl
  rintro _ w17 ⟨A17, c17, rfl, ho17, hE17⟩
  replace ho17 := ho17.bs.any
  replace ho1 := ho1.ext hE17
  replace ho2 := ho2.ext hE17
  replace ho3 := ho3.ext hE17
  replace ho4 := ho4.ext hE17
  replace ho5 := ho5.ext hE17
  replace hs6 := hs6.ext hE17
  replace hs8 := hs8.ext hE17
  replace hs10 := hs10.ext hE17
  replace hs12 := hs12.ext hE17
  replace ho13 := ho13.ext hE17
  replace hs14 := hs14.ext hE17
  replace ho15 := ho15.ext hE17
  replace hs16 := hs16.ext hE17
  replace hEc := hEc.trans hE17
  refine wl_move (by decide) rfl ?_
  refine wl_extract (by decide) rfl rfl ?_
  refine wl_extract (by decide) rfl rfl ?_
  refine wl_extract (by decide) rfl rfl ?_
  refine wl_assign (by decide) rfl ?_
  refine wl_assign (by decide) rfl ?_
  refine wl_assign (by decide) rfl ?_
  refine wl_nil ?_
  refine wk_norm ?_
  refine wc_seq ?_
  refine wc_region ?_
  refine wl_bsliceB (xs := [.const (.int .u8 7), .const (.int .u8 32), .const (.int .u8 0), .const (.int .u8 0), .const (.int .u8 0), .const (.int .u8 0), .const (.int .u8 0), .const (.int .u8 0)]) (bs := [7, 32, 0, 0, 0, 0, 0, 0]) (by decide) Try.sl22 rfl rfl rfl (by simp) _ (Nat.le_refl _) ?_
  rintro g18 w18 _ hs18 hE18
  replace hs18 := hs18.bs.any
  replace ho1 := ho1.ext hE18
  replace ho2 := ho2.ext hE18
  replace ho3 := ho3.ext hE18
  replace ho4 := ho4.ext hE18
  replace ho5 := ho5.ext hE18
  replace hs6 := hs6.ext hE18
  replace hs8 := hs8.ext hE18
  replace hs10 := hs10.ext hE18
  replace hs12 := hs12.ext hE18
  replace ho13 := ho13.ext hE18
  replace hs14 := hs14.ext hE18
  replace ho15 := ho15.ext hE18
  replace hs16 := hs16.ext hE18
  replace ho17 := ho17.ext hE18
  replace hEc := hEc.trans hE18
  have hcl := takeNum_ok hs18
  refine wl_call (by decide) Try.cl20 rfl hcl ?_
  clear hcl
  rintro _ w19 ⟨A19, c19, rfl, ho19, hE19⟩
  replace ho19 := ho19.bs.any
  replace ho1 := ho1.ext hE19
  replace ho2 := ho2.ext hE19
  replace ho3 := ho3.ext hE19
  replace ho4 := ho4.ext hE19
  replace ho5 := ho5.ext hE19
  replace hs6 := hs6.ext hE19
  replace hs8 := hs8.ext hE19
  replace hs10 := hs10.ext hE19
  replace hs12 := hs12.ext hE19
  replace ho13 := ho13.ext hE19
  replace hs14 := hs14.ext hE19
  replace ho15 := ho15.ext hE19
  replace hs16 := hs16.ext hE19
  replace ho17 := ho17.ext hE19
  replace hs18 := hs18.ext hE19
  replace hEc := hEc.trans hE19
  refine wl_move (by decide) rfl ?_
  refine wl_extract (by decide) rfl rfl ?_
  refine wl_extract (by decide) rfl rfl ?_
  refine wl_extract (by decide) rfl rfl ?_
  refine wl_assign (by decide) rfl ?_
  refine wl_assign (by decide) rfl ?_
  refine wl_assign (by decide) rfl ?_
  refine wl_nil ?_
  refine wk_norm ?_
  refine wc_seq ?_
  refine wc_region ?_
  have hcl := takeNum_ok (GS.nil byteR (fun _ => True) w19 none 0)
  refine wl_call (by decide) Try.cl20 rfl hcl ?_
  clear hcl
  rintro _ w20 ⟨A20, c20, rfl, ho20, hE20⟩
  replace ho20 := ho20.bs.any
  replace ho1 := ho1.ext hE20
  replace ho2 := ho2.ext hE20
  replace ho3 := ho3.ext hE20
  replace ho4 := ho4.ext hE20
  replace ho5 := ho5.ext hE20
  replace hs6 := hs6.ext hE20
  replace hs8 := hs8.ext hE20
  replace hs10 := hs10.ext hE20
  replace hs12 := hs12.ext hE20
  replace ho13 := ho13.ext hE20
  replace hs14 := hs14.ext hE20
  replace ho15 := ho15.ext hE20
  replace hs16 := hs16.ext hE20
  replace ho17 := ho17.ext hE20
  replace hs18 := hs18.ext hE20
  replace ho19 := ho19.ext hE20
  replace hEc := hEc.trans hE20
  refine wl_move (by decide) rfl ?_
  refine wl_extract (by decide) rfl rfl ?_
  refine wl_extract (by decide) rfl rfl ?_
  refine wl_extract (by decide) rfl rfl ?_
  refine wl_assign (by decide) rfl ?_
  refine wl_assign (by decide) rfl ?_
  refine wl_assign (by decide) rfl ?_
  refine wl_nil ?_
  refine wk_norm ?_
  refine wc_seq ?_
  refine wc_region ?_
  refine wl_bsliceB (xs := [.const (.int .u8 2), .const (.int .u8 0)]) (bs := [2, 0]) (by decide) Try.sl22 rfl rfl rfl (by simp) _ (Nat.le_refl _) ?_
  rintro g21 w21 _ hs21 hE21
  replace hs21 := hs21.bs.any
  replace ho1 := ho1.ext hE21
  replace ho2 := ho2.ext hE21
  replace ho3 := ho3.ext hE21
  replace ho4 := ho4.ext hE21
  replace ho5 := ho5.ext hE21
  replace hs6 := hs6.ext hE21
  replace hs8 := hs8.ext hE21
  replace hs10 := hs10.ext hE21
  replace hs12 := hs12.ext hE21
  replace ho13 := ho13.ext hE21
  replace hs14 := hs14.ext hE21
  replace ho15 := ho15.ext hE21
  replace hs16 := hs16.ext hE21
  replace ho17 := ho17.ext hE21
  replace hs18 := hs18.ext hE21
  replace ho19 := ho19.ext hE21
  replace ho20 := ho20.ext hE21
  replace hEc := hEc.trans hE21
  have hcl := takeNum_ok hs21
  refine wl_call (by decide) Try.cl20 rfl hcl ?_
  clear hcl
  rintro _ w22 ⟨A22, c22, rfl, ho22, hE22⟩
  replace ho22 := ho22.bs.any
  replace ho1 := ho1.ext hE22
  replace ho2 := ho2.ext hE22
  replace ho3 := ho3.ext hE22
  replace ho4 := ho4.ext hE22
  replace ho5 := ho5.ext hE22
  replace hs6 := hs6.ext hE22
  replace hs8 := hs8.ext hE22
  replace hs10 := hs10.ext hE22
  replace hs12 := hs12.ext hE22
  replace ho13 := ho13.ext hE22
  replace hs14 := hs14.ext hE22
  replace ho15 := ho15.ext hE22
  replace hs16 := hs16.ext hE22
  replace ho17 := ho17.ext hE22
  replace hs18 := hs18.ext hE22
  replace ho19 := ho19.ext hE22
  replace ho20 := ho20.ext hE22
  replace hs21 := hs21.ext hE22
  replace hEc := hEc.trans hE22
  refine wl_move (by decide) rfl ?_
  refine wl_extract (by decide) rfl rfl ?_
  refine wl_extract (by decide) rfl rfl ?_
  refine wl_extract (by decide) rfl rfl ?_
  refine wl_assign (by decide) rfl ?_
  refine wl_assign (by decide) rfl ?_
  refine wl_assign (by decide) rfl ?_
  refine wl_nil ?_
  refine wk_norm ?_
  refine wc_seq ?_
  refine wc_region ?_
  refine wl_bsliceB (xs := [.const (.int .u8 0), .const (.int .u8 7)]) (bs := [0, 7]) (by decide) Try.sl22 rfl rfl rfl (by simp) _ (Nat.le_refl _) ?_
  rintro g23 w23 _ hs23 hE23
  replace hs23 := hs23.bs.any
  replace ho1 := ho1.ext hE23
  replace ho2 := ho2.ext hE23
  replace ho3 := ho3.ext hE23
  replace ho4 := ho4.ext hE23
  replace ho5 := ho5.ext hE23
  replace hs6 := hs6.ext hE23
  replace hs8 := hs8.ext hE23
  replace hs10 := hs10.ext hE23
  replace hs12 := hs12.ext hE23
  replace ho13 := ho13.ext hE23
  replace hs14 := hs14.ext hE23
  replace ho15 := ho15.ext hE23
  replace hs16 := hs16.ext hE23
  replace ho17 := ho17.ext hE23
  replace hs18 := hs18.ext hE23
  replace ho19 := ho19.ext hE23
  replace ho20 := ho20.ext hE23
  replace hs21 := hs21.ext hE23
  replace ho22 := ho22.ext hE23
  replace hEc := hEc.trans hE23
  have hcl := takeNum_ok hs23
  refine wl_call (by decide) Try.cl20 rfl hcl ?_
  clear hcl
  rintro _ w24 ⟨A24, c24, rfl, ho24, hE24⟩
  replace ho24 := ho24.bs.any
  replace ho1 := ho1.ext hE24
  replace ho2 := ho2.ext hE24
  replace ho3 := ho3.ext hE24
  replace ho4 := ho4.ext hE24
  replace ho5 := ho5.ext hE24
  replace hs6 := hs6.ext hE24
  replace hs8 := hs8.ext hE24
  replace hs10 := hs10.ext hE24
  replace hs12 := hs12.ext hE24
  replace ho13 := ho13.ext hE24
  replace hs14 := hs14.ext hE24
  replace ho15 := ho15.ext hE24
  replace hs16 := hs16.ext hE24
  replace ho17 := ho17.ext hE24
  replace hs18 := hs18.ext hE24
  replace ho19 := ho19.ext hE24
  replace ho20 := ho20.ext hE24
  replace hs21 := hs21.ext hE24
  replace ho22 := ho22.ext hE24
  replace hs23 := hs23.ext hE24
  replace hEc := hEc.trans hE24
  refine wl_move (by decide) rfl ?_
  refine wl_extract (by decide) rfl rfl ?_
  refine wl_extract (by decide) rfl rfl ?_
  refine wl_extract (by decide) rfl rfl ?_
  refine wl_assign (by decide) rfl ?_
  refine wl_assign (by decide) rfl ?_
  refine wl_assign (by decide) rfl ?_
  refine wl_nil ?_
  refine wk_norm ?_
  refine wc_seq ?_
  refine wc_region ?_
  refine wl_move (by decide) rfl ?_
  refine wl_eql (by decide) rfl rfl ?_
  refine wl_re (k := 159) (v := .bool true) rfl (congrArg Value.bool (decide_eq_true (by decide +kernel))) ?_
  refine wl_move (by decide) rfl ?_
  refine wl_gyes rfl rfl ?_
  refine wl_move (by decide) rfl ?_
  refine wl_gyes rfl rfl ?_
  refine wl_eql (by decide) rfl rfl ?_
  refine wl_re (k := 162) (v := .bool true) rfl (congrArg Value.bool (decide_eq_true (by decide +kernel))) ?_
  refine wl_pick (by decide) rfl rfl ?_
  refine wl_move (by decide) rfl ?_
  refine wl_gyes rfl rfl ?_
  refine wl_move (by decide) rfl ?_
  refine wl_gyes rfl rfl ?_
  refine wl_eql (by decide) rfl rfl ?_
  refine wl_re (k := 166) (v := .bool true) rfl (congrArg Value.bool (decide_eq_true (by decide +kernel))) ?_
  refine wl_pick (by decide) rfl rfl ?_
  refine wl_move (by decide) rfl ?_
  refine wl_gyes rfl rfl ?_
  refine wl_move (by decide) rfl ?_
  refine wl_gyes rfl rfl ?_
  refine wl_eql (by decide) rfl rfl ?_
  refine wl_re (k := 170) (v := .bool true) rfl (congrArg Value.bool (decide_eq_true (by decide +kernel))) ?_
  refine wl_pick (by decide) rfl rfl ?_
  refine wl_move (by decide) rfl ?_
  refine wl_gyes rfl rfl ?_
  refine wl_move (by decide) rfl ?_
  refine wl_gyes rfl rfl ?_
  refine wl_eql (by decide) rfl rfl ?_
  refine wl_re (k := 174) (v := .bool true) rfl (congrArg Value.bool (decide_eq_true (by decide +kernel))) ?_
  refine wl_pick (by decide) rfl rfl ?_
  refine wl_move (by decide) rfl ?_
  refine wl_gyes rfl rfl ?_
  refine wl_move (by decide) rfl ?_
  refine wl_gyes rfl rfl ?_
  refine wl_eql (by decide) rfl rfl ?_
  refine wl_re (k := 178) (v := .bool true) rfl (congrArg Value.bool (decide_eq_true (by decide +kernel))) ?_
  refine wl_pick (by decide) rfl rfl ?_
  refine wl_move (by decide) rfl ?_
  refine wl_gyes rfl rfl ?_
  refine wl_move (by decide) rfl ?_
  refine wl_gyes rfl rfl ?_
  refine wl_eql (by decide) rfl rfl ?_
  refine wl_re (k := 182) (v := .bool true) rfl (congrArg Value.bool (decide_eq_true (by decide +kernel))) ?_
  refine wl_pick (by decide) rfl rfl ?_
  refine wl_move (by decide) rfl ?_
  refine wl_gyes rfl rfl ?_
  refine wl_move (by decide) rfl ?_
  refine wl_gyes rfl rfl ?_
  refine wl_eql (by decide) rfl rfl ?_
  refine wl_re (k := 186) (v := .bool true) rfl (congrArg Value.bool (decide_eq_true (by decide +kernel))) ?_
  refine wl_pick (by decide) rfl rfl ?_
  refine wl_move (by decide) rfl ?_
  refine wl_gyes rfl rfl ?_
  refine wl_move (by decide) rfl ?_
  refine wl_gyes rfl rfl ?_
  refine wl_bsliceB (xs := [.const (.int .u8 7)]) (bs := [7]) (by decide) Try.sl22 rfl rfl rfl (by simp) _ (Nat.le_refl _) ?_
  rintro g25 w25 _ hs25 hE25
  replace hs25 := hs25.bs.any
  replace ho1 := ho1.ext hE25
  replace ho2 := ho2.ext hE25
  replace ho3 := ho3.ext hE25
  replace ho4 := ho4.ext hE25
  replace ho5 := ho5.ext hE25
  replace hs6 := hs6.ext hE25
  replace hs8 := hs8.ext hE25
  replace hs10 := hs10.ext hE25
  replace hs12 := hs12.ext hE25
  replace ho13 := ho13.ext hE25
  replace hs14 := hs14.ext hE25
  replace ho15 := ho15.ext hE25
  replace hs16 := hs16.ext hE25
  replace ho17 := ho17.ext hE25
  replace hs18 := hs18.ext hE25
  replace ho19 := ho19.ext hE25
  replace ho20 := ho20.ext hE25
  replace hs21 := hs21.ext hE25
  replace ho22 := ho22.ext hE25
  replace hs23 := hs23.ext hE25
  replace ho24 := ho24.ext hE25
  replace hEc := hEc.trans hE25
  refine wl_gyes rfl rfl ?_
  have hcl := eqBytes_ok ho24 hs25
  refine wl_call (by decide) Try.cl22 rfl hcl ?_
  clear hcl
  rintro _ w26 ⟨rfl, hE26⟩
  replace ho1 := ho1.ext hE26
  replace ho2 := ho2.ext hE26
  replace ho3 := ho3.ext hE26
  replace ho4 := ho4.ext hE26
  replace ho5 := ho5.ext hE26
  replace hs6 := hs6.ext hE26
  replace hs8 := hs8.ext hE26
  replace hs10 := hs10.ext hE26
  replace hs12 := hs12.ext hE26
  replace ho13 := ho13.ext hE26
  replace hs14 := hs14.ext hE26
  replace ho15 := ho15.ext hE26
  replace hs16 := hs16.ext hE26
  replace ho17 := ho17.ext hE26
  replace hs18 := hs18.ext hE26
  replace ho19 := ho19.ext hE26
  replace ho20 := ho20.ext hE26
  replace hs21 := hs21.ext hE26
  replace ho22 := ho22.ext hE26
  replace hs23 := hs23.ext hE26
  replace ho24 := ho24.ext hE26
  replace hs25 := hs25.ext hE26
  replace hEc := hEc.trans hE26
  refine wl_re (k := 191) (v := .bool true) rfl (congrArg Value.bool (decide_eq_true (by decide +kernel))) ?_
  refine wl_pick (by decide) rfl rfl ?_
  refine wl_assign (by decide) rfl ?_
  refine wl_nil ?_
  refine wk_norm ?_
  refine wc_seq ?_
  refine wc_region ?_
  refine wl_bsliceB (xs := [.const (.int .u8 1), .const (.int .u8 2), .const (.int .u8 170), .const (.int .u8 187), .const (.int .u8 204)]) (bs := [1, 2, 170, 187, 204]) (by decide) Try.sl22 rfl rfl rfl (by simp) _ (Nat.le_refl _) ?_
  rintro g27 w27 _ hs27 hE27
  replace hs27 := hs27.bs.any
  replace ho1 := ho1.ext hE27
  replace ho2 := ho2.ext hE27
  replace ho3 := ho3.ext hE27
  replace ho4 := ho4.ext hE27
  replace ho5 := ho5.ext hE27
  replace hs6 := hs6.ext hE27
  replace hs8 := hs8.ext hE27
  replace hs10 := hs10.ext hE27
  replace hs12 := hs12.ext hE27
  replace ho13 := ho13.ext hE27
  replace hs14 := hs14.ext hE27
  replace ho15 := ho15.ext hE27
  replace hs16 := hs16.ext hE27
  replace ho17 := ho17.ext hE27
  replace hs18 := hs18.ext hE27
  replace ho19 := ho19.ext hE27
  replace ho20 := ho20.ext hE27
  replace hs21 := hs21.ext hE27
  replace ho22 := ho22.ext hE27
  replace hs23 := hs23.ext hE27
  replace ho24 := ho24.ext hE27
  replace hs25 := hs25.ext hE27
  replace hEc := hEc.trans hE27
  refine wl_assign (by decide) rfl ?_
  refine wl_nil ?_
  refine wk_norm ?_
  refine wc_seq ?_
  refine wc_region ?_
  refine wl_move (by decide) rfl ?_
  have hcl := takeStr_ok (most := (1)) hs27
  refine wl_call (by decide) Try.cl27 rfl hcl ?_
  clear hcl
  rintro _ w28 ⟨A28, c28, B28, d28, rfl, ho28, hp28, hE28⟩
  replace ho28 := ho28.bs.any
  replace hp28 := hp28.bs.any
  replace ho1 := ho1.ext hE28
  replace ho2 := ho2.ext hE28
  replace ho3 := ho3.ext hE28
  replace ho4 := ho4.ext hE28
  replace ho5 := ho5.ext hE28
  replace hs6 := hs6.ext hE28
  replace hs8 := hs8.ext hE28
  replace hs10 := hs10.ext hE28
  replace hs12 := hs12.ext hE28
  replace ho13 := ho13.ext hE28
  replace hs14 := hs14.ext hE28
  replace ho15 := ho15.ext hE28
  replace hs16 := hs16.ext hE28
  replace ho17 := ho17.ext hE28
  replace hs18 := hs18.ext hE28
  replace ho19 := ho19.ext hE28
  replace ho20 := ho20.ext hE28
  replace hs21 := hs21.ext hE28
  replace ho22 := ho22.ext hE28
  replace hs23 := hs23.ext hE28
  replace ho24 := ho24.ext hE28
  replace hs25 := hs25.ext hE28
  replace hs27 := hs27.ext hE28
  replace hEc := hEc.trans hE28
  refine wl_move (by decide) rfl ?_
  refine wl_extract (by decide) rfl rfl ?_
  refine wl_extract (by decide) rfl rfl ?_
  refine wl_extract (by decide) rfl rfl ?_
  refine wl_assign (by decide) rfl ?_
  refine wl_assign (by decide) rfl ?_
  refine wl_assign (by decide) rfl ?_
  refine wl_nil ?_
  refine wk_norm ?_
  refine wc_seq ?_
  refine wc_region ?_
  refine wl_move (by decide) rfl ?_
  refine wl_to (by decide) Try.sl22 rfl rfl hs27 3 rfl (by decide) ?_
  intro hb1
  have hcl := takeStr_ok (most := (9)) hb1
  refine wl_call (by decide) Try.cl27 rfl hcl ?_
  clear hcl
  rintro _ w29 ⟨A29, c29, B29, d29, rfl, ho29, hp29, hE29⟩
  replace ho29 := ho29.bs.any
  replace hp29 := hp29.bs.any
  replace ho1 := ho1.ext hE29
  replace ho2 := ho2.ext hE29
  replace ho3 := ho3.ext hE29
  replace ho4 := ho4.ext hE29
  replace ho5 := ho5.ext hE29
  replace hs6 := hs6.ext hE29
  replace hs8 := hs8.ext hE29
  replace hs10 := hs10.ext hE29
  replace hs12 := hs12.ext hE29
  replace ho13 := ho13.ext hE29
  replace hs14 := hs14.ext hE29
  replace ho15 := ho15.ext hE29
  replace hs16 := hs16.ext hE29
  replace ho17 := ho17.ext hE29
  replace hs18 := hs18.ext hE29
  replace ho19 := ho19.ext hE29
  replace ho20 := ho20.ext hE29
  replace hs21 := hs21.ext hE29
  replace ho22 := ho22.ext hE29
  replace hs23 := hs23.ext hE29
  replace ho24 := ho24.ext hE29
  replace hs25 := hs25.ext hE29
  replace hs27 := hs27.ext hE29
  replace ho28 := ho28.ext hE29
  replace hp28 := hp28.ext hE29
  replace hb1 := hb1.ext hE29
  replace hEc := hEc.trans hE29
  refine wl_move (by decide) rfl ?_
  refine wl_extract (by decide) rfl rfl ?_
  refine wl_extract (by decide) rfl rfl ?_
  refine wl_extract (by decide) rfl rfl ?_
  refine wl_assign (by decide) rfl ?_
  refine wl_assign (by decide) rfl ?_
  refine wl_assign (by decide) rfl ?_
  refine wl_nil ?_
  refine wk_norm ?_
  refine wc_seq ?_
  refine wc_region ?_
  have hcl := takeStr_ok (most := (-1)) (GS.nil byteR (fun _ => True) w29 none 0)
  refine wl_call (by decide) Try.cl27 rfl hcl ?_
  clear hcl
  rintro _ w30 ⟨A30, c30, B30, d30, rfl, ho30, hp30, hE30⟩
  replace ho30 := ho30.bs.any
  replace hp30 := hp30.bs.any
  replace ho1 := ho1.ext hE30
  replace ho2 := ho2.ext hE30
  replace ho3 := ho3.ext hE30
  replace ho4 := ho4.ext hE30
  replace ho5 := ho5.ext hE30
  replace hs6 := hs6.ext hE30
  replace hs8 := hs8.ext hE30
  replace hs10 := hs10.ext hE30
  replace hs12 := hs12.ext hE30
  replace ho13 := ho13.ext hE30
  replace hs14 := hs14.ext hE30
  replace ho15 := ho15.ext hE30
  replace hs16 := hs16.ext hE30
  replace ho17 := ho17.ext hE30
  replace hs18 := hs18.ext hE30
  replace ho19 := ho19.ext hE30
  replace ho20 := ho20.ext hE30
  replace hs21 := hs21.ext hE30
  replace ho22 := ho22.ext hE30
  replace hs23 := hs23.ext hE30
  replace ho24 := ho24.ext hE30
  replace hs25 := hs25.ext hE30
  replace hs27 := hs27.ext hE30
  replace ho28 := ho28.ext hE30
  replace hp28 := hp28.ext hE30
  replace hb1 := hb1.ext hE30
  replace ho29 := ho29.ext hE30
  replace hp29 := hp29.ext hE30
  replace hEc := hEc.trans hE30
  refine wl_move (by decide) rfl ?_
  refine wl_extract (by decide) rfl rfl ?_
  refine wl_extract (by decide) rfl rfl ?_
  refine wl_extract (by decide) rfl rfl ?_
  refine wl_assign (by decide) rfl ?_
  refine wl_assign (by decide) rfl ?_
  refine wl_assign (by decide) rfl ?_
  refine wl_nil ?_
  refine wk_norm ?_
  refine wc_seq ?_
  refine wc_region ?_
  refine wl_bsliceB (xs := [.const (.int .u8 3), .const (.int .u8 1), .const (.int .u8 0), .const (.int .u8 1)]) (bs := [3, 1, 0, 1]) (by decide) Try.sl22 rfl rfl rfl (by simp) _ (Nat.le_refl _) ?_
  rintro g31 w31 _ hs31 hE31
  replace hs31 := hs31.bs.any
  replace ho1 := ho1.ext hE31
  replace ho2 := ho2.ext hE31
  replace ho3 := ho3.ext hE31
  replace ho4 := ho4.ext hE31
  replace ho5 := ho5.ext hE31
  replace hs6 := hs6.ext hE31
  replace hs8 := hs8.ext hE31
  replace hs10 := hs10.ext hE31
  replace hs12 := hs12.ext hE31
  replace ho13 := ho13.ext hE31
  replace hs14 := hs14.ext hE31
  replace ho15 := ho15.ext hE31
  replace hs16 := hs16.ext hE31
  replace ho17 := ho17.ext hE31
  replace hs18 := hs18.ext hE31
  replace ho19 := ho19.ext hE31
  replace ho20 := ho20.ext hE31
  replace hs21 := hs21.ext hE31
  replace ho22 := ho22.ext hE31
  replace hs23 := hs23.ext hE31
  replace ho24 := ho24.ext hE31
  replace hs25 := hs25.ext hE31
  replace hs27 := hs27.ext hE31
  replace ho28 := ho28.ext hE31
  replace hp28 := hp28.ext hE31
  replace hb1 := hb1.ext hE31
  replace ho29 := ho29.ext hE31
  replace hp29 := hp29.ext hE31
  replace ho30 := ho30.ext hE31
  replace hp30 := hp30.ext hE31
  replace hEc := hEc.trans hE31
  have hcl := takeStr_ok (most := (4611686018427387904)) hs31
  refine wl_call (by decide) Try.cl27 rfl hcl ?_
  clear hcl
  rintro _ w32 ⟨A32, c32, B32, d32, rfl, ho32, hp32, hE32⟩
  replace ho32 := ho32.bs.any
  replace hp32 := hp32.bs.any
  replace ho1 := ho1.ext hE32
  replace ho2 := ho2.ext hE32
  replace ho3 := ho3.ext hE32
  replace ho4 := ho4.ext hE32
  replace ho5 := ho5.ext hE32
  replace hs6 := hs6.ext hE32
  replace hs8 := hs8.ext hE32
  replace hs10 := hs10.ext hE32
  replace hs12 := hs12.ext hE32
  replace ho13 := ho13.ext hE32
  replace hs14 := hs14.ext hE32
  replace ho15 := ho15.ext hE32
  replace hs16 := hs16.ext hE32
  replace ho17 := ho17.ext hE32
  replace hs18 := hs18.ext hE32
  replace ho19 := ho19.ext hE32
  replace ho20 := ho20.ext hE32
  replace hs21 := hs21.ext hE32
  replace ho22 := ho22.ext hE32
  replace hs23 := hs23.ext hE32
  replace ho24 := ho24.ext hE32
  replace hs25 := hs25.ext hE32
  replace hs27 := hs27.ext hE32
  replace ho28 := ho28.ext hE32
  replace hp28 := hp28.ext hE32
  replace hb1 := hb1.ext hE32
  replace ho29 := ho29.ext hE32
  replace hp29 := hp29.ext hE32
  replace ho30 := ho30.ext hE32
  replace hp30 := hp30.ext hE32
  replace hs31 := hs31.ext hE32
  replace hEc := hEc.trans hE32
  refine wl_move (by decide) rfl ?_
  refine wl_extract (by decide) rfl rfl ?_
  refine wl_extract (by decide) rfl rfl ?_
  refine wl_extract (by decide) rfl rfl ?_
  refine wl_assign (by decide) rfl ?_
  refine wl_assign (by decide) rfl ?_
  refine wl_assign (by decide) rfl ?_
  refine wl_nil ?_
  refine wk_norm ?_
  refine wc_seq ?_
  refine wc_region ?_
  refine wl_bsliceB (xs := [.const (.int .u8 0), .const (.int .u8 5)]) (bs := [0, 5]) (by decide) Try.sl22 rfl rfl rfl (by simp) _ (Nat.le_refl _) ?_
  rintro g33 w33 _ hs33 hE33
  replace hs33 := hs33.bs.any
  replace ho1 := ho1.ext hE33
  replace ho2 := ho2.ext hE33
  replace ho3 := ho3.ext hE33
  replace ho4 := ho4.ext hE33
  replace ho5 := ho5.ext hE33
  replace hs6 := hs6.ext hE33
  replace hs8 := hs8.ext hE33
  replace hs10 := hs10.ext hE33
  replace hs12 := hs12.ext hE33
  replace ho13 := ho13.ext hE33
  replace hs14 := hs14.ext hE33
  replace ho15 := ho15.ext hE33
  replace hs16 := hs16.ext hE33
  replace ho17 := ho17.ext hE33
  replace hs18 := hs18.ext hE33
  replace ho19 := ho19.ext hE33
  replace ho20 := ho20.ext hE33
  replace hs21 := hs21.ext hE33
  replace ho22 := ho22.ext hE33
  replace hs23 := hs23.ext hE33
  replace ho24 := ho24.ext hE33
  replace hs25 := hs25.ext hE33
  replace hs27 := hs27.ext hE33
  replace ho28 := ho28.ext hE33
  replace hp28 := hp28.ext hE33
  replace hb1 := hb1.ext hE33
  replace ho29 := ho29.ext hE33
  replace hp29 := hp29.ext hE33
  replace ho30 := ho30.ext hE33
  replace hp30 := hp30.ext hE33
  replace hs31 := hs31.ext hE33
  replace ho32 := ho32.ext hE33
  replace hp32 := hp32.ext hE33
  replace hEc := hEc.trans hE33
  have hcl := takeStr_ok (most := (0)) hs33
  refine wl_call (by decide) Try.cl27 rfl hcl ?_
  clear hcl
  rintro _ w34 ⟨A34, c34, B34, d34, rfl, ho34, hp34, hE34⟩
  replace ho34 := ho34.bs.any
  replace hp34 := hp34.bs.any
  replace ho1 := ho1.ext hE34
  replace ho2 := ho2.ext hE34
  replace ho3 := ho3.ext hE34
  replace ho4 := ho4.ext hE34
  replace ho5 := ho5.ext hE34
  replace hs6 := hs6.ext hE34
  replace hs8 := hs8.ext hE34
  replace hs10 := hs10.ext hE34
  replace hs12 := hs12.ext hE34
  replace ho13 := ho13.ext hE34
  replace hs14 := hs14.ext hE34
  replace ho15 := ho15.ext hE34
  replace hs16 := hs16.ext hE34
  replace ho17 := ho17.ext hE34
  replace hs18 := hs18.ext hE34
  replace ho19 := ho19.ext hE34
  replace ho20 := ho20.ext hE34
  replace hs21 := hs21.ext hE34
  replace ho22 := ho22.ext hE34
  replace hs23 := hs23.ext hE34
  replace ho24 := ho24.ext hE34
  replace hs25 := hs25.ext hE34
  replace hs27 := hs27.ext hE34
  replace ho28 := ho28.ext hE34
  replace hp28 := hp28.ext hE34
  replace hb1 := hb1.ext hE34
  replace ho29 := ho29.ext hE34
  replace hp29 := hp29.ext hE34
  replace ho30 := ho30.ext hE34
  replace hp30 := hp30.ext hE34
  replace hs31 := hs31.ext hE34
  replace ho32 := ho32.ext hE34
  replace hp32 := hp32.ext hE34
  replace hs33 := hs33.ext hE34
  replace hEc := hEc.trans hE34
  refine wl_move (by decide) rfl ?_
  refine wl_extract (by decide) rfl rfl ?_
  refine wl_extract (by decide) rfl rfl ?_
  refine wl_extract (by decide) rfl rfl ?_
  refine wl_assign (by decide) rfl ?_
  refine wl_assign (by decide) rfl ?_
  refine wl_assign (by decide) rfl ?_
  refine wl_nil ?_
  refine wk_norm ?_
  refine wc_seq ?_
  refine wc_region ?_
  refine wl_bsliceB (xs := [.const (.int .u8 1)]) (bs := [1]) (by decide) Try.sl22 rfl rfl rfl (by simp) _ (Nat.le_refl _) ?_
  rintro g35 w35 _ hs35 hE35
  replace hs35 := hs35.bs.any
  replace ho1 := ho1.ext hE35
  replace ho2 := ho2.ext hE35
  replace ho3 := ho3.ext hE35
  replace ho4 := ho4.ext hE35
  replace ho5 := ho5.ext hE35
  replace hs6 := hs6.ext hE35
  replace hs8 := hs8.ext hE35
  replace hs10 := hs10.ext hE35
  replace hs12 := hs12.ext hE35
  replace ho13 := ho13.ext hE35
  replace hs14 := hs14.ext hE35
  replace ho15 := ho15.ext hE35
  replace hs16 := hs16.ext hE35
  replace ho17 := ho17.ext hE35
  replace hs18 := hs18.ext hE35
  replace ho19 := ho19.ext hE35
  replace ho20 := ho20.ext hE35
  replace hs21 := hs21.ext hE35
  replace ho22 := ho22.ext hE35
  replace hs23 := hs23.ext hE35
  replace ho24 := ho24.ext hE35
  replace hs25 := hs25.ext hE35
  replace hs27 := hs27.ext hE35
  replace ho28 := ho28.ext hE35
  replace hp28 := hp28.ext hE35
  replace hb1 := hb1.ext hE35
  replace ho29 := ho29.ext hE35
  replace hp29 := hp29.ext hE35
  replace ho30 := ho30.ext hE35
  replace hp30 := hp30.ext hE35
  replace hs31 := hs31.ext hE35
  replace ho32 := ho32.ext hE35
  replace hp32 := hp32.ext hE35
  replace hs33 := hs33.ext hE35
  replace ho34 := ho34.ext hE35
  replace hp34 := hp34.ext hE35
  replace hEc := hEc.trans hE35
  have hcl := takeFix_ok (n := (2)) hs35 (by omega) (by omega)
  refine wl_call (by decide) Try.cl29 rfl hcl ?_
  clear hcl
  rintro _ w36 ⟨A36, c36, B36, d36, rfl, ho36, hp36, hE36⟩
  replace ho36 := ho36.bs.any
  replace hp36 := hp36.bs.any
  replace ho1 := ho1.ext hE36
  replace ho2 := ho2.ext hE36
  replace ho3 := ho3.ext hE36
  replace ho4 := ho4.ext hE36
  replace ho5 := ho5.ext hE36
  replace hs6 := hs6.ext hE36
  replace hs8 := hs8.ext hE36
  replace hs10 := hs10.ext hE36
  replace hs12 := hs12.ext hE36
  replace ho13 := ho13.ext hE36
  replace hs14 := hs14.ext hE36
  replace ho15 := ho15.ext hE36
  replace hs16 := hs16.ext hE36
  replace ho17 := ho17.ext hE36
  replace hs18 := hs18.ext hE36
  replace ho19 := ho19.ext hE36
  replace ho20 := ho20.ext hE36
  replace hs21 := hs21.ext hE36
  replace ho22 := ho22.ext hE36
  replace hs23 := hs23.ext hE36
  replace ho24 := ho24.ext hE36
  replace hs25 := hs25.ext hE36
  replace hs27 := hs27.ext hE36
  replace ho28 := ho28.ext hE36
  replace hp28 := hp28.ext hE36
  replace hb1 := hb1.ext hE36
  replace ho29 := ho29.ext hE36
  replace hp29 := hp29.ext hE36
  replace ho30 := ho30.ext hE36
  replace hp30 := hp30.ext hE36
  replace hs31 := hs31.ext hE36
  replace ho32 := ho32.ext hE36
  replace hp32 := hp32.ext hE36
  replace hs33 := hs33.ext hE36
  replace ho34 := ho34.ext hE36
  replace hp34 := hp34.ext hE36
  replace hs35 := hs35.ext hE36
  replace hEc := hEc.trans hE36
  refine wl_move (by decide) rfl ?_
  refine wl_extract (by decide) rfl rfl ?_
  refine wl_extract (by decide) rfl rfl ?_
  refine wl_extract (by decide) rfl rfl ?_
  refine wl_assign (by decide) rfl ?_
  refine wl_assign (by decide) rfl ?_
  refine wl_assign (by decide) rfl ?_
  refine wl_nil ?_
  refine wk_norm ?_
  refine wc_seq ?_
  refine wc_region ?_
  refine wl_bsliceB (xs := [.const (.int .u8 1)]) (bs := [1]) (by decide) Try.sl22 rfl rfl rfl (by simp) _ (Nat.le_refl _) ?_
  rintro g37 w37 _ hs37 hE37
  replace hs37 := hs37.bs.any
  replace ho1 := ho1.ext hE37
  replace ho2 := ho2.ext hE37
  replace ho3 := ho3.ext hE37
  replace ho4 := ho4.ext hE37
  replace ho5 := ho5.ext hE37
  replace hs6 := hs6.ext hE37
  replace hs8 := hs8.ext hE37
  replace hs10 := hs10.ext hE37
  replace hs12 := hs12.ext hE37
  replace ho13 := ho13.ext hE37
  replace hs14 := hs14.ext hE37
  replace ho15 := ho15.ext hE37
  replace hs16 := hs16.ext hE37
  replace ho17 := ho17.ext hE37
  replace hs18 := hs18.ext hE37
  replace ho19 := ho19.ext hE37
  replace ho20 := ho20.ext hE37
  replace hs21 := hs21.ext hE37
  replace ho22 := ho22.ext hE37
  replace hs23 := hs23.ext hE37
  replace ho24 := ho24.ext hE37
  replace hs25 := hs25.ext hE37
  replace hs27 := hs27.ext hE37
  replace ho28 := ho28.ext hE37
  replace hp28 := hp28.ext hE37
  replace hb1 := hb1.ext hE37
  replace ho29 := ho29.ext hE37
  replace hp29 := hp29.ext hE37
  replace ho30 := ho30.ext hE37
  replace hp30 := hp30.ext hE37
  replace hs31 := hs31.ext hE37
  replace ho32 := ho32.ext hE37
  replace hp32 := hp32.ext hE37
  replace hs33 := hs33.ext hE37
  replace ho34 := ho34.ext hE37
  replace hp34 := hp34.ext hE37
  replace hs35 := hs35.ext hE37
  replace ho36 := ho36.ext hE37
  replace hp36 := hp36.ext hE37
  replace hEc := hEc.trans hE37
  have hcl := takeFix_ok (n := (-1)) hs37 (by omega) (by omega)
  refine wl_call (by decide) Try.cl29 rfl hcl ?_
  clear hcl
  rintro _ w38 ⟨A38, c38, B38, d38, rfl, ho38, hp38, hE38⟩
  replace ho38 := ho38.bs.any
  replace hp38 := hp38.bs.any
  replace ho1 := ho1.ext hE38
  replace ho2 := ho2.ext hE38
  replace ho3 := ho3.ext hE38
  replace ho4 := ho4.ext hE38
  replace ho5 := ho5.ext hE38
  replace hs6 := hs6.ext hE38
  replace hs8 := hs8.ext hE38
  replace hs10 := hs10.ext hE38
  replace hs12 := hs12.ext hE38
  replace ho13 := ho13.ext hE38
  replace hs14 := hs14.ext hE38
  replace ho15 := ho15.ext hE38
  replace hs16 := hs16.ext hE38
  replace ho17 := ho17.ext hE38
  replace hs18 := hs18.ext hE38
  replace ho19 := ho19.ext hE38
  replace ho20 := ho20.ext hE38
  replace hs21 := hs21.ext hE38
  replace ho22 := ho22.ext hE38
  replace hs23 := hs23.ext hE38
  replace ho24 := ho24.ext hE38
  replace hs25 := hs25.ext hE38
  replace hs27 := hs27.ext hE38
  replace ho28 := ho28.ext hE38
  replace hp28 := hp28.ext hE38
  replace hb1 := hb1.ext hE38
  replace ho29 := ho29.ext hE38
  replace hp29 := hp29.ext hE38
  replace ho30 := ho30.ext hE38
  replace hp30 := hp30.ext hE38
  replace hs31 := hs31.ext hE38
  replace ho32 := ho32.ext hE38
  replace hp32 := hp32.ext hE38
  replace hs33 := hs33.ext hE38
  replace ho34 := ho34.ext hE38
  replace hp34 := hp34.ext hE38
  replace hs35 := hs35.ext hE38
  replace ho36 := ho36.ext hE38
  replace hp36 := hp36.ext hE38
  replace hs37 := hs37.ext hE38
  replace hEc := hEc.trans hE38
  refine wl_move (by decide) rfl ?_
  refine wl_extract (by decide) rfl rfl ?_
  refine wl_extract (by decide) rfl rfl ?_
  refine wl_extract (by decide) rfl rfl ?_
  refine wl_assign (by decide) rfl ?_
  refine wl_assign (by decide) rfl ?_
  refine wl_assign (by decide) rfl ?_
  refine wl_nil ?_
  refine wk_norm ?_
  refine wc_seq ?_
  refine wc_region ?_
  refine wl_bsliceB (xs := [.const (.int .u8 1)]) (bs := [1]) (by decide) Try.sl22 rfl rfl rfl (by simp) _ (Nat.le_refl _) ?_
  rintro g39 w39 _ hs39 hE39
  replace hs39 := hs39.bs.any
  replace ho1 := ho1.ext hE39
  replace ho2 := ho2.ext hE39
  replace ho3 := ho3.ext hE39
  replace ho4 := ho4.ext hE39
  replace ho5 := ho5.ext hE39
  replace hs6 := hs6.ext hE39
  replace hs8 := hs8.ext hE39
  replace hs10 := hs10.ext hE39
  replace hs12 := hs12.ext hE39
  replace ho13 := ho13.ext hE39
  replace hs14 := hs14.ext hE39
  replace ho15 := ho15.ext hE39
  replace hs16 := hs16.ext hE39
  replace ho17 := ho17.ext hE39
  replace hs18 := hs18.ext hE39
  replace ho19 := ho19.ext hE39
  replace ho20 := ho20.ext hE39
  replace hs21 := hs21.ext hE39
  replace ho22 := ho22.ext hE39
  replace hs23 := hs23.ext hE39
  replace ho24 := ho24.ext hE39
  replace hs25 := hs25.ext hE39
  replace hs27 := hs27.ext hE39
  replace ho28 := ho28.ext hE39
  replace hp28 := hp28.ext hE39
  replace hb1 := hb1.ext hE39
  replace ho29 := ho29.ext hE39
  replace hp29 := hp29.ext hE39
  replace ho30 := ho30.ext hE39
  replace hp30 := hp30.ext hE39
  replace hs31 := hs31.ext hE39
  replace ho32 := ho32.ext hE39
  replace hp32 := hp32.ext hE39
  replace hs33 := hs33.ext hE39
  replace ho34 := ho34.ext hE39
  replace hp34 := hp34.ext hE39
  replace hs35 := hs35.ext hE39
  replace ho36 := ho36.ext hE39
  replace hp36 := hp36.ext hE39
  replace hs37 := hs37.ext hE39
  replace ho38 := ho38.ext hE39
  replace hp38 := hp38.ext hE39
  replace hEc := hEc.trans hE39
  have hcl := takeFix_ok (n := (9223372036854775807)) hs39 (by omega) (by omega)
  refine wl_call (by decide) Try.cl29 rfl hcl ?_
  clear hcl
  rintro _ w40 ⟨A40, c40, B40, d40, rfl, ho40, hp40, hE40⟩
  replace ho40 := ho40.bs.any
  replace hp40 := hp40.bs.any
  replace ho1 := ho1.ext hE40
  replace ho2 := ho2.ext hE40
  replace ho3 := ho3.ext hE40
  replace ho4 := ho4.ext hE40
  replace ho5 := ho5.ext hE40
  replace hs6 := hs6.ext hE40
  replace hs8 := hs8.ext hE40
  replace hs10 := hs10.ext hE40
  replace hs12 := hs12.ext hE40
  replace ho13 := ho13.ext hE40
  replace hs14 := hs14.ext hE40
  replace ho15 := ho15.ext hE40
  replace hs16 := hs16.ext hE40
  replace ho17 := ho17.ext hE40
  replace hs18 := hs18.ext hE40
  replace ho19 := ho19.ext hE40
  replace ho20 := ho20.ext hE40
  replace hs21 := hs21.ext hE40
  replace ho22 := ho22.ext hE40
  replace hs23 := hs23.ext hE40
  replace ho24 := ho24.ext hE40
  replace hs25 := hs25.ext hE40
  replace hs27 := hs27.ext hE40
  replace ho28 := ho28.ext hE40
  replace hp28 := hp28.ext hE40
  replace hb1 := hb1.ext hE40
  replace ho29 := ho29.ext hE40
  replace hp29 := hp29.ext hE40
  replace ho30 := ho30.ext hE40
  replace hp30 := hp30.ext hE40
  replace hs31 := hs31.ext hE40
  replace ho32 := ho32.ext hE40
  replace hp32 := hp32.ext hE40
  replace hs33 := hs33.ext hE40
  replace ho34 := ho34.ext hE40
  replace hp34 := hp34.ext hE40
  replace hs35 := hs35.ext hE40
  replace ho36 := ho36.ext hE40
  replace hp36 := hp36.ext hE40
  replace hs37 := hs37.ext hE40
  replace ho38 := ho38.ext hE40
  replace hp38 := hp38.ext hE40
  replace hs39 := hs39.ext hE40
  replace hEc := hEc.trans hE40
  refine wl_move (by decide) rfl ?_
  refine wl_extract (by decide) rfl rfl ?_
  refine wl_extract (by decide) rfl rfl ?_
  refine wl_extract (by decide) rfl rfl ?_
  refine wl_assign (by decide) rfl ?_
  refine wl_assign (by decide) rfl ?_
  refine wl_assign (by decide) rfl ?_
  refine wl_nil ?_
  refine wk_norm ?_
  refine wc_seq ?_
  refine wc_region ?_
  apply wl_make (k := 65536) (z := .int .u8 0) (lo := 0) (hT := Try.sl22) (hd := by decide)
  case hz => kernel_rfl
  case hx => rfl
  case hy => rfl
  case hb => decide
  case hlo => exact Nat.zero_le _
  rintro gm1 wm1 _ hm1 hEm1
  replace hm1 := hm1.zeros
  obtain ⟨zs1, hzs1⟩ : ∃ zs : List UInt8, zs = List.replicate 65536 0 := ⟨_, rfl⟩
  have hzl1 : zs1.length = 65536 := by rw [hzs1, List.length_replicate]
  rw [← hzs1] at hm1
  have hkz1 : 65536 = zs1.length := hzl1.symm
  clear hzs1
  refine wl_re (k := 243) (v := .slice (some ⟨gm1, 0, none⟩) zs1.length 65536) rfl (by rw [hzl1]) ?_
  replace hm1 := hm1.bs.any
  have hz1 : strS zs1 = (numL 65536 ++ zs1, 0) := by simp only [strS]; rw [if_neg (by omega), hzl1]
  replace ho1 := ho1.ext hEm1
  replace ho2 := ho2.ext hEm1
  replace ho3 := ho3.ext hEm1
  replace ho4 := ho4.ext hEm1
  replace ho5 := ho5.ext hEm1
  replace hs6 := hs6.ext hEm1
  replace hs8 := hs8.ext hEm1
  replace hs10 := hs10.ext hEm1
  replace hs12 := hs12.ext hEm1
  replace ho13 := ho13.ext hEm1
  replace hs14 := hs14.ext hEm1
  replace ho15 := ho15.ext hEm1
  replace hs16 := hs16.ext hEm1
  replace ho17 := ho17.ext hEm1
  replace hs18 := hs18.ext hEm1
  replace ho19 := ho19.ext hEm1
  replace ho20 := ho20.ext hEm1
  replace hs21 := hs21.ext hEm1
  replace ho22 := ho22.ext hEm1
  replace hs23 := hs23.ext hEm1
  replace ho24 := ho24.ext hEm1
  replace hs25 := hs25.ext hEm1
  replace hs27 := hs27.ext hEm1
  replace ho28 := ho28.ext hEm1
  replace hp28 := hp28.ext hEm1
  replace hb1 := hb1.ext hEm1
  replace ho29 := ho29.ext hEm1
  replace hp29 := hp29.ext hEm1
  replace ho30 := ho30.ext hEm1
  replace hp30 := hp30.ext hEm1
  replace hs31 := hs31.ext hEm1
  replace ho32 := ho32.ext hEm1
  replace hp32 := hp32.ext hEm1
  replace hs33 := hs33.ext hEm1
  replace ho34 := ho34.ext hEm1
  replace hp34 := hp34.ext hEm1
  replace hs35 := hs35.ext hEm1
  replace ho36 := ho36.ext hEm1
  replace hp36 := hp36.ext hEm1
  replace hs37 := hs37.ext hEm1
  replace ho38 := ho38.ext hEm1
  replace hp38 := hp38.ext hEm1
  replace hs39 := hs39.ext hEm1
  replace ho40 := ho40.ext hEm1
  replace hp40 := hp40.ext hEm1
  replace hEc := hEc.trans hEm1
  have hcl := str_ok hm1
  refine wl_call (by decide) Try.cl25 rfl hcl ?_
  clear hcl
  rintro _ w41 ⟨A41, c41, rfl, ho41, hE41⟩
  replace ho41 := ho41.bs.any
  replace ho1 := ho1.ext hE41
  replace ho2 := ho2.ext hE41
  replace ho3 := ho3.ext hE41
  replace ho4 := ho4.ext hE41
  replace ho5 := ho5.ext hE41
  replace hs6 := hs6.ext hE41
  replace hs8 := hs8.ext hE41
  replace hs10 := hs10.ext hE41
  replace hs12 := hs12.ext hE41
  replace ho13 := ho13.ext hE41
  replace hs14 := hs14.ext hE41
  replace ho15 := ho15.ext hE41
  replace hs16 := hs16.ext hE41
  replace ho17 := ho17.ext hE41
  replace hs18 := hs18.ext hE41
  replace ho19 := ho19.ext hE41
  replace ho20 := ho20.ext hE41
  replace hs21 := hs21.ext hE41
  replace ho22 := ho22.ext hE41
  replace hs23 := hs23.ext hE41
  replace ho24 := ho24.ext hE41
  replace hs25 := hs25.ext hE41
  replace hs27 := hs27.ext hE41
  replace ho28 := ho28.ext hE41
  replace hp28 := hp28.ext hE41
  replace hb1 := hb1.ext hE41
  replace ho29 := ho29.ext hE41
  replace hp29 := hp29.ext hE41
  replace ho30 := ho30.ext hE41
  replace hp30 := hp30.ext hE41
  replace hs31 := hs31.ext hE41
  replace ho32 := ho32.ext hE41
  replace hp32 := hp32.ext hE41
  replace hs33 := hs33.ext hE41
  replace ho34 := ho34.ext hE41
  replace hp34 := hp34.ext hE41
  replace hs35 := hs35.ext hE41
  replace ho36 := ho36.ext hE41
  replace hp36 := hp36.ext hE41
  replace hs37 := hs37.ext hE41
  replace ho38 := ho38.ext hE41
  replace hp38 := hp38.ext hE41
  replace hs39 := hs39.ext hE41
  replace ho40 := ho40.ext hE41
  replace hp40 := hp40.ext hE41
  replace hm1 := hm1.ext hE41
  replace hEc := hEc.trans hE41
  refine wl_move (by decide) rfl ?_
  refine wl_extract (by decide) rfl rfl ?_
  refine wl_extract (by decide) rfl rfl ?_
  refine wl_assign (by decide) rfl ?_
  refine wl_assign (by decide) rfl ?_
  refine wl_nil ?_
  refine wk_norm ?_
  refine wc_seq ?_
  refine wc_region ?_
  apply wl_make (k := 65537) (z := .int .u8 0) (lo := 0) (hT := Try.sl22) (hd := by decide)
  case hz => kernel_rfl
  case hx => rfl
  case hy => rfl
  case hb => decide
  case hlo => exact Nat.zero_le _
  rintro gm2 wm2 _ hm2 hEm2
  replace hm2 := hm2.zeros
  obtain ⟨zs2, hzs2⟩ : ∃ zs : List UInt8, zs = List.replicate 65537 0 := ⟨_, rfl⟩
  have hzl2 : zs2.length = 65537 := by rw [hzs2, List.length_replicate]
  rw [← hzs2] at hm2
  have hkz2 : 65537 = zs2.length := hzl2.symm
  clear hzs2
  refine wl_re (k := 248) (v := .slice (some ⟨gm2, 0, none⟩) zs2.length 65537) rfl (by rw [hzl2]) ?_
  replace hm2 := hm2.bs.any
  have hz2 : strS zs2 = ([], 5) := by simp only [strS]; rw [if_pos (by omega)]
  replace ho1 := ho1.ext hEm2
  replace ho2 := ho2.ext hEm2
  replace ho3 := ho3.ext hEm2
  replace ho4 := ho4.ext hEm2
  replace ho5 := ho5.ext hEm2
  replace hs6 := hs6.ext hEm2
  replace hs8 := hs8.ext hEm2
  replace hs10 := hs10.ext hEm2
  replace hs12 := hs12.ext hEm2
  replace ho13 := ho13.ext hEm2
  replace hs14 := hs14.ext hEm2
  replace ho15 := ho15.ext hEm2
  replace hs16 := hs16.ext hEm2
  replace ho17 := ho17.ext hEm2
  replace hs18 := hs18.ext hEm2
  replace ho19 := ho19.ext hEm2
  replace ho20 := ho20.ext hEm2
  replace hs21 := hs21.ext hEm2
  replace ho22 := ho22.ext hEm2
  replace hs23 := hs23.ext hEm2
  replace ho24 := ho24.ext hEm2
  replace hs25 := hs25.ext hEm2
  replace hs27 := hs27.ext hEm2
  replace ho28 := ho28.ext hEm2
  replace hp28 := hp28.ext hEm2
  replace hb1 := hb1.ext hEm2
  replace ho29 := ho29.ext hEm2
  replace hp29 := hp29.ext hEm2
  replace ho30 := ho30.ext hEm2
  replace hp30 := hp30.ext hEm2
  replace hs31 := hs31.ext hEm2
  replace ho32 := ho32.ext hEm2
  replace hp32 := hp32.ext hEm2
  replace hs33 := hs33.ext hEm2
  replace ho34 := ho34.ext hEm2
  replace hp34 := hp34.ext hEm2
  replace hs35 := hs35.ext hEm2
  replace ho36 := ho36.ext hEm2
  replace hp36 := hp36.ext hEm2
  replace hs37 := hs37.ext hEm2
  replace ho38 := ho38.ext hEm2
  replace hp38 := hp38.ext hEm2
  replace hs39 := hs39.ext hEm2
  replace ho40 := ho40.ext hEm2
  replace hp40 := hp40.ext hEm2
  replace hm1 := hm1.ext hEm2
  replace ho41 := ho41.ext hEm2
  replace hEc := hEc.trans hEm2
  have hcl := str_ok hm2
  refine wl_call (by decide) Try.cl25 rfl hcl ?_
  clear hcl
  rintro _ w42 ⟨A42, c42, rfl, ho42, hE42⟩
  replace ho42 := ho42.bs.any
  replace ho1 := ho1.ext hE42
  replace ho2 := ho2.ext hE42
  replace ho3 := ho3.ext hE42
  replace ho4 := ho4.ext hE42
  replace ho5 := ho5.ext hE42
  replace hs6 := hs6.ext hE42
  replace hs8 := hs8.ext hE42
  replace hs10 := hs10.ext hE42
  replace hs12 := hs12.ext hE42
  replace ho13 := ho13.ext hE42
  replace hs14 := hs14.ext hE42
  replace ho15 := ho15.ext hE42
  replace hs16 := hs16.ext hE42
  replace ho17 := ho17.ext hE42
  replace hs18 := hs18.ext hE42
  replace ho19 := ho19.ext hE42
  replace ho20 := ho20.ext hE42
  replace hs21 := hs21.ext hE42
  replace ho22 := ho22.ext hE42
  replace hs23 := hs23.ext hE42
  replace ho24 := ho24.ext hE42
  replace hs25 := hs25.ext hE42
  replace hs27 := hs27.ext hE42
  replace ho28 := ho28.ext hE42
  replace hp28 := hp28.ext hE42
  replace hb1 := hb1.ext hE42
  replace ho29 := ho29.ext hE42
  replace hp29 := hp29.ext hE42
  replace ho30 := ho30.ext hE42
  replace hp30 := hp30.ext hE42
  replace hs31 := hs31.ext hE42
  replace ho32 := ho32.ext hE42
  replace hp32 := hp32.ext hE42
  replace hs33 := hs33.ext hE42
  replace ho34 := ho34.ext hE42
  replace hp34 := hp34.ext hE42
  replace hs35 := hs35.ext hE42
  replace ho36 := ho36.ext hE42
  replace hp36 := hp36.ext hE42
  replace hs37 := hs37.ext hE42
  replace ho38 := ho38.ext hE42
  replace hp38 := hp38.ext hE42
  replace hs39 := hs39.ext hE42
  replace ho40 := ho40.ext hE42
  replace hp40 := hp40.ext hE42
  replace hm1 := hm1.ext hE42
  replace ho41 := ho41.ext hE42
  replace hm2 := hm2.ext hE42
  replace hEc := hEc.trans hE42
  refine wl_move (by decide) rfl ?_
  refine wl_extract (by decide) rfl rfl ?_
  refine wl_extract (by decide) rfl rfl ?_
  refine wl_assign (by decide) rfl ?_
  refine wl_assign (by decide) rfl ?_
  refine wl_nil ?_
  refine wk_norm ?_
  refine wc_seq ?_
  refine wc_region ?_
  refine wl_move (by decide) rfl ?_
  refine wl_eql (by decide) rfl rfl ?_
  refine wl_re (k := 253) (v := .bool true) rfl (congrArg Value.bool (decide_eq_true (by decide +kernel))) ?_
  refine wl_move (by decide) rfl ?_
  refine wl_gyes rfl rfl ?_
  refine wl_move (by decide) rfl ?_
  refine wl_gyes rfl rfl ?_
  refine wl_eql (by decide) rfl rfl ?_
  refine wl_re (k := 256) (v := .bool true) rfl (congrArg Value.bool (decide_eq_true (by decide +kernel))) ?_
  refine wl_pick (by decide) rfl rfl ?_
  refine wl_move (by decide) rfl ?_
  refine wl_gyes rfl rfl ?_
  refine wl_move (by decide) rfl ?_
  refine wl_gyes rfl rfl ?_
  refine wl_eql (by decide) rfl rfl ?_
  refine wl_re (k := 260) (v := .bool true) rfl (congrArg Value.bool (decide_eq_true (by decide +kernel))) ?_
  refine wl_pick (by decide) rfl rfl ?_
  refine wl_move (by decide) rfl ?_
  refine wl_gyes rfl rfl ?_
  refine wl_move (by decide) rfl ?_
  refine wl_gyes rfl rfl ?_
  refine wl_eql (by decide) rfl rfl ?_
  refine wl_re (k := 264) (v := .bool true) rfl (congrArg Value.bool (decide_eq_true (by decide +kernel))) ?_
  refine wl_pick (by decide) rfl rfl ?_
  refine wl_move (by decide) rfl ?_
  refine wl_gyes rfl rfl ?_
  refine wl_move (by decide) rfl ?_
  refine wl_gyes rfl rfl ?_
  refine wl_eql (by decide) rfl rfl ?_
  refine wl_re (k := 268) (v := .bool true) rfl (congrArg Value.bool (decide_eq_true (by decide +kernel))) ?_
  refine wl_pick (by decide) rfl rfl ?_
  refine wl_move (by decide) rfl ?_
  refine wl_gyes rfl rfl ?_
  refine wl_move (by decide) rfl ?_
  refine wl_gyes rfl rfl ?_
  refine wl_len (by decide) Try.underlying22 rfl ?_
  refine wl_gyes rfl rfl ?_
  refine wl_eql (by decide) rfl rfl ?_
  refine wl_re (k := 273) (v := .bool true) rfl (congrArg Value.bool (decide_eq_true (by decide +kernel))) ?_
  refine wl_pick (by decide) rfl rfl ?_
  refine wl_move (by decide) rfl ?_
  refine wl_gyes rfl rfl ?_
  refine wl_move (by decide) rfl ?_
  refine wl_gyes rfl rfl ?_
  refine wl_bsliceB (xs := [.const (.int .u8 5)]) (bs := [5]) (by decide) Try.sl22 rfl rfl rfl (by simp) _ (Nat.le_refl _) ?_
  rintro g43 w43 _ hs43 hE43
  replace hs43 := hs43.bs.any
  replace ho1 := ho1.ext hE43
  replace ho2 := ho2.ext hE43
  replace ho3 := ho3.ext hE43
  replace ho4 := ho4.ext hE43
  replace ho5 := ho5.ext hE43
  replace hs6 := hs6.ext hE43
  replace hs8 := hs8.ext hE43
  replace hs10 := hs10.ext hE43
  replace hs12 := hs12.ext hE43
  replace ho13 := ho13.ext hE43
  replace hs14 := hs14.ext hE43
  replace ho15 := ho15.ext hE43
  replace hs16 := hs16.ext hE43
  replace ho17 := ho17.ext hE43
  replace hs18 := hs18.ext hE43
  replace ho19 := ho19.ext hE43
  replace ho20 := ho20.ext hE43
  replace hs21 := hs21.ext hE43
  replace ho22 := ho22.ext hE43
  replace hs23 := hs23.ext hE43
  replace ho24 := ho24.ext hE43
  replace hs25 := hs25.ext hE43
  replace hs27 := hs27.ext hE43
  replace ho28 := ho28.ext hE43
  replace hp28 := hp28.ext hE43
  replace hb1 := hb1.ext hE43
  replace ho29 := ho29.ext hE43
  replace hp29 := hp29.ext hE43
  replace ho30 := ho30.ext hE43
  replace hp30 := hp30.ext hE43
  replace hs31 := hs31.ext hE43
  replace ho32 := ho32.ext hE43
  replace hp32 := hp32.ext hE43
  replace hs33 := hs33.ext hE43
  replace ho34 := ho34.ext hE43
  replace hp34 := hp34.ext hE43
  replace hs35 := hs35.ext hE43
  replace ho36 := ho36.ext hE43
  replace hp36 := hp36.ext hE43
  replace hs37 := hs37.ext hE43
  replace ho38 := ho38.ext hE43
  replace hp38 := hp38.ext hE43
  replace hs39 := hs39.ext hE43
  replace ho40 := ho40.ext hE43
  replace hp40 := hp40.ext hE43
  replace hm1 := hm1.ext hE43
  replace ho41 := ho41.ext hE43
  replace hm2 := hm2.ext hE43
  replace ho42 := ho42.ext hE43
  replace hEc := hEc.trans hE43
  refine wl_gyes rfl rfl ?_
  have hcl := eqBytes_ok hp34 hs43
  refine wl_call (by decide) Try.cl22 rfl hcl ?_
  clear hcl
  rintro _ w44 ⟨rfl, hE44⟩
  replace ho1 := ho1.ext hE44
  replace ho2 := ho2.ext hE44
  replace ho3 := ho3.ext hE44
  replace ho4 := ho4.ext hE44
  replace ho5 := ho5.ext hE44
  replace hs6 := hs6.ext hE44
  replace hs8 := hs8.ext hE44
  replace hs10 := hs10.ext hE44
  replace hs12 := hs12.ext hE44
  replace ho13 := ho13.ext hE44
  replace hs14 := hs14.ext hE44
  replace ho15 := ho15.ext hE44
  replace hs16 := hs16.ext hE44
  replace ho17 := ho17.ext hE44
  replace hs18 := hs18.ext hE44
  replace ho19 := ho19.ext hE44
  replace ho20 := ho20.ext hE44
  replace hs21 := hs21.ext hE44
  replace ho22 := ho22.ext hE44
  replace hs23 := hs23.ext hE44
  replace ho24 := ho24.ext hE44
  replace hs25 := hs25.ext hE44
  replace hs27 := hs27.ext hE44
  replace ho28 := ho28.ext hE44
  replace hp28 := hp28.ext hE44
  replace hb1 := hb1.ext hE44
  replace ho29 := ho29.ext hE44
  replace hp29 := hp29.ext hE44
  replace ho30 := ho30.ext hE44
  replace hp30 := hp30.ext hE44
  replace hs31 := hs31.ext hE44
  replace ho32 := ho32.ext hE44
  replace hp32 := hp32.ext hE44
  replace hs33 := hs33.ext hE44
  replace ho34 := ho34.ext hE44
  replace hp34 := hp34.ext hE44
  replace hs35 := hs35.ext hE44
  replace ho36 := ho36.ext hE44
  replace hp36 := hp36.ext hE44
  replace hs37 := hs37.ext hE44
  replace ho38 := ho38.ext hE44
  replace hp38 := hp38.ext hE44
  replace hs39 := hs39.ext hE44
  replace ho40 := ho40.ext hE44
  replace hp40 := hp40.ext hE44
  replace hm1 := hm1.ext hE44
  replace ho41 := ho41.ext hE44
  replace hm2 := hm2.ext hE44
  replace ho42 := ho42.ext hE44
  replace hs43 := hs43.ext hE44
  replace hEc := hEc.trans hE44
  refine wl_re (k := 278) (v := .bool true) rfl (congrArg Value.bool (decide_eq_true (by decide +kernel))) ?_
  refine wl_pick (by decide) rfl rfl ?_
  refine wl_move (by decide) rfl ?_
  refine wl_gyes rfl rfl ?_
  refine wl_move (by decide) rfl ?_
  refine wl_gyes rfl rfl ?_
  refine wl_eql (by decide) rfl rfl ?_
  refine wl_re (k := 282) (v := .bool true) rfl (congrArg Value.bool (decide_eq_true (by decide +kernel))) ?_
  refine wl_pick (by decide) rfl rfl ?_
  refine wl_move (by decide) rfl ?_
  refine wl_gyes rfl rfl ?_
  refine wl_move (by decide) rfl ?_
  refine wl_gyes rfl rfl ?_
  refine wl_eql (by decide) rfl rfl ?_
  refine wl_re (k := 286) (v := .bool true) rfl (congrArg Value.bool (decide_eq_true (by decide +kernel))) ?_
  refine wl_pick (by decide) rfl rfl ?_
  refine wl_move (by decide) rfl ?_
  refine wl_gyes rfl rfl ?_
  refine wl_move (by decide) rfl ?_
  refine wl_gyes rfl rfl ?_
  refine wl_eql (by decide) rfl rfl ?_
  refine wl_re (k := 290) (v := .bool true) rfl (congrArg Value.bool (decide_eq_true (by decide +kernel))) ?_
  refine wl_pick (by decide) rfl rfl ?_
  refine wl_move (by decide) rfl ?_
  refine wl_gyes rfl rfl ?_
  refine wl_move (by decide) rfl ?_
  refine wl_gyes rfl rfl ?_
  refine wl_eql (by decide) rfl rfl ?_
  refine wl_re (k := 294) (v := .bool true) rfl (congrArg Value.bool (decide_eq_true (by rw [hz1]))) ?_
  refine wl_pick (by decide) rfl rfl ?_
  refine wl_move (by decide) rfl ?_
  refine wl_gyes rfl rfl ?_
  refine wl_move (by decide) rfl ?_
  refine wl_gyes rfl rfl ?_
  refine wl_len (by decide) Try.underlying22 rfl ?_
  refine wl_gyes rfl rfl ?_
  refine wl_eql (by decide) rfl rfl ?_
  refine wl_re (k := 299) (v := .bool true) rfl (congrArg Value.bool (decide_eq_true (by rw [hz1, List.length_append, hzl1]; decide +kernel))) ?_
  refine wl_pick (by decide) rfl rfl ?_
  refine wl_move (by decide) rfl ?_
  refine wl_gyes rfl rfl ?_
  refine wl_move (by decide) rfl ?_
  refine wl_gyes rfl rfl ?_
  refine wl_eql (by decide) rfl rfl ?_
  refine wl_re (k := 303) (v := .bool true) rfl (congrArg Value.bool (decide_eq_true (by rw [hz2]))) ?_
  refine wl_pick (by decide) rfl rfl ?_
  refine wl_assign (by decide) rfl ?_
  refine wl_nil ?_
  refine wk_norm ?_
  refine wc_seq ?_
  refine wc_region ?_
  refine wl_move (by decide) rfl ?_
  refine wl_gyes rfl rfl ?_
  refine wl_call (by decide) Try.cl24 rfl (works_ok) ?_
  rintro _ w45 ⟨rfl, hE45⟩
  replace ho1 := ho1.ext hE45
  replace ho2 := ho2.ext hE45
  replace ho3 := ho3.ext hE45
  replace ho4 := ho4.ext hE45
  replace ho5 := ho5.ext hE45
  replace hs6 := hs6.ext hE45
  replace hs8 := hs8.ext hE45
  replace hs10 := hs10.ext hE45
  replace hs12 := hs12.ext hE45
  replace ho13 := ho13.ext hE45
  replace hs14 := hs14.ext hE45
  replace ho15 := ho15.ext hE45
  replace hs16 := hs16.ext hE45
  replace ho17 := ho17.ext hE45
  replace hs18 := hs18.ext hE45
  replace ho19 := ho19.ext hE45
  replace ho20 := ho20.ext hE45
  replace hs21 := hs21.ext hE45
  replace ho22 := ho22.ext hE45
  replace hs23 := hs23.ext hE45
  replace ho24 := ho24.ext hE45
  replace hs25 := hs25.ext hE45
  replace hs27 := hs27.ext hE45
  replace ho28 := ho28.ext hE45
  replace hp28 := hp28.ext hE45
  replace hb1 := hb1.ext hE45
  replace ho29 := ho29.ext hE45
  replace hp29 := hp29.ext hE45
  replace ho30 := ho30.ext hE45
  replace hp30 := hp30.ext hE45
  replace hs31 := hs31.ext hE45
  replace ho32 := ho32.ext hE45
  replace hp32 := hp32.ext hE45
  replace hs33 := hs33.ext hE45
  replace ho34 := ho34.ext hE45
  replace hp34 := hp34.ext hE45
  replace hs35 := hs35.ext hE45
  replace ho36 := ho36.ext hE45
  replace hp36 := hp36.ext hE45
  replace hs37 := hs37.ext hE45
  replace ho38 := ho38.ext hE45
  replace hp38 := hp38.ext hE45
  replace hs39 := hs39.ext hE45
  replace ho40 := ho40.ext hE45
  replace hp40 := hp40.ext hE45
  replace hm1 := hm1.ext hE45
  replace ho41 := ho41.ext hE45
  replace hm2 := hm2.ext hE45
  replace ho42 := ho42.ext hE45
  replace hs43 := hs43.ext hE45
  replace hEc := hEc.trans hE45
  refine wl_pick (by decide) rfl rfl ?_
  refine wl_move (by decide) rfl ?_
  refine wl_gyes rfl rfl ?_
  refine wl_move (by decide) rfl ?_
  refine wl_pick (by decide) rfl rfl ?_
  refine wl_move (by decide) rfl ?_
  refine wl_gyes rfl rfl ?_
  refine wl_move (by decide) rfl ?_
  refine wl_pick (by decide) rfl rfl ?_
  refine wl_move (by decide) rfl ?_
  refine wl_gyes rfl rfl ?_
  refine wl_move (by decide) rfl ?_
  refine wl_pick (by decide) rfl rfl ?_
  refine wl_move (by decide) rfl ?_
  refine wl_gyes rfl rfl ?_
  have hcl := join_ok (GS.nil (sliceR byteR) (fun _ => True) w45 none 0) (by simp)
  refine wl_call (by decide) Try.cl31 rfl hcl ?_
  clear hcl
  rintro _ w46 ⟨A46, c46, rfl, ho46, hE46⟩
  replace ho46 := ho46.bs.any
  replace ho1 := ho1.ext hE46
  replace ho2 := ho2.ext hE46
  replace ho3 := ho3.ext hE46
  replace ho4 := ho4.ext hE46
  replace ho5 := ho5.ext hE46
  replace hs6 := hs6.ext hE46
  replace hs8 := hs8.ext hE46
  replace hs10 := hs10.ext hE46
  replace hs12 := hs12.ext hE46
  replace ho13 := ho13.ext hE46
  replace hs14 := hs14.ext hE46
  replace ho15 := ho15.ext hE46
  replace hs16 := hs16.ext hE46
  replace ho17 := ho17.ext hE46
  replace hs18 := hs18.ext hE46
  replace ho19 := ho19.ext hE46
  replace ho20 := ho20.ext hE46
  replace hs21 := hs21.ext hE46
  replace ho22 := ho22.ext hE46
  replace hs23 := hs23.ext hE46
  replace ho24 := ho24.ext hE46
  replace hs25 := hs25.ext hE46
  replace hs27 := hs27.ext hE46
  replace ho28 := ho28.ext hE46
  replace hp28 := hp28.ext hE46
  replace hb1 := hb1.ext hE46
  replace ho29 := ho29.ext hE46
  replace hp29 := hp29.ext hE46
  replace ho30 := ho30.ext hE46
  replace hp30 := hp30.ext hE46
  replace hs31 := hs31.ext hE46
  replace ho32 := ho32.ext hE46
  replace hp32 := hp32.ext hE46
  replace hs33 := hs33.ext hE46
  replace ho34 := ho34.ext hE46
  replace hp34 := hp34.ext hE46
  replace hs35 := hs35.ext hE46
  replace ho36 := ho36.ext hE46
  replace hp36 := hp36.ext hE46
  replace hs37 := hs37.ext hE46
  replace ho38 := ho38.ext hE46
  replace hp38 := hp38.ext hE46
  replace hs39 := hs39.ext hE46
  replace ho40 := ho40.ext hE46
  replace hp40 := hp40.ext hE46
  replace hm1 := hm1.ext hE46
  replace ho41 := ho41.ext hE46
  replace hm2 := hm2.ext hE46
  replace ho42 := ho42.ext hE46
  replace hs43 := hs43.ext hE46
  replace hEc := hEc.trans hE46
  refine wl_gyes rfl rfl ?_
  refine wl_len (by decide) Try.underlying22 rfl ?_
  refine wl_gyes rfl rfl ?_
  refine wl_eql (by decide) rfl rfl ?_
  refine wl_re (k := 320) (v := .bool true) rfl (congrArg Value.bool (decide_eq_true (by rfl))) ?_
  refine wl_pick (by decide) rfl rfl ?_
  refine wl_assign (by decide) rfl ?_
  refine wl_nil ?_
  refine wk_norm ?_
  refine wc_ret ?_
  refine wk_post1 (.inl rfl) Try.results16 rfl ?_
  exact ⟨_, rfl, rfl, hEc⟩

end Go.Proofs.Ytifnbemboednaaa
