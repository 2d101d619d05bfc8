/- What each of these functions computes, for every argument that its theorem names; a part of what the proof of NotePacks stands on. -/
import Derived.Test.YtkdoomglflikkaaGreatQac
import Derived.Test.YtkdoomglflikkaaGreatQad
import Derived.Test.YtkdoomglflikkaaGreatQae
import Derived.Test.YtkdoomglflikkaaGreatQag
import Derived.Test.YtkdoomglflikkaaGreatQah
import Derived.Test.YtkdoomglflikkaaGreatQak
import Derived.Test.YtkdoomglflikkaaGreatQan
import Derived.Test.YtkdoomglflikkaaGreatQat
import Derived.Test.YtkdoomglflikkaaGreatQax
import Derived.Test.YtkdoomglflikkaaGreatQay
import Derived.Test.YtkdoomglflikkaaGreatQba
import Derived.Test.YtkdoomglflikkaaGreatQbd
import Derived.Test.YtkdoomglflikkaaGreatQbi
import Derived.Test.YtkdoomglflikkaaGreatQbp
namespace Go.Proofs.YtkdoomglflikkaaGreat
open Go.RowKit Go.Eng Go.Eng _root_.Go.Proofs.Tryz
set_option maxRecDepth 100000
variable {w0 w : World} {M0 Fz : Nat → Prop} {H : List It} {A : Option Addr} {c : Nat}
set_option maxHeartbeats 40000000 in
theorem lAwake_ok   : Ret prog 19 #[] w (fun v w' => v = .bool true ∧ Ext w w') := by
 refine ret_of_wk func19 rfl ntmps19 leB_ ?_
 have hp:=HP.begin_ w
 refine so ?_
 refine Ce (lChapter_ok hp) ?_
 rintro _ w1 ⟨F1, A1, c1, rfl, hp, hF1, hs1⟩
 refine so ?_
 refine Lp [1, 2] (fun L' w' mes => ∃ (i : Nat), ∃ (F : Nat → Prop), L' = [(1, .slice A1 (chapL 16).length c1), (2, iv (i : Int))] ∧ (i ≤ 16) ∧ (GS noteR F w' A1 c1 (chapL 16)) ∧ (HP w (fun _ => False) F w' []) ∧ 16 - i = mes) (16 - 0) ⟨0, F1, rfl, by omega, hs1, hp, rfl⟩ ?_
 rintro _ wr _ ⟨i, F, rfl, hi, hw, hp, rfl⟩ KL1 hKL1
 refine so ?_
 refine Cd ?_ ?_<;>intro hlt
 have hj : i < 16 := by rw [chapL_len] at hlt; omega
 have hpm:=chapL_pm hj
 refine so ?_
 obtain ⟨ae2, pe2_0, qe2_0, pe2_1, qe2_1, pe2_2, qe2_2, pe2_3, qe2_3, pe2_4, qe2_4, pe2_5, qe2_5, pe2_6, qe2_6, pe2_7, qe2_7, pe2_8, qe2_8, pe2_9, qe2_9, pe2_10, qe2_10, hAe2, hate2, hIe2, he2_0, he2_1, he2_2, he2_3, he2_4, he2_5, he2_6, he2_7, he2_8, he2_9, he2_10⟩ := noteR_el hw i (by rw [chapL_len]; exact hj)
 refine wl_idx0 (by decide) sl54 rfl rfl hAe2 i rfl (by rw [chapL_len]; exact hj) (so ?_)
 refine Ce (nPack_ok ⟨hIe2, _, _, _, _, _, _, _, _, _, _, _, _, _, _, _, _, _, _, _, _, _, _, rfl, he2_0, he2_1, he2_2, he2_3, he2_4, he2_5, he2_6, he2_7, he2_8, he2_9, he2_10⟩ (pm_few hpm)) ?_
 rintro _ w3 ⟨A3, c3, rfl, ho3, hE3⟩
 replace ho3:=ho3.bs
 have hsz4:=hp.chg.size
 obtain ⟨Fz4, hp4, hsub4, hnew4, hup4⟩ := hp.frz hE3
 replace hp:=hp4
 replace ho3:=ho3.frz hnew4
 refine so ?_
 refine Ce (nUnpack_ok hp ho3) ?_
 rintro _ wu28 ⟨Fu28, csu28, xu28, eu28, rfl, hpu28, hFu28, hrdu28, huu28⟩
 have qhrdu28:=hrdu28
 obtain ⟨hIu28, Au28_0, cu28_0, Au28_1, cu28_1, Au28_2, cu28_2, Au28_3, cu28_3, Au28_4, cu28_4, Au28_5, cu28_5, Au28_6, cu28_6, Au28_7, cu28_7, Au28_8, cu28_8, Au28_9, cu28_9, Au28_10, cu28_10, rfl, hru28_0, hru28_1, hru28_2, hru28_3, hru28_4, hru28_5, hru28_6, hru28_7, hru28_8, hru28_9, hru28_10⟩ := hrdu28
 replace hp:=hpu28
 have hux : xu28 = ((chapL 16).getD i note0) := congrArg Prod.fst (huu28.trans (unpack_pm hpm))
 have hue : eu28 = 0 := congrArg Prod.snd (huu28.trans (unpack_pm hpm))
 refine so ?_
 refine Alo hp (h := fun gs5 w5 hp hE5 => ?_)
 refine Hs 0 hp (h := fun w6 hp hC6 => so ?_)
 by_cases hq1 : (packS ((chapL 16).getD i note0)).2 ≠ 0
 exact absurd (congrArg Prod.snd (packS_pm hpm)) hq1
 by_cases hq2 : eu28 ≠ 0
 exact absurd hue hq2
 obtain ⟨aw10, pw10_0, qw10_0, pw10_1, qw10_1, pw10_2, qw10_2, pw10_3, qw10_3, pw10_4, qw10_4, pw10_5, qw10_5, pw10_6, qw10_6, pw10_7, qw10_7, pw10_8, qw10_8, pw10_9, qw10_9, pw10_10, qw10_10, hAw10, hatw10, hIw10, hw10_0, hw10_1, hw10_2, hw10_3, hw10_4, hw10_5, hw10_6, hw10_7, hw10_8, hw10_9, hw10_10⟩ := noteR_el (hw.to (w' := w6)) i (by rw [chapL_len]; exact hj)
 refine wdP 15 hp (fun wD hp hED => by refine pm ?_; exact .op rfl (aGy rfl rfl (by first | rfl | exact bt | exact bf) (wl_idx0 (by decide) sl54 rfl rfl hAw10 i rfl (by rw [chapL_len]; exact hj) (wl_nil qp))) (by refine pm ?_; exact PLeg (rSame_ok (rdTo qhrdu28) ⟨hIw10, _, _, _, _, _, _, _, _, _, _, _, _, _, _, _, _, _, _, _, _, _, _, rfl, hw10_0.to, hw10_1.to, hw10_2.to, hw10_3.to, hw10_4.to, hw10_5.to, hw10_6.to, hw10_7.to, hw10_8.to, hw10_9.to, hw10_10.to⟩) (h := pl))) fun wD hp hED => ?_
 refine so ?_
 refine Cd ?_ ?_<;>intro hq3<;>refine so ?_
 exact absurd hux hq3
 exact Kl [1, 2] hKL1 (16 - (i + 1)) ⟨(i + 1), Fu28, rfl, by omega, hw.to, hp.tail, rfl⟩ (by omega)
 refine so ?_
 obtain ⟨ae7, pe7_0, qe7_0, pe7_1, qe7_1, pe7_2, qe7_2, pe7_3, qe7_3, pe7_4, qe7_4, pe7_5, qe7_5, pe7_6, qe7_6, pe7_7, qe7_7, pe7_8, qe7_8, pe7_9, qe7_9, pe7_10, qe7_10, hAe7, hate7, hIe7, he7_0, he7_1, he7_2, he7_3, he7_4, he7_5, he7_6, he7_7, he7_8, he7_9, he7_10⟩ := noteR_el hw 3 (by rw [chapL_len]; decide)
 refine wl_idx0 (by decide) sl54 rfl rfl hAe7 3 rfl (by rw [chapL_len]; decide) (so ?_)
 refine Ce (nPack_ok ⟨hIe7, _, _, _, _, _, _, _, _, _, _, _, _, _, _, _, _, _, _, _, _, _, _, rfl, he7_0, he7_1, he7_2, he7_3, he7_4, he7_5, he7_6, he7_7, he7_8, he7_9, he7_10⟩ (pm_few (chapL_pm (by decide)))) ?_
 rintro _ w8 ⟨A8, c8, rfl, ho8, hE8⟩
 replace ho8:=ho8.bs
 have hsz9:=hp.chg.size
 obtain ⟨Fz9, hp9, hsub9, hnew9, hup9⟩ := hp.frz hE8
 replace hp:=hp9
 replace ho8:=ho8.frz hnew9
 refine so ?_
 refine wl_bsliceN (xs := [.const (iv 5), .const (iv 6), .const (iv 7), .const (iv 9)]) (l := [5, 6, 7, 9]) (by decide) sl27 rfl rfl rfl leB_ ?_
 rintro gb10 wb10 _ hs10 hE10
 have hsz11:=hp.chg.size
 obtain ⟨Fz11, hp11, hsub11, hnew11, hup11⟩ := hp.frz hE10
 replace hp:=hp11
 replace hs10:=hs10.frz hnew11
 refine wl_builtS (ps := [(0, .const (iv 12)), (1, .const (iv 2)), (2, .const (iv 1)), (3, .const (iv 5)), (18, .tmp 54)]) (by decide) bld38 rfl rfl ?_
 refine Ce (nPack_ok ⟨(show NteI ({ note0 with kind := 12, from_ := 2, group := 1, epoch := 5, nodes := [5, 6, 7, 9] } : Nte) by unfold NteI i64; first | omega | (simp only [note0, ans0, change0]; omega)), _, _, _, _, _, _, _, _, _, _, _, _, _, _, _, _, _, _, _, _, _, _, rfl, (GS.nil _ _ _ none 0), (GS.nil _ _ _ none 0), (GS.nil _ _ _ none 0), (GS.nil _ _ _ none 0), (GS.nil _ _ _ none 0), (GS.nil _ _ _ none 0), (GS.nil _ _ _ none 0), (GS.nil _ _ _ none 0), (GS.nil _ _ _ none 0), (GS.nil _ _ _ none 0), hs10⟩ (by decide)) ?_
 rintro _ w12 ⟨A12, c12, rfl, ho12, hE12⟩
 replace ho12:=ho12.bs
 have hsz13:=hp.chg.size
 obtain ⟨Fz13, hp13, hsub13, hnew13, hup13⟩ := hp.frz hE12
 replace hp:=hp13
 replace ho12:=ho12.frz hnew13
 refine so ?_
 refine wl_re (k := 61) (v := .bool true) rfl (congrArg Value.bool (decide_eq_true (by have := aw_len; omega))) (so ?_)
 refine wl_to (r := byteR) (by decide) sl26 rfl rfl ho8.to 11 rfl (by rw [aw_len]; decide) ?_
 intro hs14
 refine so ?_
 refine wl_bsliceB (xs := [.const (.int .u8 1), .const (.int .u8 4), .const (.int .u8 1), .const (.int .u8 3), .const (.int .u8 1), .const (.int .u8 1), .const (.int .u8 1), .const (.int .u8 2), .const (.int .u8 0), .const (.int .u8 1), .const (.int .u8 7)]) (bs := ([1, 4, 1, 3, 1, 1, 1, 2, 0, 1, 7] : List UInt8)) (by decide) sl26 rfl rfl rfl leB_ _ (Nat.le_refl _) ?_
 rintro gb15 wb15 hgb15 hs15 hE15
 replace hs15:=hs15.bs
 have hsz16:=hp.chg.size
 obtain ⟨Fz16, hp16, hsub16, hnew16, hup16⟩ := hp.frz hE15
 replace hp:=hp16
 replace hs15:=hs15.frz hnew16
 refine so ?_
 refine Cx hp (eqBytes_ok hs14.to hs15) fun w17 hp hE17 => ?_
 refine wl_re (k := 66) (v := .bool true) rfl (congrArg Value.bool (decide_eq_true (by exact aw_a))) (so ?_)
 refine wl_bsliceB (xs := [.const (.int .u8 1), .const (.int .u8 12), .const (.int .u8 1), .const (.int .u8 2), .const (.int .u8 1), .const (.int .u8 1), .const (.int .u8 1), .const (.int .u8 5), .const (.int .u8 1), .const (.int .u8 4), .const (.int .u8 1), .const (.int .u8 5), .const (.int .u8 1), .const (.int .u8 6), .const (.int .u8 1), .const (.int .u8 7), .const (.int .u8 1), .const (.int .u8 9)]) (bs := ([1, 12, 1, 2, 1, 1, 1, 5, 1, 4, 1, 5, 1, 6, 1, 7, 1, 9] : List UInt8)) (by decide) sl26 rfl rfl rfl leB_ _ (Nat.le_refl _) ?_
 rintro gb18 wb18 hgb18 hs18 hE18
 replace hs18:=hs18.bs
 have hsz19:=hp.chg.size
 obtain ⟨Fz19, hp19, hsub19, hnew19, hup19⟩ := hp.frz hE18
 replace hp:=hp19
 replace hs18:=hs18.frz hnew19
 refine so ?_
 refine Cx hp (eqBytes_ok ho12.to hs18) fun w20 hp hE20 => ?_
 refine wl_re (k := 71) (v := .bool true) rfl (congrArg Value.bool (decide_eq_true (by exact aw_c))) (so ?_)
 refine Pt ?_
 exact ⟨_, rfl, rfl, hp.chg⟩
end Go.Proofs.YtkdoomglflikkaaGreat
