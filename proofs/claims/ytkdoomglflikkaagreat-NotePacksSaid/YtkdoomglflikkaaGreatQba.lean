/- What each of these functions computes, for every argument that its theorem names; a part of what the proof of NotePacks stands on. -/
import Derived.Test.YtkdoomglflikkaaGreatQac
import Derived.Test.YtkdoomglflikkaaGreatQad
import Derived.Test.YtkdoomglflikkaaGreatQae
import Derived.Test.YtkdoomglflikkaaGreatQag
import Derived.Test.YtkdoomglflikkaaGreatQah
import Derived.Test.YtkdoomglflikkaaGreatQaj
import Derived.Test.YtkdoomglflikkaaGreatQak
import Derived.Test.YtkdoomglflikkaaGreatQan
import Derived.Test.YtkdoomglflikkaaGreatQap
import Derived.Test.YtkdoomglflikkaaGreatQat
import Derived.Test.YtkdoomglflikkaaGreatQax
namespace Go.Proofs.YtkdoomglflikkaaGreat
open Go.RowKit Go.Eng Go.Eng _root_.Go.Proofs.Tryz
set_option maxRecDepth 100000
variable {w0 w : World} {M0 Fz : Nat → Prop} {H : List It} {A : Option Addr} {c : Nat}
theorem t0_lChapter_ok {p : Prop} (h : p := by exact ⟨(by unfold NteI i64 note0 change0 ans0; (try unfold chgN); dsimp only; omega), _, _, _, _, _, _, _, _, _, _, _, _, _, _, _, _, _, _, _, _, _, _, rfl, hw.to, gsn, gsn, gsn, gsn, gsn, gsn, gsn, gsn, gsn, gsn⟩) : p := h
theorem t1_lChapter_ok {p : Prop} (h : p := by exact ⟨(by unfold NteI i64 note0 change0 ans0; (try unfold chgN); dsimp only; omega), _, _, _, _, _, _, _, _, _, _, _, _, _, _, _, _, _, _, _, _, _, _, rfl, gsn, gsn, gsn, gsn, gsn, gsn, gsn, gsn, gsn, gsn, gsn⟩) : p := h
theorem t2_lChapter_ok {p : Prop} (h : p := by unfold NteI i64 note0 change0 ans0; (try unfold chgN); dsimp only; omega) : p := h
set_option maxHeartbeats 40000000 in
theorem lChapter_ok (hp : HP w0 M0 Fz w H) : Ret prog 26 #[] w (fun v w2 => ∃ F2 A c, v = .slice A (chapL 16).length c ∧ HP w0 M0 F2 w2 H ∧ Frz Fz F2 w w2 ∧ GS noteR F2 w2 A c (chapL 16)) := by
 refine ret_of_wk func26 rfl ntmps26 leB_ ?_
 refine so ?_
 refine Ce (lWishes_ok hp) ?_
 rintro _ w1 ⟨F1, A1, c1, rfl, hp, hF1, hs1⟩
 refine so ?_
 refine wl_builtS (ps := [(1, .const (iv 3)), (2, .const (iv 1)), (3, .const (iv 2))]) (by decide) bld38 rfl rfl ?_
 refine Alo hp (h := fun gs2 w2 hp hE2 => ?_)
 refine Hs 0 hp (h := fun w3 hp hC3 => so ?_)
 replace hp:=hp.noRow 38 58
 refine so ?_
 refine Lp [1, 2, 3, 4] (fun L' w' mes => ∃ (k : Nat), ∃ (F : Nat → Prop), ∃ (A3 : Option Addr), ∃ (c3 : Nat), ∃ (rows : List (List Value)), L' = [(1, .slice A1 ([wshA, wshB]).length c1), (2, pt gs2 0), (3, .slice A3 k c3), (4, iv ((k : Int) + 1))] ∧ (k ≤ 16) ∧ (Frz Fz F w w') ∧ (GS wishR F w' A1 c1 [wshA, wshB]) ∧ (RF noteR F w' rows (chapL k)) ∧ (HP w0 M0 F w' (itR 38 58 A3 k c3 rows.flatten :: itB gs2 38 ([iv note0.kind, iv 3, iv 1, iv 2, iv note0.view, iv note0.seq] ++ (digC note0.dig ++ ([s0, iv note0.ans.err, s0, iv note0.ans.epoch, s0, iv note0.stamp, iv note0.node, iv note0.change.node, iv note0.change.view, iv note0.change.low, s0, s0, s0, s0, s0, iv note0.level, iv note0.place, s0, s0, s0]))) :: H)) ∧ 16 - k = mes) (16 - 0) ⟨0, F1, none, 0, [], rfl, by omega, mv, hs1.to, RF.nil _ _ _, hp, rfl⟩ ?_
 rintro _ wr _ ⟨k, F, A3, c3, rows, rfl, hk, hFr, hw, hR, hp, rfl⟩ KL1 hKL1
 refine so ?_
 refine Cd ?_ ?_<;>intro hk16
 refine so ?_
 refine Alo hp (h := fun gs5 w4 hp hE4 => ?_)
 refine Hs 0 hp (h := fun w5 hp hC5 => so ?_)
 refine H1 0 hp (h := fun w6 hp hC6 => sl ?_)
 refine wc_seq_cut (fun L' w' => ∃ (F5 : Nat → Prop), ∃ (cs5 : List Value), L' = [(1, .slice A1 ([wshA, wshB]).length c1), (2, pt gs2 0), (3, .slice A3 k c3), (4, iv ((k : Int) + 1)), (5, pt gs5 0)] ∧ (Frz Fz F5 w w') ∧ (GS wishR F5 w' A1 c1 [wshA, wshB]) ∧ (RF noteR F5 w' rows (chapL k)) ∧ (noteR.rd F5 w' cs5 (chapN ((k : Int) + 1))) ∧ (HP w0 M0 F5 w' (itB gs5 38 cs5 :: itR 38 58 A3 k c3 rows.flatten :: itB gs2 38 ([iv note0.kind, iv 3, iv 1, iv 2, iv note0.view, iv note0.seq] ++ (digC note0.dig ++ ([s0, iv note0.ans.err, s0, iv note0.ans.epoch, s0, iv note0.stamp, iv note0.node, iv note0.change.node, iv note0.change.view, iv note0.change.low, s0, s0, s0, s0, s0, iv note0.level, iv note0.place, s0, s0, s0]))) :: H))) (fun K hK => ?_) ?_
 refine so ?_
 refine Cd ?_ ?_<;>intro hc2<;>refine so ?_
 refine Cd ?_ ?_<;>intro hc3<;>refine so ?_
 refine H1 0 hp (h := fun w7 hp hC7 => so ?_)
 refine wl_to (r := wishR) (by decide) sl24 rfl rfl hw.to 1 rfl (by decide) ?_
 intro hs8
 refine so ?_
 refine H1 0 hp (h := fun w9 hp hC9 => so ?_)
 refine Kd [1, 2, 3, 4, 5] hK ⟨F, [iv ((k : Int) + 1), iv 31, iv 1, iv 2, iv note0.view, iv note0.seq] ++ (digC note0.dig ++ ([.slice A1 (([wshA, wshB]).take 1).length c1, iv note0.ans.err, s0, iv note0.ans.epoch, s0, iv note0.stamp, iv note0.node, iv note0.change.node, iv note0.change.view, iv note0.change.low, s0, s0, s0, s0, s0, iv note0.level, iv note0.place, s0, s0, s0])), rfl, mv, hw.to, hR.to, ?_, hp⟩
 rw [show chapN ((k : Int) + 1) = ({ ({ note0 with from_ := 3, group := 1, epoch := 2 } : Nte) with kind := ((k : Int) + 1), from_ := 31, batch := (([wshA, wshB]).take 1) } : Nte) from by
   unfold chapN headN
   repeat (first | rw [if_pos (by omega)] | rw [if_neg (by omega)])
   all_goals first | rfl | (simp [note0, ans0]; done)]
 exact ⟨t2_lChapter_ok, _, _, _, _, _, _, _, _, _, _, _, _, _, _, _, _, _, _, _, _, _, _, rfl, hs8.to, gsn, gsn, gsn, gsn, gsn, gsn, gsn, gsn, gsn, gsn⟩
 exact absurd hc2 hc3
 refine Cd ?_ ?_<;>intro hc4<;>refine so ?_
 refine H1 0 hp (h := fun w10 hp hC10 => so ?_)
 refine wl_to (r := wishR) (by decide) sl24 rfl rfl hw.to 1 rfl (by decide) ?_
 intro hs11
 refine so ?_
 refine H1 0 hp (h := fun w12 hp hC12 => so ?_)
 refine Kd [1, 2, 3, 4, 5] hK ⟨F, [iv ((k : Int) + 1), iv 31, iv 1, iv 2, iv note0.view, iv note0.seq] ++ (digC note0.dig ++ ([.slice A1 (([wshA, wshB]).take 1).length c1, iv note0.ans.err, s0, iv note0.ans.epoch, s0, iv note0.stamp, iv note0.node, iv note0.change.node, iv note0.change.view, iv note0.change.low, s0, s0, s0, s0, s0, iv note0.level, iv note0.place, s0, s0, s0])), rfl, mv, hw.to, hR.to, ?_, hp⟩
 rw [show chapN ((k : Int) + 1) = ({ ({ note0 with from_ := 3, group := 1, epoch := 2 } : Nte) with kind := ((k : Int) + 1), from_ := 31, batch := (([wshA, wshB]).take 1) } : Nte) from by
   unfold chapN headN
   repeat (first | rw [if_pos (by omega)] | rw [if_neg (by omega)])
   all_goals first | rfl | (simp [note0, ans0]; done)]
 exact ⟨t2_lChapter_ok, _, _, _, _, _, _, _, _, _, _, _, _, _, _, _, _, _, _, _, _, _, _, rfl, hs11.to, gsn, gsn, gsn, gsn, gsn, gsn, gsn, gsn, gsn, gsn⟩
 refine Cd ?_ ?_<;>intro hc5<;>refine so ?_
 refine H1 0 hp (h := fun w13 hp hC13 => so ?_)
 refine H1 0 hp (h := fun w14 hp hC14 => so ?_)
 refine wl_bytesLit (xs := [.const (.int .u8 48), .const (.int .u8 49), .const (.int .u8 50), .const (.int .u8 51), .const (.int .u8 52), .const (.int .u8 53), .const (.int .u8 54), .const (.int .u8 55), .const (.int .u8 56), .const (.int .u8 57), .const (.int .u8 97), .const (.int .u8 98), .const (.int .u8 99), .const (.int .u8 100), .const (.int .u8 101), .const (.int .u8 102)]) (bs := [48, 49, 50, 51, 52, 53, 54, 55, 56, 57, 97, 98, 99, 100, 101, 102]) (by decide) (by decide) sl26 underlying5 rfl rfl rfl leB_ ?_
 rintro gb15 wb15 _ hs15 hE15
 have hsz16:=hp.chg.size
 obtain ⟨Fz16, hp16, hsub16, hnew16, hup16⟩ := hp.frz hE15
 replace hp:=hp16
 replace hs15:=hs15.frz hnew16
 refine wl_bsliceN (xs := [.const (iv 5), .const (iv 6), .const (iv 7), .const (iv 9)]) (l := [5, 6, 7, 9]) (by decide) sl27 rfl rfl rfl leB_ ?_
 rintro gb17 wb17 _ hs17 hE17
 have hsz18:=hp.chg.size
 obtain ⟨Fz18, hp18, hsub18, hnew18, hup18⟩ := hp.frz hE17
 replace hp:=hp18
 replace hs17:=hs17.frz hnew18
 refine wl_builtS (ps := [(0, .const (iv 171)), (1, .tmp 31), (2, .const (iv 3)), (3, .tmp 32)]) (by decide) bld29 rfl rfl ?_
 refine so ?_
 refine Hs 0 hp (h := fun w19 hp hC19 => so ?_)
 refine Kd [1, 2, 3, 4, 5] hK ⟨Fz18, [iv ((k : Int) + 1), iv 3, iv 1, iv 2, iv note0.view, iv note0.seq] ++ (digC note0.dig ++ ([s0, iv 171, .slice (some ⟨gb15, 0, none⟩) ([48, 49, 50, 51, 52, 53, 54, 55, 56, 57, 97, 98, 99, 100, 101, 102] : List UInt8).length 16, iv 3, .slice (some ⟨gb17, 0, none⟩) ([5, 6, 7, 9] : List Int).length 4, iv 5, iv 31, iv note0.change.node, iv note0.change.view, iv note0.change.low, s0, s0, s0, s0, s0, iv note0.level, iv note0.place, s0, s0, s0])), rfl, mv, hw.to, hR.to, ?_, hp⟩
 rw [show chapN ((k : Int) + 1) = ({ ({ note0 with from_ := 3, group := 1, epoch := 2 } : Nte) with kind := ((k : Int) + 1), ans.err := ({ err := 171, data := [48, 49, 50, 51, 52, 53, 54, 55, 56, 57, 97, 98, 99, 100, 101, 102], epoch := 3, nodes := [5, 6, 7, 9] } : Ans).err, ans.data := ({ err := 171, data := [48, 49, 50, 51, 52, 53, 54, 55, 56, 57, 97, 98, 99, 100, 101, 102], epoch := 3, nodes := [5, 6, 7, 9] } : Ans).data, ans.epoch := ({ err := 171, data := [48, 49, 50, 51, 52, 53, 54, 55, 56, 57, 97, 98, 99, 100, 101, 102], epoch := 3, nodes := [5, 6, 7, 9] } : Ans).epoch, ans.nodes := ({ err := 171, data := [48, 49, 50, 51, 52, 53, 54, 55, 56, 57, 97, 98, 99, 100, 101, 102], epoch := 3, nodes := [5, 6, 7, 9] } : Ans).nodes, stamp := 5, node := 31 } : Nte) from by
   unfold chapN headN
   repeat (first | rw [if_pos (by omega)] | rw [if_neg (by omega)])
   all_goals first | rfl | (simp [note0, ans0]; done)]
 exact ⟨t2_lChapter_ok, _, _, _, _, _, _, _, _, _, _, _, _, _, _, _, _, _, _, _, _, _, _, rfl, gsn, hs15.to, hs17.to, gsn, gsn, gsn, gsn, gsn, gsn, gsn, gsn⟩
 refine Cd ?_ ?_<;>intro hc6<;>refine so ?_
 refine H1 0 hp (h := fun w20 hp hC20 => so ?_)
 refine H1 0 hp (h := fun w21 hp hC21 => so ?_)
 refine H1 0 hp (h := fun w22 hp hC22 => so ?_)
 refine Kd [1, 2, 3, 4, 5] hK ⟨F, [iv ((k : Int) + 1), iv 3, iv 1, iv 2, iv 1, iv 300] ++ (digC note0.dig ++ ([.slice A1 ([wshA, wshB]).length c1, iv note0.ans.err, s0, iv note0.ans.epoch, s0, iv note0.stamp, iv note0.node, iv note0.change.node, iv note0.change.view, iv note0.change.low, s0, s0, s0, s0, s0, iv note0.level, iv note0.place, s0, s0, s0])), rfl, mv, hw.to, hR.to, ?_, hp⟩
 rw [show chapN ((k : Int) + 1) = ({ ({ note0 with from_ := 3, group := 1, epoch := 2 } : Nte) with kind := ((k : Int) + 1), view := 1, seq := 300, batch := [wshA, wshB] } : Nte) from by
   unfold chapN headN
   repeat (first | rw [if_pos (by omega)] | rw [if_neg (by omega)])
   all_goals first | rfl | (simp [note0, ans0]; done)]
 exact t0_lChapter_ok
 refine Cd ?_ ?_<;>intro hc7<;>refine so ?_
 refine Cd ?_ ?_<;>intro hc8<;>refine so ?_
 refine H1 0 hp (h := fun w23 hp hC23 => so ?_)
 refine Cx hp ((fun w => lDigest_ok (w := w) (b := 1)) _) fun w24 hp hE24 => so ?_
 refine Hs 0 hp (h := fun w25 hp hC25 => so ?_)
 refine Kd [1, 2, 3, 4, 5] hK ⟨F, [iv ((k : Int) + 1), iv 3, iv 1, iv 2, iv note0.view, iv 7] ++ (digC (dgt 1) ++ ([s0, iv note0.ans.err, s0, iv note0.ans.epoch, s0, iv note0.stamp, iv note0.node, iv note0.change.node, iv note0.change.view, iv note0.change.low, s0, s0, s0, s0, s0, iv note0.level, iv note0.place, s0, s0, s0])), rfl, mv, hw.to, hR.to, ?_, hp⟩
 rw [show chapN ((k : Int) + 1) = ({ ({ note0 with from_ := 3, group := 1, epoch := 2 } : Nte) with kind := ((k : Int) + 1), seq := 7, dig := (dgt 1) } : Nte) from by
   unfold chapN headN
   repeat (first | rw [if_pos (by omega)] | rw [if_neg (by omega)])
   all_goals first | rfl | (simp [note0, ans0]; done)]
 exact t1_lChapter_ok
 exact absurd hc7 hc8
 refine Cd ?_ ?_<;>intro hc9<;>refine so ?_
 refine H1 0 hp (h := fun w26 hp hC26 => so ?_)
 refine Cx hp ((fun w => lDigest_ok (w := w) (b := 1)) _) fun w27 hp hE27 => so ?_
 refine Hs 0 hp (h := fun w28 hp hC28 => so ?_)
 refine Kd [1, 2, 3, 4, 5] hK ⟨F, [iv ((k : Int) + 1), iv 3, iv 1, iv 2, iv note0.view, iv 7] ++ (digC (dgt 1) ++ ([s0, iv note0.ans.err, s0, iv note0.ans.epoch, s0, iv note0.stamp, iv note0.node, iv note0.change.node, iv note0.change.view, iv note0.change.low, s0, s0, s0, s0, s0, iv note0.level, iv note0.place, s0, s0, s0])), rfl, mv, hw.to, hR.to, ?_, hp⟩
 rw [show chapN ((k : Int) + 1) = ({ ({ note0 with from_ := 3, group := 1, epoch := 2 } : Nte) with kind := ((k : Int) + 1), seq := 7, dig := (dgt 1) } : Nte) from by
   unfold chapN headN
   repeat (first | rw [if_pos (by omega)] | rw [if_neg (by omega)])
   all_goals first | rfl | (simp [note0, ans0]; done)]
 exact t1_lChapter_ok
 refine Cd ?_ ?_<;>intro hc10<;>refine so ?_
 refine Cd ?_ ?_<;>intro hc11<;>refine so ?_
 refine H1 0 hp (h := fun w29 hp hC29 => so ?_)
 refine Cx hp ((fun w => lDigest_ok (w := w) (b := 2)) _) fun w30 hp hE30 => so ?_
 refine Hs 0 hp (h := fun w31 hp hC31 => so ?_)
 refine Kd [1, 2, 3, 4, 5] hK ⟨F, [iv ((k : Int) + 1), iv 3, iv 1, iv 2, iv note0.view, iv 8] ++ (digC (dgt 2) ++ ([s0, iv note0.ans.err, s0, iv note0.ans.epoch, s0, iv note0.stamp, iv note0.node, iv note0.change.node, iv note0.change.view, iv note0.change.low, s0, s0, s0, s0, s0, iv note0.level, iv note0.place, s0, s0, s0])), rfl, mv, hw.to, hR.to, ?_, hp⟩
 rw [show chapN ((k : Int) + 1) = ({ ({ note0 with from_ := 3, group := 1, epoch := 2 } : Nte) with kind := ((k : Int) + 1), seq := 8, dig := (dgt 2) } : Nte) from by
   unfold chapN headN
   repeat (first | rw [if_pos (by omega)] | rw [if_neg (by omega)])
   all_goals first | rfl | (simp [note0, ans0]; done)]
 exact t1_lChapter_ok
 exact absurd hc10 hc11
 refine Cd ?_ ?_<;>intro hc12<;>refine so ?_
 refine H1 0 hp (h := fun w32 hp hC32 => so ?_)
 refine Cx hp ((fun w => lDigest_ok (w := w) (b := 2)) _) fun w33 hp hE33 => so ?_
 refine Hs 0 hp (h := fun w34 hp hC34 => so ?_)
 refine Kd [1, 2, 3, 4, 5] hK ⟨F, [iv ((k : Int) + 1), iv 3, iv 1, iv 2, iv note0.view, iv 8] ++ (digC (dgt 2) ++ ([s0, iv note0.ans.err, s0, iv note0.ans.epoch, s0, iv note0.stamp, iv note0.node, iv note0.change.node, iv note0.change.view, iv note0.change.low, s0, s0, s0, s0, s0, iv note0.level, iv note0.place, s0, s0, s0])), rfl, mv, hw.to, hR.to, ?_, hp⟩
 rw [show chapN ((k : Int) + 1) = ({ ({ note0 with from_ := 3, group := 1, epoch := 2 } : Nte) with kind := ((k : Int) + 1), seq := 8, dig := (dgt 2) } : Nte) from by
   unfold chapN headN
   repeat (first | rw [if_pos (by omega)] | rw [if_neg (by omega)])
   all_goals first | rfl | (simp [note0, ans0]; done)]
 exact t1_lChapter_ok
 refine Cd ?_ ?_<;>intro hc13<;>refine so ?_
 refine Ce (lChange_ok hp (node := 3) (by unfold i64; omega)) ?_
 rintro _ w35 ⟨F35, cs35, rfl, hp, hF35, hrd35⟩
 obtain ⟨hI35, A35_0, c35_0, A35_1, c35_1, A35_2, c35_2, rfl, hr35_0, hr35_1, hr35_2⟩ := hrd35
 refine so ?_
 refine Hs 0 hp (h := fun w36 hp hC36 => so ?_)
 refine Kd [1, 2, 3, 4, 5] hK ⟨F35, [iv ((k : Int) + 1), iv 3, iv 1, iv 2, iv note0.view, iv note0.seq] ++ (digC note0.dig ++ ([s0, iv note0.ans.err, s0, iv note0.ans.epoch, s0, iv note0.stamp, iv note0.node, iv ((chgN 3).node), iv ((chgN 3).view), iv ((chgN 3).low), .slice A35_0 ((chgN 3).marks).length c35_0, .slice A35_1 ((chgN 3).p).length c35_1, .slice A35_2 ((chgN 3).q).length c35_2, s0, s0, iv note0.level, iv note0.place, s0, s0, s0])), rfl, mv, hw.to, hR.to, ?_, hp⟩
 rw [show chapN ((k : Int) + 1) = ({ ({ note0 with from_ := 3, group := 1, epoch := 2 } : Nte) with kind := ((k : Int) + 1), change.node := (chgN 3).node, change.view := (chgN 3).view, change.low := (chgN 3).low, change.marks := (chgN 3).marks, change.p := (chgN 3).p, change.q := (chgN 3).q } : Nte) from by
   unfold chapN headN
   repeat (first | rw [if_pos (by omega)] | rw [if_neg (by omega)])
   all_goals first | rfl | (simp [note0, ans0]; done)]
 exact ⟨t2_lChapter_ok, _, _, _, _, _, _, _, _, _, _, _, _, _, _, _, _, _, _, _, _, _, _, rfl, gsn, gsn, gsn, hr35_0.to, hr35_1.to, hr35_2.to, gsn, gsn, gsn, gsn, gsn⟩
 refine Cd ?_ ?_<;>intro hc14<;>refine so ?_
 refine H1 0 hp (h := fun w37 hp hC37 => so ?_)
 refine H1 0 hp (h := fun w38 hp hC38 => so ?_)
 refine Cx hp ((fun w => lDigest_ok (w := w) (b := 3)) _) fun w39 hp hE39 => so ?_
 refine Hs 0 hp (h := fun w40 hp hC40 => so ?_)
 refine Kd [1, 2, 3, 4, 5] hK ⟨F, [iv ((k : Int) + 1), iv 3, iv 1, iv 2, iv 3, iv note0.seq] ++ (digC (dgt 3) ++ ([s0, iv note0.ans.err, s0, iv note0.ans.epoch, s0, iv note0.stamp, iv 4, iv note0.change.node, iv note0.change.view, iv note0.change.low, s0, s0, s0, s0, s0, iv note0.level, iv note0.place, s0, s0, s0])), rfl, mv, hw.to, hR.to, ?_, hp⟩
 rw [show chapN ((k : Int) + 1) = ({ ({ note0 with from_ := 3, group := 1, epoch := 2 } : Nte) with kind := ((k : Int) + 1), view := 3, dig := (dgt 3), node := 4 } : Nte) from by
   unfold chapN headN
   repeat (first | rw [if_pos (by omega)] | rw [if_neg (by omega)])
   all_goals first | rfl | (simp [note0, ans0]; done)]
 exact t1_lChapter_ok
 refine Cd ?_ ?_<;>intro hc15<;>refine so ?_
 refine H1 0 hp (h := fun w41 hp hC41 => so ?_)
 refine Ce (lChange_ok hp (node := 1) (by unfold i64; omega)) ?_
 rintro _ w42 ⟨F42, cs42, rfl, hp, hF42, hrd42⟩
 have qhrd42:=hrd42
 obtain ⟨hI42, A42_0, c42_0, A42_1, c42_1, A42_2, c42_2, rfl, hr42_0, hr42_1, hr42_2⟩ := hrd42
 refine Ce (lChange_ok hp (node := 3) (by unfold i64; omega)) ?_
 rintro _ w43 ⟨F43, cs43, rfl, hp, hF43, hrd43⟩
 have qhrd43:=hrd43
 obtain ⟨hI43, A43_0, c43_0, A43_1, c43_1, A43_2, c43_2, rfl, hr43_0, hr43_1, hr43_2⟩ := hrd43
 refine Ce (lChange_ok hp (node := 4) (by unfold i64; omega)) ?_
 rintro _ w44 ⟨F44, cs44, rfl, hp, hF44, hrd44⟩
 obtain ⟨hI44, A44_0, c44_0, A44_1, c44_1, A44_2, c44_2, rfl, hr44_0, hr44_1, hr44_2⟩ := hrd44
 refine wl_bsliceR (r := changeR) (css := [[iv ((chgN 1).node), iv ((chgN 1).view), iv ((chgN 1).low), .slice A42_0 ((chgN 1).marks).length c42_0, .slice A42_1 ((chgN 1).p).length c42_1, .slice A42_2 ((chgN 1).q).length c42_2], [iv ((chgN 3).node), iv ((chgN 3).view), iv ((chgN 3).low), .slice A43_0 ((chgN 3).marks).length c43_0, .slice A43_1 ((chgN 3).p).length c43_1, .slice A43_2 ((chgN 3).q).length c43_2], [iv ((chgN 4).node), iv ((chgN 4).view), iv ((chgN 4).low), .slice A44_0 ((chgN 4).marks).length c44_0, .slice A44_1 ((chgN 4).p).length c44_1, .slice A44_2 ((chgN 4).q).length c44_2]]) (l := [(chgN 1), (chgN 3), (chgN 4)]) (xs := [.tmp 66, .tmp 67, .tmp 68]) (by decide) sl34 rfl rfl (((RF.one (r := changeR) (Fz := F44) (cs := [iv ((chgN 1).node), iv ((chgN 1).view), iv ((chgN 1).low), .slice A42_0 ((chgN 1).marks).length c42_0, .slice A42_1 ((chgN 1).p).length c42_1, .slice A42_2 ((chgN 1).q).length c42_2]) (v := (chgN 1)) ((rdTo qhrd42))).append ((RF.one (r := changeR) (Fz := F44) (cs := [iv ((chgN 3).node), iv ((chgN 3).view), iv ((chgN 3).low), .slice A43_0 ((chgN 3).marks).length c43_0, .slice A43_1 ((chgN 3).p).length c43_1, .slice A43_2 ((chgN 3).q).length c43_2]) (v := (chgN 3)) ((rdTo qhrd43))).append (RF.one (r := changeR) (Fz := F44) (cs := [iv ((chgN 4).node), iv ((chgN 4).view), iv ((chgN 4).low), .slice A44_0 ((chgN 4).marks).length c44_0, .slice A44_1 ((chgN 4).p).length c44_1, .slice A44_2 ((chgN 4).q).length c44_2]) (v := (chgN 4)) (⟨hI44, _, _, _, _, _, _, rfl, hr44_0, hr44_1, hr44_2⟩)))) : RF changeR F44 _ [[iv ((chgN 1).node), iv ((chgN 1).view), iv ((chgN 1).low), .slice A42_0 ((chgN 1).marks).length c42_0, .slice A42_1 ((chgN 1).p).length c42_1, .slice A42_2 ((chgN 1).q).length c42_2], [iv ((chgN 3).node), iv ((chgN 3).view), iv ((chgN 3).low), .slice A43_0 ((chgN 3).marks).length c43_0, .slice A43_1 ((chgN 3).p).length c43_1, .slice A43_2 ((chgN 3).q).length c43_2], [iv ((chgN 4).node), iv ((chgN 4).view), iv ((chgN 4).low), .slice A44_0 ((chgN 4).marks).length c44_0, .slice A44_1 ((chgN 4).p).length c44_1, .slice A44_2 ((chgN 4).q).length c44_2]] [(chgN 1), (chgN 3), (chgN 4)]) rfl (by simp) leB_ ?_
 rintro gb45 wb45 hgb45 hs45 hE45
 obtain ⟨Fz45, hp45, hsub45, hnew45, _⟩ := hp.frz hE45
 replace hp:=hp45
 replace hs45:=hs45.mono (fun b hb h => h.elim (fun x => hsub45 b x.1) (fun e => hnew45 b (by rw [e, hgb45]; exact Nat.le_refl _) hb))
 refine so ?_
 refine H1 0 hp (h := fun w46 hp hC46 => so ?_)
 refine wl_builtS (ps := [(0, .const (iv 5))]) (by decide) bld66 rfl rfl ?_
 refine Cx hp ((fun w => lDigest_ok (w := w) (b := 3)) _) fun w47 hp hE47 => so ?_
 refine wl_builtS (ps := [(0, .const (iv 6)), (1, .tmp 72), (2, .tmp 73)]) (by decide) bld66 rfl rfl ?_
 refine wl_bsliceR (r := pickR) (css := [[iv 5] ++ (digC pick0.dig ++ ([s0])), [iv 6] ++ (digC (dgt 3) ++ ([.slice A1 ([wshA, wshB]).length c1]))]) (l := [({ pick0 with seq := 5 } : Pck), ({ seq := 6, dig := (dgt 3), batch := [wshA, wshB] } : Pck)]) (xs := [.tmp 71, .tmp 74]) (by decide) sl35 rfl rfl (((RF.one (r := pickR) (Fz := Fz45) (cs := [iv 5] ++ (digC pick0.dig ++ ([s0]))) (v := ({ pick0 with seq := 5 } : Pck)) (⟨(show PckI ({ pick0 with seq := 5 } : Pck) by unfold PckI i64; (try unfold pick0); (try dsimp only); omega), _, _, rfl, gsn⟩)).append (RF.one (r := pickR) (Fz := Fz45) (cs := [iv 6] ++ (digC (dgt 3) ++ ([.slice A1 ([wshA, wshB]).length c1]))) (v := ({ seq := 6, dig := (dgt 3), batch := [wshA, wshB] } : Pck)) (⟨(show PckI ({ seq := 6, dig := (dgt 3), batch := [wshA, wshB] } : Pck) by unfold PckI i64; (try unfold pick0); (try dsimp only); omega), _, _, rfl, hw.to⟩))) : RF pickR Fz45 _ [[iv 5] ++ (digC pick0.dig ++ ([s0])), [iv 6] ++ (digC (dgt 3) ++ ([.slice A1 ([wshA, wshB]).length c1]))] [({ pick0 with seq := 5 } : Pck), ({ seq := 6, dig := (dgt 3), batch := [wshA, wshB] } : Pck)]) rfl (by simp) leB_ ?_
 rintro gb48 wb48 hgb48 hs48 hE48
 obtain ⟨Fz48, hp48, hsub48, hnew48, _⟩ := hp.frz hE48
 replace hp:=hp48
 replace hs48:=hs48.mono (fun b hb h => h.elim (fun x => hsub48 b x.1) (fun e => hnew48 b (by rw [e, hgb48]; exact Nat.le_refl _) hb))
 refine so ?_
 refine H1 0 hp (h := fun w49 hp hC49 => so ?_)
 refine Kd [1, 2, 3, 4, 5] hK ⟨Fz48, [iv ((k : Int) + 1), iv 3, iv 1, iv 2, iv 3, iv note0.seq] ++ (digC note0.dig ++ ([s0, iv note0.ans.err, s0, iv note0.ans.epoch, s0, iv note0.stamp, iv note0.node, iv note0.change.node, iv note0.change.view, iv note0.change.low, s0, s0, s0, .slice (some ⟨gb45, 0, none⟩) ([(chgN 1), (chgN 3), (chgN 4)] : List Chn).length 3, .slice (some ⟨gb48, 0, none⟩) ([({ pick0 with seq := 5 } : Pck), ({ seq := 6, dig := (dgt 3), batch := [wshA, wshB] } : Pck)] : List Pck).length 2, iv note0.level, iv note0.place, s0, s0, s0])), rfl, mv, hw.to, hR.to, ?_, hp⟩
 rw [show chapN ((k : Int) + 1) = ({ ({ note0 with from_ := 3, group := 1, epoch := 2 } : Nte) with kind := ((k : Int) + 1), view := 3, changes := [(chgN 1), (chgN 3), (chgN 4)], picks := [({ pick0 with seq := 5 } : Pck), ({ seq := 6, dig := (dgt 3), batch := [wshA, wshB] } : Pck)] } : Nte) from by
   unfold chapN headN
   repeat (first | rw [if_pos (by omega)] | rw [if_neg (by omega)])
   all_goals first | rfl | (simp [note0, ans0]; done)]
 exact ⟨t2_lChapter_ok, _, _, _, _, _, _, _, _, _, _, _, _, _, _, _, _, _, _, _, _, _, _, rfl, gsn, gsn, gsn, gsn, gsn, gsn, hs45.to, hs48.to, gsn, gsn, gsn⟩
 refine Cd ?_ ?_<;>intro hc16<;>refine so ?_
 refine H1 0 hp (h := fun w50 hp hC50 => so ?_)
 refine Cx hp ((fun w => lDigest_ok (w := w) (b := 2)) _) fun w51 hp hE51 => so ?_
 refine Hs 0 hp (h := fun w52 hp hC52 => so ?_)
 refine H1 0 hp (h := fun w53 hp hC53 => so ?_)
 refine H1 0 hp (h := fun w54 hp hC54 => so ?_)
 refine Kd [1, 2, 3, 4, 5] hK ⟨F, [iv ((k : Int) + 1), iv 3, iv 1, iv 2, iv note0.view, iv 8] ++ (digC (dgt 2) ++ ([s0, iv note0.ans.err, s0, iv note0.ans.epoch, s0, iv note0.stamp, iv note0.node, iv note0.change.node, iv note0.change.view, iv note0.change.low, s0, s0, s0, s0, s0, iv 1, iv 2, s0, s0, s0])), rfl, mv, hw.to, hR.to, ?_, hp⟩
 rw [show chapN ((k : Int) + 1) = ({ ({ note0 with from_ := 3, group := 1, epoch := 2 } : Nte) with kind := ((k : Int) + 1), seq := 8, dig := (dgt 2), level := 1, place := 2 } : Nte) from by
   unfold chapN headN
   repeat (first | rw [if_pos (by omega)] | rw [if_neg (by omega)])
   all_goals first | rfl | (simp [note0, ans0]; done)]
 exact t1_lChapter_ok
 refine Cd ?_ ?_<;>intro hc17<;>refine so ?_
 refine H1 0 hp (h := fun w55 hp hC55 => so ?_)
 refine Cx hp ((fun w => lDigest_ok (w := w) (b := 2)) _) fun w56 hp hE56 => so ?_
 refine Hs 0 hp (h := fun w57 hp hC57 => so ?_)
 refine Cx hp ((fun w => lDigest_ok (w := w) (b := 5)) _) fun w58 hp hE58 => ?_
 refine Cx hp ((fun w => lDigest_ok (w := w) (b := 6)) _) fun w59 hp hE59 => ?_
 refine wl_bsliceR (r := digR) (css := [digC (dgt 5), digC (dgt 6)]) (l := [(dgt 5), (dgt 6)]) (xs := [.tmp 89, .tmp 90]) (by decide) sl36 rfl rfl (((RF.one (r := digR) (Fz := F) (cs := digC (dgt 5)) (v := (dgt 5)) (rfl)).append (RF.one (r := digR) (Fz := F) (cs := digC (dgt 6)) (v := (dgt 6)) (rfl))) : RF digR F _ [digC (dgt 5), digC (dgt 6)] [(dgt 5), (dgt 6)]) rfl (by simp) leB_ ?_
 rintro gb60 wb60 hgb60 hs60 hE60
 obtain ⟨Fz60, hp60, hsub60, hnew60, _⟩ := hp.frz hE60
 replace hp:=hp60
 replace hs60:=hs60.mono (fun b hb h => h.elim (fun x => hsub60 b x.1) (fun e => hnew60 b (by rw [e, hgb60]; exact Nat.le_refl _) hb))
 refine so ?_
 refine H1 0 hp (h := fun w61 hp hC61 => so ?_)
 refine wl_bytesLit (xs := [.const (.int .u8 108), .const (.int .u8 101), .const (.int .u8 97), .const (.int .u8 102)]) (bs := [108, 101, 97, 102]) (by decide) (by decide) sl26 underlying5 rfl rfl rfl leB_ ?_
 rintro gb62 wb62 _ hs62 hE62
 have hsz63:=hp.chg.size
 obtain ⟨Fz63, hp63, hsub63, hnew63, hup63⟩ := hp.frz hE62
 replace hp:=hp63
 replace hs62:=hs62.frz hnew63
 refine so ?_
 refine H1 0 hp (h := fun w64 hp hC64 => so ?_)
 refine Kd [1, 2, 3, 4, 5] hK ⟨Fz63, [iv ((k : Int) + 1), iv 3, iv 1, iv 2, iv note0.view, iv 8] ++ (digC (dgt 2) ++ ([s0, iv note0.ans.err, s0, iv note0.ans.epoch, s0, iv note0.stamp, iv note0.node, iv note0.change.node, iv note0.change.view, iv note0.change.low, s0, s0, s0, s0, s0, iv note0.level, iv note0.place, .slice (some ⟨gb60, 0, none⟩) ([(dgt 5), (dgt 6)] : List Dig).length 2, .slice (some ⟨gb62, 0, none⟩) ([108, 101, 97, 102] : List UInt8).length 4, s0])), rfl, mv, hw.to, hR.to, ?_, hp⟩
 rw [show chapN ((k : Int) + 1) = ({ ({ note0 with from_ := 3, group := 1, epoch := 2 } : Nte) with kind := ((k : Int) + 1), seq := 8, dig := (dgt 2), digs := [(dgt 5), (dgt 6)], data := [108, 101, 97, 102] } : Nte) from by
   unfold chapN headN
   repeat (first | rw [if_pos (by omega)] | rw [if_neg (by omega)])
   all_goals first | rfl | (simp [note0, ans0]; done)]
 exact ⟨t2_lChapter_ok, _, _, _, _, _, _, _, _, _, _, _, _, _, _, _, _, _, _, _, _, _, _, rfl, gsn, gsn, gsn, gsn, gsn, gsn, gsn, gsn, hs60.to, hs62.to, gsn⟩
 refine Cd ?_ ?_<;>intro hc18<;>refine so ?_
 refine wl_bsliceN (xs := [.const (iv 5), .const (iv 6), .const (iv 7), .const (iv 9)]) (l := [5, 6, 7, 9]) (by decide) sl27 rfl rfl rfl leB_ ?_
 rintro gb65 wb65 _ hs65 hE65
 have hsz66:=hp.chg.size
 obtain ⟨Fz66, hp66, hsub66, hnew66, hup66⟩ := hp.frz hE65
 replace hp:=hp66
 replace hs65:=hs65.frz hnew66
 refine so ?_
 refine H1 0 hp (h := fun w67 hp hC67 => so ?_)
 refine Kd [1, 2, 3, 4, 5] hK ⟨Fz66, [iv ((k : Int) + 1), iv 3, iv 1, iv 2, iv note0.view, iv note0.seq] ++ (digC note0.dig ++ ([s0, iv note0.ans.err, s0, iv note0.ans.epoch, s0, iv note0.stamp, iv note0.node, iv note0.change.node, iv note0.change.view, iv note0.change.low, s0, s0, s0, s0, s0, iv note0.level, iv note0.place, s0, s0, .slice (some ⟨gb65, 0, none⟩) ([5, 6, 7, 9] : List Int).length 4])), rfl, mv, hw.to, hR.to, ?_, hp⟩
 rw [show chapN ((k : Int) + 1) = ({ ({ note0 with from_ := 3, group := 1, epoch := 2 } : Nte) with kind := ((k : Int) + 1), nodes := [5, 6, 7, 9] } : Nte) from by
   unfold chapN headN
   repeat (first | rw [if_pos (by omega)] | rw [if_neg (by omega)])
   all_goals first | rfl | (simp [note0, ans0]; done)]
 exact ⟨t2_lChapter_ok, _, _, _, _, _, _, _, _, _, _, _, _, _, _, _, _, _, _, _, _, _, _, rfl, gsn, gsn, gsn, gsn, gsn, gsn, gsn, gsn, gsn, gsn, hs65.to⟩
 refine Cd ?_ ?_<;>intro hc19<;>refine so ?_
 refine H1 0 hp (h := fun w68 hp hC68 => so ?_)
 refine Kd [1, 2, 3, 4, 5] hK ⟨F, [iv ((k : Int) + 1), iv 3, iv 1, iv 2, iv note0.view, iv note0.seq] ++ (digC note0.dig ++ ([.slice A1 ([wshA, wshB]).length c1, iv note0.ans.err, s0, iv note0.ans.epoch, s0, iv note0.stamp, iv note0.node, iv note0.change.node, iv note0.change.view, iv note0.change.low, s0, s0, s0, s0, s0, iv note0.level, iv note0.place, s0, s0, s0])), rfl, mv, hw.to, hR.to, ?_, hp⟩
 rw [show chapN ((k : Int) + 1) = ({ ({ note0 with from_ := 3, group := 1, epoch := 2 } : Nte) with kind := ((k : Int) + 1), batch := [wshA, wshB] } : Nte) from by
   unfold chapN headN
   repeat (first | rw [if_pos (by omega)] | rw [if_neg (by omega)])
   all_goals first | rfl | (simp [note0, ans0]; done)]
 exact t0_lChapter_ok
 refine H1 0 hp (h := fun w69 hp hC69 => so ?_)
 refine H1 0 hp (h := fun w70 hp hC70 => so ?_)
 refine Kd [1, 2, 3, 4, 5] hK ⟨F, [iv ((k : Int) + 1), iv 3, iv 1, iv 2, iv note0.view, iv 6] ++ (digC note0.dig ++ ([.slice A1 ([wshA, wshB]).length c1, iv note0.ans.err, s0, iv note0.ans.epoch, s0, iv note0.stamp, iv note0.node, iv note0.change.node, iv note0.change.view, iv note0.change.low, s0, s0, s0, s0, s0, iv note0.level, iv note0.place, s0, s0, s0])), rfl, mv, hw.to, hR.to, ?_, hp⟩
 rw [show chapN ((k : Int) + 1) = ({ ({ note0 with from_ := 3, group := 1, epoch := 2 } : Nte) with kind := ((k : Int) + 1), seq := 6, batch := [wshA, wshB] } : Nte) from by
   unfold chapN headN
   repeat (first | rw [if_pos (by omega)] | rw [if_neg (by omega)])
   all_goals first | rfl | (simp [note0, ans0]; done)]
 exact t0_lChapter_ok
 rintro _ wn ⟨F5, cs5, rfl, hFr, hw, hR, hn, hp⟩
 refine so ?_
 have hl5 : cs5.length = 58 := noteR.len hn
 have ho5:=ones5 hn
 replace hn:=RF.one (r := noteR) (Fz := F5) hn
 refine wl_hloadX cs5 (i := 0) (by decide) ag38 rfl hp rfl hl5 (by rw [List.drop_zero, List.take_of_length_le (Nat.le_of_eq hl5)]) ?_
 refine wl_oneOf (by decide) sl54 rfl rfl (by show cs5.toArray.size = 58; simpa using hl5) leB_ ?_
 rintro _ wo hOn hEo
 replace hp:=hp.ext hEo
 obtain ⟨gt, rfl, hat9⟩ := hOn
 refine wl_happend (i := 1) (m := 1) (size := 58) (news := cs5) (by decide) sl54 rfl rfl hp rfl (by rw [hl5]) (fun b hb => by cases hb; exact hat9) (by simp) ho5 (by omega) ?_
 rintro A9 c9 w9 hp hC9
 refine so ?_
 refine Kl [1, 2, 3, 4] hKL1 (16 - (k + 1)) ⟨(k + 1), F5, A9, c9, (rows ++ [cs5]), rfl, by omega, mv, hw.to, ?_, ?_, rfl⟩ (by omega)
 rw [chapL_succ]; exact hR.to.append hn.to
 rw [flat_snoc, List.append_nil]; exact hp.tail
 obtain rfl : k = 16 := by omega
 refine so ?_
 refine Pt ?_
 obtain ⟨F8, hp8, hs8, hb8⟩ := hp.frzRow
 have hgs : GS noteR F8 _ A3 c3 (chapL 16) := OwnRow.gsRF (r := noteR) (hp.rowAt (i := 0) rfl) (hR.wid hs8) hb8
 exact ⟨_, rfl, F8, A3, c3, rfl, hp8.tail, hFr.wid hs8, hgs⟩
end Go.Proofs.YtkdoomglflikkaaGreat
