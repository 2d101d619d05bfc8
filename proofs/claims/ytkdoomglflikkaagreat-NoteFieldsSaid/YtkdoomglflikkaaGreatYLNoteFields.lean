/- NoteFields is true: what the program answers is what the statement says, for every argument (no further condition). -/
import Derived.Test.YtkdoomglflikkaaGreatYe
namespace Go.Proofs.YtkdoomglflikkaaGreat
open Go.RowKit Go.Eng _root_.Go.Proofs.Tryz
set_option maxRecDepth 100000
variable {w0 w : World} {M0 Fz : Nat → Prop} {H : List It} {A : Option Addr} {c : Nat}
def dgt (b : UInt8) : Dig := ⟨[b, 1, 2, 0, 0, 0, 0, 0, 0, 0, 0, 0, 0, 0, 0, 0, 0, 0, 0, 0, 0, 0, 0, 0, 0, 0, 0, 0, 0, 0, 0, 0], rfl⟩
def wshA : Wsh := ⟨31, 5, 1, 2, 1, 3, [], 0, 0, []⟩
def wshB : Wsh := ⟨32, 1, 1, 2, 2, 7, List.replicate 16 0, 0, 0, []⟩
def stdP : List Stn := [⟨5, dgt 1, 2⟩, ⟨9, dgt 2, 0⟩]
def stdQ : List Stn := [⟨5, dgt 1, 2⟩, ⟨6, dgt 4, 1⟩, ⟨6, dgt 3, 2⟩, ⟨12, dgt 2, 0⟩]
def chgN (node : Int) : Chn := ⟨node, 3, 4, [⟨4, dgt 9⟩, ⟨8, dgt 8⟩], stdP, stdQ⟩
def headN (k : Int) : Nte := { note0 with kind := k, from_ := 3, group := 1, epoch := 2 }
def chapN (k : Int) : Nte :=
 if k = 1 ∨ k = 14 then { headN k with from_ := 31, batch := [wshA] }
 else if k = 2 then { headN k with node := 31, stamp := 5, ans := ⟨171, [48, 49, 50, 51, 52, 53, 54, 55, 56, 57, 97, 98, 99, 100, 101, 102], 3, [5, 6, 7, 9]⟩ }
 else if k = 3 then { headN k with view := 1, seq := 300, batch := [wshA, wshB] }
 else if k = 4 ∨ k = 5 then { headN k with seq := 7, dig := dgt 1 }
 else if k = 6 ∨ k = 13 then { headN k with seq := 8, dig := dgt 2 }
 else if k = 7 then { headN k with change := chgN 3 }
 else if k = 8 then { headN k with view := 3, node := 4, dig := dgt 3 }
 else if k = 9 then { headN k with view := 3, changes := [chgN 1, chgN 3, chgN 4], picks := [⟨5, dig0, []⟩, ⟨6, dgt 3, [wshA, wshB]⟩] }
 else if k = 10 then { headN k with seq := 8, dig := dgt 2, level := 1, place := 2 }
 else if k = 11 then { headN k with seq := 8, dig := dgt 2, digs := [dgt 5, dgt 6], data := [108, 101, 97, 102] }
 else if k = 12 then { headN k with nodes := [5, 6, 7, 9] }
 else if k = 16 then { headN k with batch := [wshA, wshB] }
 else { headN k with seq := 6, batch := [wshA, wshB] }
def chapL (k : Nat) : List Nte := (List.range k).map fun i : Nat => chapN ((i : Int) + 1)
theorem chapL_succ (k : Nat) : chapL (k + 1) = chapL k ++ [chapN ((k : Int) + 1)] := by simp [chapL, List.range_succ]
theorem chapL_len (k : Nat) : (chapL k).length = k := by simp [chapL]
theorem chapL_get {k i : Nat} (h : i < k) : (chapL k)[i]? = some (chapN ((i : Int) + 1)) := by simp [chapL, h]
theorem chapN_may (k : Int) (h0 : 1 ≤ k) (h1 : k ≤ 16) : PackMay (chapN k) := by
 have hd : ∀ i : Fin 16, PackMay (chapN ((i.val : Int) + 1)) := by decide +kernel
 obtain ⟨i, rfl⟩ : ∃ i : Nat, k = (i : Int) + 1 := ⟨(k - 1).toNat, by omega⟩
 exact hd ⟨i, by omega⟩
set_option maxHeartbeats 40000000 in
theorem lDigest_ok {b : UInt8}  : Ret prog 27 #[bv b] w (fun v w' => v = .agg (digC (dgt b)).toArray ∧ Ext w w') := by
 refine ret_of_wk func27 rfl ntmps27 leB_ ?_
 have hp:=HP.begin_ w
 refine go ?_
 refine wl_halloc (z := .agg #[.int .u8 0, .int .u8 0, .int .u8 0, .int .u8 0, .int .u8 0, .int .u8 0, .int .u8 0, .int .u8 0, .int .u8 0, .int .u8 0, .int .u8 0, .int .u8 0, .int .u8 0, .int .u8 0, .int .u8 0, .int .u8 0, .int .u8 0, .int .u8 0, .int .u8 0, .int .u8 0, .int .u8 0, .int .u8 0, .int .u8 0, .int .u8 0, .int .u8 0, .int .u8 0, .int .u8 0, .int .u8 0, .int .u8 0, .int .u8 0, .int .u8 0, .int .u8 0]) (by decide) (by kernel_rfl) hp ?_
 rintro gs2 w1 hp1 hE1
 replace hp:=hp1
 replace hp:=hp.ay (itB gs2 23 (digC dig0) :: _)
 refine go ?_
 refine wl_builtS (cells := digC (dgt b)) (ps := [(0, .tmp 3), (1, .const (.int .u8 1)), (2, .const (.int .u8 2))]) (by decide) bld23 rfl rfl ?_
 refine wl_hstore (i := 0) rfl rfl hp rfl sz23 leB_ (List.all_eq_true.1 rfl) ?_
 rintro w2 hp2 hC2
 replace hp:=hp2
 replace hp:=hp.ay (itB gs2 23 (digC (dgt b)) :: _)
 refine go ?_
 refine wk_postR (rs := [.cell 2 23]) (.inl rfl) results27 ⟨_, _, _, rfl, rfl, loadVar_agg ag23 (hp.blkAt (i := 0) rfl).at0 rfl, rfl⟩ ?_
 exact ⟨_, rfl, rfl, hp.chg⟩
set_option maxHeartbeats 40000000 in
theorem lWishes_ok (hp : HP w0 M0 Fz w H) : Ret prog 28 #[] w (fun v w2 => ∃ F2 A c, v = .slice A ([wshA, wshB]).length c ∧ HP w0 M0 F2 w2 H ∧ Frz Fz F2 w w2 ∧ GS wishR F2 w2 A c ([wshA, wshB])) := by
 have hFr:=Frz.start Fz w
 refine ret_of_wk func28 rfl ntmps28 leB_ ?_
 refine go ?_
 refine wl_builtS (ps := [(0, .const (iv 31)), (1, .const (iv 5)), (2, .const (iv 1)), (3, .const (iv 2)), (4, .const (iv 1)), (5, .const (iv 3))]) (by decide) bld68 rfl rfl ?_
 apply wl_make (k := 16) (z := .int .u8 0) (hT := sl26) (hd := by decide)
 case hz => kernel_rfl
 case hx => rfl
 case hy => rfl
 case hb => decide
 case hlo => exact Nat.le_refl _
 rintro gz1 wz1 hgz1 hoz1 hEz1
 replace hoz1:=OwnRow.bs (l := (List.replicate 16 (0 : UInt8))) hoz1.zeros
 obtain ⟨Fz1, hp1, hsub1, hnew1, _⟩ := hp.frz hEz1
 replace hp:=hp1
 have hs1:=hoz1.frz hnew1
 replace hFr:=(hFr.ext hEz1).wid hsub1
 refine wl_builtS (ps := [(0, .const (iv 32)), (1, .const (iv 1)), (2, .const (iv 1)), (3, .const (iv 2)), (4, .const (iv 2)), (5, .const (iv 7)), (6, .tmp 2)]) (by decide) bld68 rfl rfl ?_
 refine wl_bsliceR (r := wishR) (css := [[iv 31, iv 5, iv 1, iv 2, iv 1, iv 3, s0, iv wish0.old, iv wish0.new, s0], [iv 32, iv 1, iv 1, iv 2, iv 2, iv 7, .slice (some ⟨gz1, 0, none⟩) (List.replicate 16 (0 : UInt8)).length 16, iv wish0.old, iv wish0.new, s0]]) (l := [({ wish0 with client := 31, stamp := 5, group := 1, epoch := 2, kind := 1, block := 3 } : Wsh), ({ wish0 with client := 32, stamp := 1, group := 1, epoch := 2, kind := 2, block := 7, data := (List.replicate 16 (0 : UInt8)) } : Wsh)]) (xs := [.tmp 1, .tmp 3]) (by decide) sl24 rfl rfl (((RF.one (r := wishR) (Fz := Fz1) (cs := [iv 31, iv 5, iv 1, iv 2, iv 1, iv 3, s0, iv wish0.old, iv wish0.new, s0]) (v := ({ wish0 with client := 31, stamp := 5, group := 1, epoch := 2, kind := 1, block := 3 } : Wsh)) (⟨(show WshI ({ wish0 with client := 31, stamp := 5, group := 1, epoch := 2, kind := 1, block := 3 } : Wsh) by unfold WshI i64; (try unfold wish0); (try dsimp only); omega), _, _, _, _, rfl, gsn, gsn⟩)).append (RF.one (r := wishR) (Fz := Fz1) (cs := [iv 32, iv 1, iv 1, iv 2, iv 2, iv 7, .slice (some ⟨gz1, 0, none⟩) (List.replicate 16 (0 : UInt8)).length 16, iv wish0.old, iv wish0.new, s0]) (v := ({ wish0 with client := 32, stamp := 1, group := 1, epoch := 2, kind := 2, block := 7, data := (List.replicate 16 (0 : UInt8)) } : Wsh)) (⟨(show WshI ({ wish0 with client := 32, stamp := 1, group := 1, epoch := 2, kind := 2, block := 7, data := (List.replicate 16 (0 : UInt8)) } : Wsh) by unfold WshI i64; (try unfold wish0); (try dsimp only); omega), _, _, _, _, rfl, hs1, gsn⟩))) : RF wishR Fz1 _ [[iv 31, iv 5, iv 1, iv 2, iv 1, iv 3, s0, iv wish0.old, iv wish0.new, s0], [iv 32, iv 1, iv 1, iv 2, iv 2, iv 7, .slice (some ⟨gz1, 0, none⟩) (List.replicate 16 (0 : UInt8)).length 16, iv wish0.old, iv wish0.new, s0]] [({ wish0 with client := 31, stamp := 5, group := 1, epoch := 2, kind := 1, block := 3 } : Wsh), ({ wish0 with client := 32, stamp := 1, group := 1, epoch := 2, kind := 2, block := 7, data := (List.replicate 16 (0 : UInt8)) } : Wsh)]) rfl (by simp) leB_ ?_
 rintro gb2 wb2 hgb2 hs2 hE2
 obtain ⟨Fz2, hp2, hsub2, hnew2, _⟩ := hp.frz hE2
 replace hp:=hp2
 replace hs2:=hs2.mono (fun b hb h => h.elim (fun x => hsub2 b x.1) (fun e => hnew2 b (by rw [e, hgb2]; exact Nat.le_refl _) hb))
 replace hFr:=(hFr.ext hE2).wid hsub2
 refine go ?_
 refine P1 results28 ?_
 exact ⟨_, rfl, _, _, _, rfl, hp, hFr, hs2⟩
set_option maxHeartbeats 40000000 in
theorem lChange_ok {node : Int} (hp : HP w0 M0 Fz w H) (hn : i64 node) : Ret prog 35 #[.int .i64 node] w (fun v w2 => ∃ F2 cs, v = .agg cs.toArray ∧ HP w0 M0 F2 w2 H ∧ Frz Fz F2 w w2 ∧ changeR.rd F2 w2 cs (chgN node)) := by
 have hFr:=Frz.start Fz w
 unfold i64 at hn
 refine ret_of_wk func35 rfl ntmps35 leB_ ?_
 refine go ?_
 refine wl_halloc (z := .agg #[iv 0, iv 0, iv 0, s0, s0, s0]) (by decide) (by kernel_rfl) hp ?_
 rintro gs2 w1 hp1 hE1
 replace hFr:=hFr.ext hE1
 replace hp:=hp1
 refine go ?_
 have hcl:=fun w => lDigest_ok (w := w) (b := 1)
 refine Cl_ cl27 rfl (hcl _) ?_
 clear hcl
 rintro _ w2 ⟨rfl, hE2⟩
 replace hFr:=hFr.ext hE2
 replace hp:=hp.ext hE2
 refine wl_builtS (ps := [(0, .const (iv 5)), (1, .tmp 5), (2, .const (iv 2))]) (by decide) bld97 rfl rfl ?_
 have hcl:=fun w => lDigest_ok (w := w) (b := 2)
 refine Cl_ cl27 rfl (hcl _) ?_
 clear hcl
 rintro _ w3 ⟨rfl, hE3⟩
 replace hFr:=hFr.ext hE3
 replace hp:=hp.ext hE3
 refine wl_builtS (ps := [(0, .const (iv 9)), (1, .tmp 7)]) (by decide) bld97 rfl rfl ?_
 refine wl_bsliceR (r := standR) (css := [[iv 5] ++ (digC (dgt 1) ++ ([iv 2])), [iv 9] ++ (digC (dgt 2) ++ ([iv stand0.view]))]) (l := [({ seq := 5, dig := (dgt 1), view := 2 } : Stn), ({ stand0 with seq := 9, dig := (dgt 2) } : Stn)]) (xs := [.tmp 6, .tmp 8]) (by decide) sl31 rfl rfl (((RF.one (r := standR) (Fz := Fz) (cs := [iv 5] ++ (digC (dgt 1) ++ ([iv 2]))) (v := ({ seq := 5, dig := (dgt 1), view := 2 } : Stn)) (⟨(show StnI ({ seq := 5, dig := (dgt 1), view := 2 } : Stn) by unfold StnI i64; (try unfold stand0); (try dsimp only); omega), rfl⟩)).append (RF.one (r := standR) (Fz := Fz) (cs := [iv 9] ++ (digC (dgt 2) ++ ([iv stand0.view]))) (v := ({ stand0 with seq := 9, dig := (dgt 2) } : Stn)) (⟨(show StnI ({ stand0 with seq := 9, dig := (dgt 2) } : Stn) by unfold StnI i64; (try unfold stand0); (try dsimp only); omega), rfl⟩))) : RF standR Fz _ [[iv 5] ++ (digC (dgt 1) ++ ([iv 2])), [iv 9] ++ (digC (dgt 2) ++ ([iv stand0.view]))] [({ seq := 5, dig := (dgt 1), view := 2 } : Stn), ({ stand0 with seq := 9, dig := (dgt 2) } : Stn)]) rfl (by simp) leB_ ?_
 rintro gb4 wb4 hgb4 hs4 hE4
 obtain ⟨Fz4, hp4, hsub4, hnew4, _⟩ := hp.frz hE4
 replace hp:=hp4
 replace hs4:=hs4.mono (fun b hb h => h.elim (fun x => hsub4 b x.1) (fun e => hnew4 b (by rw [e, hgb4]; exact Nat.le_refl _) hb))
 replace hFr:=(hFr.ext hE4).wid hsub4
 refine go ?_
 have hcl:=fun w => lDigest_ok (w := w) (b := 1)
 refine Cl_ cl27 rfl (hcl _) ?_
 clear hcl
 rintro _ w5 ⟨rfl, hE5⟩
 replace hFr:=hFr.ext hE5
 have q0:=hE5
 replace hp:=hp.ext hE5
 refine wl_builtS (ps := [(0, .const (iv 5)), (1, .tmp 10), (2, .const (iv 2))]) (by decide) bld97 rfl rfl ?_
 have hcl:=fun w => lDigest_ok (w := w) (b := 4)
 refine Cl_ cl27 rfl (hcl _) ?_
 clear hcl
 rintro _ w6 ⟨rfl, hE6⟩
 replace hFr:=hFr.ext hE6
 replace q0:=q0.trans hE6
 replace hp:=hp.ext hE6
 refine wl_builtS (ps := [(0, .const (iv 6)), (1, .tmp 12), (2, .const (iv 1))]) (by decide) bld97 rfl rfl ?_
 have hcl:=fun w => lDigest_ok (w := w) (b := 3)
 refine Cl_ cl27 rfl (hcl _) ?_
 clear hcl
 rintro _ w7 ⟨rfl, hE7⟩
 replace hFr:=hFr.ext hE7
 replace q0:=q0.trans hE7
 replace hp:=hp.ext hE7
 refine wl_builtS (ps := [(0, .const (iv 6)), (1, .tmp 14), (2, .const (iv 2))]) (by decide) bld97 rfl rfl ?_
 have hcl:=fun w => lDigest_ok (w := w) (b := 2)
 refine Cl_ cl27 rfl (hcl _) ?_
 clear hcl
 rintro _ w8 ⟨rfl, hE8⟩
 replace hFr:=hFr.ext hE8
 replace q0:=q0.trans hE8
 replace hp:=hp.ext hE8
 refine wl_builtS (ps := [(0, .const (iv 12)), (1, .tmp 16)]) (by decide) bld97 rfl rfl ?_
 refine wl_bsliceR (r := standR) (css := [[iv 5] ++ (digC (dgt 1) ++ ([iv 2])), [iv 6] ++ (digC (dgt 4) ++ ([iv 1])), [iv 6] ++ (digC (dgt 3) ++ ([iv 2])), [iv 12] ++ (digC (dgt 2) ++ ([iv stand0.view]))]) (l := [({ seq := 5, dig := (dgt 1), view := 2 } : Stn), ({ seq := 6, dig := (dgt 4), view := 1 } : Stn), ({ seq := 6, dig := (dgt 3), view := 2 } : Stn), ({ stand0 with seq := 12, dig := (dgt 2) } : Stn)]) (xs := [.tmp 11, .tmp 13, .tmp 15, .tmp 17]) (by decide) sl31 rfl rfl (((RF.one (r := standR) (Fz := Fz4) (cs := [iv 5] ++ (digC (dgt 1) ++ ([iv 2]))) (v := ({ seq := 5, dig := (dgt 1), view := 2 } : Stn)) (⟨(show StnI ({ seq := 5, dig := (dgt 1), view := 2 } : Stn) by unfold StnI i64; (try unfold stand0); (try dsimp only); omega), rfl⟩)).append ((RF.one (r := standR) (Fz := Fz4) (cs := [iv 6] ++ (digC (dgt 4) ++ ([iv 1]))) (v := ({ seq := 6, dig := (dgt 4), view := 1 } : Stn)) (⟨(show StnI ({ seq := 6, dig := (dgt 4), view := 1 } : Stn) by unfold StnI i64; (try unfold stand0); (try dsimp only); omega), rfl⟩)).append ((RF.one (r := standR) (Fz := Fz4) (cs := [iv 6] ++ (digC (dgt 3) ++ ([iv 2]))) (v := ({ seq := 6, dig := (dgt 3), view := 2 } : Stn)) (⟨(show StnI ({ seq := 6, dig := (dgt 3), view := 2 } : Stn) by unfold StnI i64; (try unfold stand0); (try dsimp only); omega), rfl⟩)).append (RF.one (r := standR) (Fz := Fz4) (cs := [iv 12] ++ (digC (dgt 2) ++ ([iv stand0.view]))) (v := ({ stand0 with seq := 12, dig := (dgt 2) } : Stn)) (⟨(show StnI ({ stand0 with seq := 12, dig := (dgt 2) } : Stn) by unfold StnI i64; (try unfold stand0); (try dsimp only); omega), rfl⟩))))) : RF standR Fz4 _ [[iv 5] ++ (digC (dgt 1) ++ ([iv 2])), [iv 6] ++ (digC (dgt 4) ++ ([iv 1])), [iv 6] ++ (digC (dgt 3) ++ ([iv 2])), [iv 12] ++ (digC (dgt 2) ++ ([iv stand0.view]))] [({ seq := 5, dig := (dgt 1), view := 2 } : Stn), ({ seq := 6, dig := (dgt 4), view := 1 } : Stn), ({ seq := 6, dig := (dgt 3), view := 2 } : Stn), ({ stand0 with seq := 12, dig := (dgt 2) } : Stn)]) rfl (by simp) leB_ ?_
 rintro gb9 wb9 hgb9 hs9 hE9
 obtain ⟨Fz9, hp9, hsub9, hnew9, _⟩ := hp.frz hE9
 replace hp:=hp9
 replace hs9:=hs9.mono (fun b hb h => h.elim (fun x => hsub9 b x.1) (fun e => hnew9 b (by rw [e, hgb9]; exact Nat.le_refl _) hb))
 replace hFr:=(hFr.ext hE9).wid hsub9
 have q1:=hs4.tk.ext q0
 replace q1:=(q1.ext hE9).wid hsub9
 refine go ?_
 have hcl:=fun w => lDigest_ok (w := w) (b := 9)
 refine Cl_ cl27 rfl (hcl _) ?_
 clear hcl
 rintro _ w10 ⟨rfl, hE10⟩
 replace hFr:=hFr.ext hE10
 replace q1:=q1.ext hE10
 have q2:=hE10
 replace hp:=hp.ext hE10
 refine wl_builtS (ps := [(0, .const (iv 4)), (1, .tmp 20)]) (by decide) bld95 rfl rfl ?_
 have hcl:=fun w => lDigest_ok (w := w) (b := 8)
 refine Cl_ cl27 rfl (hcl _) ?_
 clear hcl
 rintro _ w11 ⟨rfl, hE11⟩
 replace hFr:=hFr.ext hE11
 replace q1:=q1.ext hE11
 replace q2:=q2.trans hE11
 replace hp:=hp.ext hE11
 refine wl_builtS (ps := [(0, .const (iv 8)), (1, .tmp 22)]) (by decide) bld95 rfl rfl ?_
 refine wl_bsliceR (r := markR) (css := [[iv 4] ++ (digC (dgt 9)), [iv 8] ++ (digC (dgt 8))]) (l := [({ seq := 4, dig := (dgt 9) } : Mrk), ({ seq := 8, dig := (dgt 8) } : Mrk)]) (xs := [.tmp 21, .tmp 23]) (by decide) sl30 rfl rfl (((RF.one (r := markR) (Fz := Fz9) (cs := [iv 4] ++ (digC (dgt 9))) (v := ({ seq := 4, dig := (dgt 9) } : Mrk)) (⟨(show MrkI ({ seq := 4, dig := (dgt 9) } : Mrk) by unfold MrkI i64; (try unfold mark0); (try dsimp only); omega), rfl⟩)).append (RF.one (r := markR) (Fz := Fz9) (cs := [iv 8] ++ (digC (dgt 8))) (v := ({ seq := 8, dig := (dgt 8) } : Mrk)) (⟨(show MrkI ({ seq := 8, dig := (dgt 8) } : Mrk) by unfold MrkI i64; (try unfold mark0); (try dsimp only); omega), rfl⟩))) : RF markR Fz9 _ [[iv 4] ++ (digC (dgt 9)), [iv 8] ++ (digC (dgt 8))] [({ seq := 4, dig := (dgt 9) } : Mrk), ({ seq := 8, dig := (dgt 8) } : Mrk)]) rfl (by simp) leB_ ?_
 rintro gb12 wb12 hgb12 hs12 hE12
 obtain ⟨Fz12, hp12, hsub12, hnew12, _⟩ := hp.frz hE12
 replace hp:=hp12
 replace hs12:=hs12.mono (fun b hb h => h.elim (fun x => hsub12 b x.1) (fun e => hnew12 b (by rw [e, hgb12]; exact Nat.le_refl _) hb))
 replace hFr:=(hFr.ext hE12).wid hsub12
 replace q1:=(q1.ext hE12).wid hsub12
 have q3:=hs9.tk.ext q2
 replace q3:=(q3.ext hE12).wid hsub12
 refine go ?_
 refine wl_builtS (ps := [(0, .tmp 19), (1, .const (iv 3)), (2, .const (iv 4)), (3, .tmp 24), (4, .tmp 25), (5, .tmp 26)]) (by decide) bld33 rfl rfl ?_
 refine wl_hstore (i := 0) rfl rfl hp rfl sz33 leB_ (List.all_eq_true.1 rfl) ?_
 rintro w13 hp13 hC13
 replace hFr:=hFr.fz hC13
 replace q1:=q1.fz hC13
 replace q3:=q3.fz hC13
 have q4:=hs12.tk.fz hC13
 replace hp:=hp13
 refine go ?_
 refine wk_postR (rs := [.cell 2 33]) (.inl rfl) results35 ⟨_, _, _, rfl, rfl, loadVar_agg ag33 (hp.blkAt (i := 0) rfl).at0 rfl, rfl⟩ ?_
 exact ⟨_, rfl, _, _, rfl, hp.tail, hFr, ⟨(by unfold ChnI i64 chgN; (try dsimp only); omega), _, _, _, _, _, _, rfl, (hs12.fr q4), (hs4.fr q1), (hs9.fr q3)⟩⟩
theorem ones5 {S : Nat → Prop} {w : World} {cs : List Value} {n : Nte} (h : noteR.rd S w cs n) : ∀ u ∈ cs, u.oneCell' = true := by
 obtain ⟨_, _, _, _, _, _, _, _, _, _, _, _, _, _, _, _, _, _, _, _, _, _, _, rfl, _⟩ := h
 exact List.all_eq_true.1 rfl
theorem t0_lChapter_ok {p : Prop} (h : p := by exact ⟨(by unfold NteI i64 note0 change0 ans0; (try unfold chgN); dsimp only; omega), _, _, _, _, _, _, _, _, _, _, _, _, _, _, _, _, _, _, _, _, _, _, rfl, (hw.fr q3), gsn, gsn, gsn, gsn, gsn, gsn, gsn, gsn, gsn, gsn⟩) : p := h
theorem t1_lChapter_ok {p : Prop} (h : p := by exact ⟨(by unfold NteI i64 note0 change0 ans0; (try unfold chgN); dsimp only; omega), _, _, _, _, _, _, _, _, _, _, _, _, _, _, _, _, _, _, _, _, _, _, rfl, gsn, gsn, gsn, gsn, gsn, gsn, gsn, gsn, gsn, gsn, gsn⟩) : p := h
set_option maxHeartbeats 40000000 in
theorem lChapter_ok (hp : HP w0 M0 Fz w H) : Ret prog 26 #[] w (fun v w2 => ∃ F2 A c, v = .slice A (chapL 16).length c ∧ HP w0 M0 F2 w2 H ∧ Frz Fz F2 w w2 ∧ GS noteR F2 w2 A c (chapL 16)) := by
 have hFr:=Frz.start Fz w
 refine ret_of_wk func26 rfl ntmps26 leB_ ?_
 refine go ?_
 have hcl:=lWishes_ok hp
 refine Cl_ cl28 rfl hcl ?_
 clear hcl
 rintro _ w1 ⟨F1, A1, c1, rfl, hp1, hF1, hs1⟩
 replace hFr:=hFr.fr hF1
 replace hp:=hp1
 refine go ?_
 refine wl_builtS (ps := [(1, .const (iv 3)), (2, .const (iv 1)), (3, .const (iv 2))]) (by decide) bld38 rfl rfl ?_
 refine wl_halloc (z := .agg #[iv 0, iv 0, iv 0, iv 0, iv 0, iv 0, .int .u8 0, .int .u8 0, .int .u8 0, .int .u8 0, .int .u8 0, .int .u8 0, .int .u8 0, .int .u8 0, .int .u8 0, .int .u8 0, .int .u8 0, .int .u8 0, .int .u8 0, .int .u8 0, .int .u8 0, .int .u8 0, .int .u8 0, .int .u8 0, .int .u8 0, .int .u8 0, .int .u8 0, .int .u8 0, .int .u8 0, .int .u8 0, .int .u8 0, .int .u8 0, .int .u8 0, .int .u8 0, .int .u8 0, .int .u8 0, .int .u8 0, .int .u8 0, s0, iv 0, s0, iv 0, s0, iv 0, iv 0, iv 0, iv 0, iv 0, s0, s0, s0, s0, s0, iv 0, iv 0, s0, s0, s0]) (by decide) (by kernel_rfl) hp ?_
 rintro gs2 w2 hp2 hE2
 replace hFr:=hFr.ext hE2
 have q0:=hE2
 replace hp:=hp2
 refine wl_hstore (i := 0) rfl rfl hp rfl sz38 leB_ (List.all_eq_true.1 rfl) ?_
 rintro w3 hp3 hC3
 replace hFr:=hFr.fz hC3
 have q1:=hs1.tk.ext q0
 replace q1:=q1.fz hC3
 replace hp:=hp3
 refine go ?_
 replace hp:=hp.noRow 38 58
 refine go ?_
 refine wc_loop (fun L' w' mes => ∃ (k : Nat), ∃ (F : Nat → Prop), ∃ (A3 : Option Addr), ∃ (c3 : Nat), ∃ (rows : List (List Value)), L' = [(1, .slice A1 ([wshA, wshB]).length c1), (2, pt gs2 0), (3, .slice A3 k c3), (4, iv ((k : Int) + 1))] ∧ (k ≤ 16) ∧ (Frz Fz F w w') ∧ (GS wishR F w' A1 c1 [wshA, wshB]) ∧ (RF noteR F w' rows (chapL k)) ∧ (HP w0 M0 F w' (itR 38 58 A3 k c3 rows.flatten :: itB gs2 38 ([iv note0.kind, iv 3, iv 1, iv 2, iv note0.view, iv note0.seq] ++ (digC note0.dig ++ ([s0, iv note0.ans.err, s0, iv note0.ans.epoch, s0, iv note0.stamp, iv note0.node, iv note0.change.node, iv note0.change.view, iv note0.change.low, s0, s0, s0, s0, s0, iv note0.level, iv note0.place, s0, s0, s0]))) :: H)) ∧ 16 - k = mes) [(1, .slice A1 ([wshA, wshB]).length c1), (2, pt gs2 0), (3, s0), (4, iv ((0 : Int) + 1))] (16 - 0) (by
     refine ⟨0, F1, none, 0, [], rfl, ?_, ?_, ?_, ?_, ?_, rfl⟩
     · omega
     · exact hFr
     · exact (hs1.fr q1)
     · exact RF.nil _ _ _
     · exact hp) ⟨rfl, rfl, rfl, rfl, trivial⟩ ?_
 rintro _ wr _ ⟨k, F, A3, c3, rows, rfl, hk, hFr, hw, hR, hp, rfl⟩ KL1 hKL1
 refine go ?_
 refine Lq_ rfl rfl (go ?_)
 refine Cd (fun hk16 => ?_) fun hk16 => ?_
 refine go ?_
 refine Hx_ ([iv note0.kind, iv 3, iv 1, iv 2, iv note0.view, iv note0.seq] ++ (digC note0.dig ++ ([s0, iv note0.ans.err, s0, iv note0.ans.epoch, s0, iv note0.stamp, iv note0.node, iv note0.change.node, iv note0.change.view, iv note0.change.low, s0, s0, s0, s0, s0, iv note0.level, iv note0.place, s0, s0, s0]))) 1 ag38 rfl hp rfl rfl rfl ?_
 refine wl_halloc (z := .agg #[iv 0, iv 0, iv 0, iv 0, iv 0, iv 0, .int .u8 0, .int .u8 0, .int .u8 0, .int .u8 0, .int .u8 0, .int .u8 0, .int .u8 0, .int .u8 0, .int .u8 0, .int .u8 0, .int .u8 0, .int .u8 0, .int .u8 0, .int .u8 0, .int .u8 0, .int .u8 0, .int .u8 0, .int .u8 0, .int .u8 0, .int .u8 0, .int .u8 0, .int .u8 0, .int .u8 0, .int .u8 0, .int .u8 0, .int .u8 0, .int .u8 0, .int .u8 0, .int .u8 0, .int .u8 0, .int .u8 0, .int .u8 0, s0, iv 0, s0, iv 0, s0, iv 0, iv 0, iv 0, iv 0, iv 0, s0, s0, s0, s0, s0, iv 0, iv 0, s0, s0, s0]) (by decide) (by kernel_rfl) hp ?_
 rintro gs5 w4 hp4 hE4
 replace hFr:=hFr.ext hE4
 have q2:=hE4
 replace hp:=hp4
 refine wl_hstore (i := 0) rfl rfl hp rfl sz38 leB_ (List.all_eq_true.1 rfl) ?_
 rintro w5 hp5 hC5
 replace hFr:=hFr.fz hC5
 have q3:=hw.tk.ext q2
 replace q3:=q3.fz hC5
 replace hp:=hp5
 refine go ?_
 refine Fd_ 0 fld38_0 rfl rfl ?_
 refine wl_hstore1 (i := 0) rfl rfl hp rfl sz3 (Nat.lt_of_lt_of_le (Nat.lt_succ_self _) leB_) rfl ?_
 rintro w6 hp6 hC6
 replace hFr:=hFr.fz hC6
 replace q3:=q3.fz hC6
 replace hp:=hp6
 refine gl ?_
 refine wc_seq_cut (fun L' w' => ∃ (F5 : Nat → Prop), ∃ (cs5 : List Value), L' = [(1, .slice A1 ([wshA, wshB]).length c1), (2, pt gs2 0), (3, .slice A3 k c3), (4, iv ((k : Int) + 1)), (5, pt gs5 0)] ∧ (Frz Fz F5 w w') ∧ (GS wishR F5 w' A1 c1 [wshA, wshB]) ∧ (RF noteR F5 w' rows (chapL k)) ∧ (noteR.rd F5 w' cs5 (chapN ((k : Int) + 1))) ∧ (HP w0 M0 F5 w' (itB gs5 38 cs5 :: itR 38 58 A3 k c3 rows.flatten :: itB gs2 38 ([iv note0.kind, iv 3, iv 1, iv 2, iv note0.view, iv note0.seq] ++ (digC note0.dig ++ ([s0, iv note0.ans.err, s0, iv note0.ans.epoch, s0, iv note0.stamp, iv note0.node, iv note0.change.node, iv note0.change.view, iv note0.change.low, s0, s0, s0, s0, s0, iv note0.level, iv note0.place, s0, s0, s0]))) :: H))) (fun K hK => ?_) ?_
 refine go ?_
 refine Eq_ rfl rfl (go ?_)
 refine Cd (fun hc2 => ?_) fun hc2 => ?_
 refine go ?_
 refine Cd (fun hc3 => ?_) fun hc3 => ?_
 refine go ?_
 refine Fd_ 1 fld38_1 rfl rfl ?_
 refine wl_hstore1 (i := 0) rfl rfl hp rfl sz3 (Nat.lt_of_lt_of_le (Nat.lt_succ_self _) leB_) rfl ?_
 rintro w7 hp7 hC7
 replace hFr:=hFr.fz hC7
 replace q3:=q3.fz hC7
 replace hp:=hp7
 refine go ?_
 refine wl_to (r := wishR) (by decide) sl24 rfl rfl (hw.fr q3) 1 rfl (by decide) ?_
 intro hs8
 refine Fd_ 38 fld38_7 rfl rfl ?_
 refine wl_hstore1 (i := 0) rfl rfl hp rfl sz24 (Nat.lt_of_lt_of_le (Nat.lt_succ_self _) leB_) rfl ?_
 rintro w9 hp9 hC9
 replace hFr:=hFr.fz hC9
 replace q3:=q3.fz hC9
 have q4:=hs8.tk.fz hC9
 replace hp:=hp9
 refine gl ?_
 refine wk_drop [(1, .slice A1 ([wshA, wshB]).length c1), (2, pt gs2 0), (3, .slice A3 k c3), (4, iv ((k : Int) + 1)), (5, pt gs5 0)] ⟨rfl, rfl, rfl, rfl, rfl, trivial⟩ (hK _ _ ?_)
 refine ⟨F, [iv ((k : Int) + 1), iv 31, iv 1, iv 2, iv note0.view, iv note0.seq] ++ (digC note0.dig ++ ([.slice A1 (([wshA, wshB]).take 1).length c1, iv note0.ans.err, s0, iv note0.ans.epoch, s0, iv note0.stamp, iv note0.node, iv note0.change.node, iv note0.change.view, iv note0.change.low, s0, s0, s0, s0, s0, iv note0.level, iv note0.place, s0, s0, s0])), rfl, ?_, ?_, ?_, ?_, ?_⟩
 exact hFr
 exact (hw.fr q3)
 exact (hR.fr q3)
 ·rw [show chapN ((k : Int) + 1) = ({ ({ note0 with from_ := 3, group := 1, epoch := 2 } : Nte) with kind := ((k : Int) + 1), from_ := 31, batch := (([wshA, wshB]).take 1) } : Nte) from by
    unfold chapN headN
    repeat (first | rw [if_pos (by omega)] | rw [if_neg (by omega)])
    all_goals first | rfl | (simp [note0, ans0]; done)]
  exact ⟨(by unfold NteI i64 note0 change0 ans0; (try unfold chgN); dsimp only; omega), _, _, _, _, _, _, _, _, _, _, _, _, _, _, _, _, _, _, _, _, _, _, rfl, (hs8.fr q4), gsn, gsn, gsn, gsn, gsn, gsn, gsn, gsn, gsn, gsn⟩
 exact hp
 exact absurd hc2 hc3
 refine go ?_
 refine Eq_ rfl rfl (go ?_)
 refine Cd (fun hc4 => ?_) fun hc4 => ?_
 refine go ?_
 refine Fd_ 1 fld38_1 rfl rfl ?_
 refine wl_hstore1 (i := 0) rfl rfl hp rfl sz3 (Nat.lt_of_lt_of_le (Nat.lt_succ_self _) leB_) rfl ?_
 rintro w10 hp10 hC10
 replace hFr:=hFr.fz hC10
 replace q3:=q3.fz hC10
 replace hp:=hp10
 refine go ?_
 refine wl_to (r := wishR) (by decide) sl24 rfl rfl (hw.fr q3) 1 rfl (by decide) ?_
 intro hs11
 refine Fd_ 38 fld38_7 rfl rfl ?_
 refine wl_hstore1 (i := 0) rfl rfl hp rfl sz24 (Nat.lt_of_lt_of_le (Nat.lt_succ_self _) leB_) rfl ?_
 rintro w12 hp12 hC12
 replace hFr:=hFr.fz hC12
 replace q3:=q3.fz hC12
 have q5:=hs11.tk.fz hC12
 replace hp:=hp12
 refine gl ?_
 refine wk_drop [(1, .slice A1 ([wshA, wshB]).length c1), (2, pt gs2 0), (3, .slice A3 k c3), (4, iv ((k : Int) + 1)), (5, pt gs5 0)] ⟨rfl, rfl, rfl, rfl, rfl, trivial⟩ (hK _ _ ?_)
 refine ⟨F, [iv ((k : Int) + 1), iv 31, iv 1, iv 2, iv note0.view, iv note0.seq] ++ (digC note0.dig ++ ([.slice A1 (([wshA, wshB]).take 1).length c1, iv note0.ans.err, s0, iv note0.ans.epoch, s0, iv note0.stamp, iv note0.node, iv note0.change.node, iv note0.change.view, iv note0.change.low, s0, s0, s0, s0, s0, iv note0.level, iv note0.place, s0, s0, s0])), rfl, ?_, ?_, ?_, ?_, ?_⟩
 exact hFr
 exact (hw.fr q3)
 exact (hR.fr q3)
 ·rw [show chapN ((k : Int) + 1) = ({ ({ note0 with from_ := 3, group := 1, epoch := 2 } : Nte) with kind := ((k : Int) + 1), from_ := 31, batch := (([wshA, wshB]).take 1) } : Nte) from by
    unfold chapN headN
    repeat (first | rw [if_pos (by omega)] | rw [if_neg (by omega)])
    all_goals first | rfl | (simp [note0, ans0]; done)]
  exact ⟨(by unfold NteI i64 note0 change0 ans0; (try unfold chgN); dsimp only; omega), _, _, _, _, _, _, _, _, _, _, _, _, _, _, _, _, _, _, _, _, _, _, rfl, (hs11.fr q5), gsn, gsn, gsn, gsn, gsn, gsn, gsn, gsn, gsn, gsn⟩
 exact hp
 refine go ?_
 refine Eq_ rfl rfl (go ?_)
 refine Cd (fun hc5 => ?_) fun hc5 => ?_
 refine go ?_
 refine Fd_ 44 fld38_10 rfl rfl ?_
 refine wl_hstore1 (i := 0) rfl rfl hp rfl sz3 (Nat.lt_of_lt_of_le (Nat.lt_succ_self _) leB_) rfl ?_
 rintro w13 hp13 hC13
 replace hFr:=hFr.fz hC13
 replace q3:=q3.fz hC13
 replace hp:=hp13
 refine go ?_
 refine Fd_ 43 fld38_9 rfl rfl ?_
 refine wl_hstore1 (i := 0) rfl rfl hp rfl sz3 (Nat.lt_of_lt_of_le (Nat.lt_succ_self _) leB_) rfl ?_
 rintro w14 hp14 hC14
 replace hFr:=hFr.fz hC14
 replace q3:=q3.fz hC14
 replace hp:=hp14
 refine go ?_
 refine wl_bytesLit (xs := [.const (.int .u8 48), .const (.int .u8 49), .const (.int .u8 50), .const (.int .u8 51), .const (.int .u8 52), .const (.int .u8 53), .const (.int .u8 54), .const (.int .u8 55), .const (.int .u8 56), .const (.int .u8 57), .const (.int .u8 97), .const (.int .u8 98), .const (.int .u8 99), .const (.int .u8 100), .const (.int .u8 101), .const (.int .u8 102)]) (bs := [48, 49, 50, 51, 52, 53, 54, 55, 56, 57, 97, 98, 99, 100, 101, 102]) (by decide) (by decide) sl26 underlying5 rfl rfl rfl leB_ ?_
 rintro gb15 wb15 _ hs15 hE15
 have hsz16:=hp.chg.size
 obtain ⟨Fz16, hp16, hsub16, hnew16, hup16⟩ := hp.frz hE15
 replace hp:=hp16
 replace hFr:=(hFr.ext hE15).wid hsub16
 replace q3:=(q3.ext hE15).wid hsub16
 replace hs15:=hs15.frz hnew16
 refine wl_bsliceN (xs := [.const (iv 5), .const (iv 6), .const (iv 7), .const (iv 9)]) (l := [5, 6, 7, 9]) (by decide) sl27 rfl rfl rfl leB_ ?_
 rintro gb17 wb17 _ hs17 hE17
 have hsz18:=hp.chg.size
 obtain ⟨Fz18, hp18, hsub18, hnew18, hup18⟩ := hp.frz hE17
 replace hp:=hp18
 replace hFr:=(hFr.ext hE17).wid hsub18
 replace q3:=(q3.ext hE17).wid hsub18
 have q6:=(hs15.tk.ext hE17).wid hsub18
 replace hs17:=hs17.frz hnew18
 refine wl_builtS (ps := [(0, .const (iv 171)), (1, .tmp 31), (2, .const (iv 3)), (3, .tmp 32)]) (by decide) bld29 rfl rfl ?_
 refine Fd_ 39 fld38_8 rfl rfl ?_
 refine wl_hstore (i := 0) rfl rfl hp rfl sz29 leB_ (List.all_eq_true.1 rfl) ?_
 rintro w19 hp19 hC19
 replace hFr:=hFr.fz hC19
 replace q3:=q3.fz hC19
 replace q6:=q6.fz hC19
 have q7:=hs17.tk.fz hC19
 replace hp:=hp19
 refine gl ?_
 refine wk_drop [(1, .slice A1 ([wshA, wshB]).length c1), (2, pt gs2 0), (3, .slice A3 k c3), (4, iv ((k : Int) + 1)), (5, pt gs5 0)] ⟨rfl, rfl, rfl, rfl, rfl, trivial⟩ (hK _ _ ?_)
 refine ⟨Fz18, [iv ((k : Int) + 1), iv 3, iv 1, iv 2, iv note0.view, iv note0.seq] ++ (digC note0.dig ++ ([s0, iv 171, .slice (some ⟨gb15, 0, none⟩) ([48, 49, 50, 51, 52, 53, 54, 55, 56, 57, 97, 98, 99, 100, 101, 102] : List UInt8).length 16, iv 3, .slice (some ⟨gb17, 0, none⟩) ([5, 6, 7, 9] : List Int).length 4, iv 5, iv 31, iv note0.change.node, iv note0.change.view, iv note0.change.low, s0, s0, s0, s0, s0, iv note0.level, iv note0.place, s0, s0, s0])), rfl, ?_, ?_, ?_, ?_, ?_⟩
 exact hFr
 exact (hw.fr q3)
 exact (hR.fr q3)
 ·rw [show chapN ((k : Int) + 1) = ({ ({ note0 with from_ := 3, group := 1, epoch := 2 } : Nte) with kind := ((k : Int) + 1), ans.err := ({ err := 171, data := [48, 49, 50, 51, 52, 53, 54, 55, 56, 57, 97, 98, 99, 100, 101, 102], epoch := 3, nodes := [5, 6, 7, 9] } : Ans).err, ans.data := ({ err := 171, data := [48, 49, 50, 51, 52, 53, 54, 55, 56, 57, 97, 98, 99, 100, 101, 102], epoch := 3, nodes := [5, 6, 7, 9] } : Ans).data, ans.epoch := ({ err := 171, data := [48, 49, 50, 51, 52, 53, 54, 55, 56, 57, 97, 98, 99, 100, 101, 102], epoch := 3, nodes := [5, 6, 7, 9] } : Ans).epoch, ans.nodes := ({ err := 171, data := [48, 49, 50, 51, 52, 53, 54, 55, 56, 57, 97, 98, 99, 100, 101, 102], epoch := 3, nodes := [5, 6, 7, 9] } : Ans).nodes, stamp := 5, node := 31 } : Nte) from by
    unfold chapN headN
    repeat (first | rw [if_pos (by omega)] | rw [if_neg (by omega)])
    all_goals first | rfl | (simp [note0, ans0]; done)]
  exact ⟨(by unfold NteI i64 note0 change0 ans0; (try unfold chgN); dsimp only; omega), _, _, _, _, _, _, _, _, _, _, _, _, _, _, _, _, _, _, _, _, _, _, rfl, gsn, (hs15.fr q6), (hs17.fr q7), gsn, gsn, gsn, gsn, gsn, gsn, gsn, gsn⟩
 exact hp
 refine go ?_
 refine Eq_ rfl rfl (go ?_)
 refine Cd (fun hc6 => ?_) fun hc6 => ?_
 refine go ?_
 refine Fd_ 4 fld38_4 rfl rfl ?_
 refine wl_hstore1 (i := 0) rfl rfl hp rfl sz3 (Nat.lt_of_lt_of_le (Nat.lt_succ_self _) leB_) rfl ?_
 rintro w20 hp20 hC20
 replace hFr:=hFr.fz hC20
 replace q3:=q3.fz hC20
 replace hp:=hp20
 refine go ?_
 refine Fd_ 5 fld38_5 rfl rfl ?_
 refine wl_hstore1 (i := 0) rfl rfl hp rfl sz3 (Nat.lt_of_lt_of_le (Nat.lt_succ_self _) leB_) rfl ?_
 rintro w21 hp21 hC21
 replace hFr:=hFr.fz hC21
 replace q3:=q3.fz hC21
 replace hp:=hp21
 refine go ?_
 refine Fd_ 38 fld38_7 rfl rfl ?_
 refine wl_hstore1 (i := 0) rfl rfl hp rfl sz24 (Nat.lt_of_lt_of_le (Nat.lt_succ_self _) leB_) rfl ?_
 rintro w22 hp22 hC22
 replace hFr:=hFr.fz hC22
 replace q3:=q3.fz hC22
 replace hp:=hp22
 refine gl ?_
 refine wk_drop [(1, .slice A1 ([wshA, wshB]).length c1), (2, pt gs2 0), (3, .slice A3 k c3), (4, iv ((k : Int) + 1)), (5, pt gs5 0)] ⟨rfl, rfl, rfl, rfl, rfl, trivial⟩ (hK _ _ ?_)
 refine ⟨F, [iv ((k : Int) + 1), iv 3, iv 1, iv 2, iv 1, iv 300] ++ (digC note0.dig ++ ([.slice A1 ([wshA, wshB]).length c1, iv note0.ans.err, s0, iv note0.ans.epoch, s0, iv note0.stamp, iv note0.node, iv note0.change.node, iv note0.change.view, iv note0.change.low, s0, s0, s0, s0, s0, iv note0.level, iv note0.place, s0, s0, s0])), rfl, ?_, ?_, ?_, ?_, ?_⟩
 exact hFr
 exact (hw.fr q3)
 exact (hR.fr q3)
 ·rw [show chapN ((k : Int) + 1) = ({ ({ note0 with from_ := 3, group := 1, epoch := 2 } : Nte) with kind := ((k : Int) + 1), view := 1, seq := 300, batch := [wshA, wshB] } : Nte) from by
    unfold chapN headN
    repeat (first | rw [if_pos (by omega)] | rw [if_neg (by omega)])
    all_goals first | rfl | (simp [note0, ans0]; done)]
  exact t0_lChapter_ok
 exact hp
 refine go ?_
 refine Eq_ rfl rfl (go ?_)
 refine Cd (fun hc7 => ?_) fun hc7 => ?_
 refine go ?_
 refine Cd (fun hc8 => ?_) fun hc8 => ?_
 refine go ?_
 refine Fd_ 5 fld38_5 rfl rfl ?_
 refine wl_hstore1 (i := 0) rfl rfl hp rfl sz3 (Nat.lt_of_lt_of_le (Nat.lt_succ_self _) leB_) rfl ?_
 rintro w23 hp23 hC23
 replace hFr:=hFr.fz hC23
 replace q3:=q3.fz hC23
 replace hp:=hp23
 refine go ?_
 have hcl:=fun w => lDigest_ok (w := w) (b := 1)
 refine Cl_ cl27 rfl (hcl _) ?_
 clear hcl
 rintro _ w24 ⟨rfl, hE24⟩
 replace hFr:=hFr.ext hE24
 replace q3:=q3.ext hE24
 replace hp:=hp.ext hE24
 refine Fd_ 6 fld38_6 rfl rfl ?_
 refine wl_hstore (i := 0) rfl rfl hp rfl sz23 leB_ (List.all_eq_true.1 rfl) ?_
 rintro w25 hp25 hC25
 replace hFr:=hFr.fz hC25
 replace q3:=q3.fz hC25
 replace hp:=hp25
 refine gl ?_
 refine wk_drop [(1, .slice A1 ([wshA, wshB]).length c1), (2, pt gs2 0), (3, .slice A3 k c3), (4, iv ((k : Int) + 1)), (5, pt gs5 0)] ⟨rfl, rfl, rfl, rfl, rfl, trivial⟩ (hK _ _ ?_)
 refine ⟨F, [iv ((k : Int) + 1), iv 3, iv 1, iv 2, iv note0.view, iv 7] ++ (digC (dgt 1) ++ ([s0, iv note0.ans.err, s0, iv note0.ans.epoch, s0, iv note0.stamp, iv note0.node, iv note0.change.node, iv note0.change.view, iv note0.change.low, s0, s0, s0, s0, s0, iv note0.level, iv note0.place, s0, s0, s0])), rfl, ?_, ?_, ?_, ?_, ?_⟩
 exact hFr
 exact (hw.fr q3)
 exact (hR.fr q3)
 ·rw [show chapN ((k : Int) + 1) = ({ ({ note0 with from_ := 3, group := 1, epoch := 2 } : Nte) with kind := ((k : Int) + 1), seq := 7, dig := (dgt 1) } : Nte) from by
    unfold chapN headN
    repeat (first | rw [if_pos (by omega)] | rw [if_neg (by omega)])
    all_goals first | rfl | (simp [note0, ans0]; done)]
  exact t1_lChapter_ok
 exact hp
 exact absurd hc7 hc8
 refine go ?_
 refine Eq_ rfl rfl (go ?_)
 refine Cd (fun hc9 => ?_) fun hc9 => ?_
 refine go ?_
 refine Fd_ 5 fld38_5 rfl rfl ?_
 refine wl_hstore1 (i := 0) rfl rfl hp rfl sz3 (Nat.lt_of_lt_of_le (Nat.lt_succ_self _) leB_) rfl ?_
 rintro w26 hp26 hC26
 replace hFr:=hFr.fz hC26
 replace q3:=q3.fz hC26
 replace hp:=hp26
 refine go ?_
 have hcl:=fun w => lDigest_ok (w := w) (b := 1)
 refine Cl_ cl27 rfl (hcl _) ?_
 clear hcl
 rintro _ w27 ⟨rfl, hE27⟩
 replace hFr:=hFr.ext hE27
 replace q3:=q3.ext hE27
 replace hp:=hp.ext hE27
 refine Fd_ 6 fld38_6 rfl rfl ?_
 refine wl_hstore (i := 0) rfl rfl hp rfl sz23 leB_ (List.all_eq_true.1 rfl) ?_
 rintro w28 hp28 hC28
 replace hFr:=hFr.fz hC28
 replace q3:=q3.fz hC28
 replace hp:=hp28
 refine gl ?_
 refine wk_drop [(1, .slice A1 ([wshA, wshB]).length c1), (2, pt gs2 0), (3, .slice A3 k c3), (4, iv ((k : Int) + 1)), (5, pt gs5 0)] ⟨rfl, rfl, rfl, rfl, rfl, trivial⟩ (hK _ _ ?_)
 refine ⟨F, [iv ((k : Int) + 1), iv 3, iv 1, iv 2, iv note0.view, iv 7] ++ (digC (dgt 1) ++ ([s0, iv note0.ans.err, s0, iv note0.ans.epoch, s0, iv note0.stamp, iv note0.node, iv note0.change.node, iv note0.change.view, iv note0.change.low, s0, s0, s0, s0, s0, iv note0.level, iv note0.place, s0, s0, s0])), rfl, ?_, ?_, ?_, ?_, ?_⟩
 exact hFr
 exact (hw.fr q3)
 exact (hR.fr q3)
 ·rw [show chapN ((k : Int) + 1) = ({ ({ note0 with from_ := 3, group := 1, epoch := 2 } : Nte) with kind := ((k : Int) + 1), seq := 7, dig := (dgt 1) } : Nte) from by
    unfold chapN headN
    repeat (first | rw [if_pos (by omega)] | rw [if_neg (by omega)])
    all_goals first | rfl | (simp [note0, ans0]; done)]
  exact t1_lChapter_ok
 exact hp
 refine go ?_
 refine Eq_ rfl rfl (go ?_)
 refine Cd (fun hc10 => ?_) fun hc10 => ?_
 refine go ?_
 refine Cd (fun hc11 => ?_) fun hc11 => ?_
 refine go ?_
 refine Fd_ 5 fld38_5 rfl rfl ?_
 refine wl_hstore1 (i := 0) rfl rfl hp rfl sz3 (Nat.lt_of_lt_of_le (Nat.lt_succ_self _) leB_) rfl ?_
 rintro w29 hp29 hC29
 replace hFr:=hFr.fz hC29
 replace q3:=q3.fz hC29
 replace hp:=hp29
 refine go ?_
 have hcl:=fun w => lDigest_ok (w := w) (b := 2)
 refine Cl_ cl27 rfl (hcl _) ?_
 clear hcl
 rintro _ w30 ⟨rfl, hE30⟩
 replace hFr:=hFr.ext hE30
 replace q3:=q3.ext hE30
 replace hp:=hp.ext hE30
 refine Fd_ 6 fld38_6 rfl rfl ?_
 refine wl_hstore (i := 0) rfl rfl hp rfl sz23 leB_ (List.all_eq_true.1 rfl) ?_
 rintro w31 hp31 hC31
 replace hFr:=hFr.fz hC31
 replace q3:=q3.fz hC31
 replace hp:=hp31
 refine gl ?_
 refine wk_drop [(1, .slice A1 ([wshA, wshB]).length c1), (2, pt gs2 0), (3, .slice A3 k c3), (4, iv ((k : Int) + 1)), (5, pt gs5 0)] ⟨rfl, rfl, rfl, rfl, rfl, trivial⟩ (hK _ _ ?_)
 refine ⟨F, [iv ((k : Int) + 1), iv 3, iv 1, iv 2, iv note0.view, iv 8] ++ (digC (dgt 2) ++ ([s0, iv note0.ans.err, s0, iv note0.ans.epoch, s0, iv note0.stamp, iv note0.node, iv note0.change.node, iv note0.change.view, iv note0.change.low, s0, s0, s0, s0, s0, iv note0.level, iv note0.place, s0, s0, s0])), rfl, ?_, ?_, ?_, ?_, ?_⟩
 exact hFr
 exact (hw.fr q3)
 exact (hR.fr q3)
 ·rw [show chapN ((k : Int) + 1) = ({ ({ note0 with from_ := 3, group := 1, epoch := 2 } : Nte) with kind := ((k : Int) + 1), seq := 8, dig := (dgt 2) } : Nte) from by
    unfold chapN headN
    repeat (first | rw [if_pos (by omega)] | rw [if_neg (by omega)])
    all_goals first | rfl | (simp [note0, ans0]; done)]
  exact t1_lChapter_ok
 exact hp
 exact absurd hc10 hc11
 refine go ?_
 refine Eq_ rfl rfl (go ?_)
 refine Cd (fun hc12 => ?_) fun hc12 => ?_
 refine go ?_
 refine Fd_ 5 fld38_5 rfl rfl ?_
 refine wl_hstore1 (i := 0) rfl rfl hp rfl sz3 (Nat.lt_of_lt_of_le (Nat.lt_succ_self _) leB_) rfl ?_
 rintro w32 hp32 hC32
 replace hFr:=hFr.fz hC32
 replace q3:=q3.fz hC32
 replace hp:=hp32
 refine go ?_
 have hcl:=fun w => lDigest_ok (w := w) (b := 2)
 refine Cl_ cl27 rfl (hcl _) ?_
 clear hcl
 rintro _ w33 ⟨rfl, hE33⟩
 replace hFr:=hFr.ext hE33
 replace q3:=q3.ext hE33
 replace hp:=hp.ext hE33
 refine Fd_ 6 fld38_6 rfl rfl ?_
 refine wl_hstore (i := 0) rfl rfl hp rfl sz23 leB_ (List.all_eq_true.1 rfl) ?_
 rintro w34 hp34 hC34
 replace hFr:=hFr.fz hC34
 replace q3:=q3.fz hC34
 replace hp:=hp34
 refine gl ?_
 refine wk_drop [(1, .slice A1 ([wshA, wshB]).length c1), (2, pt gs2 0), (3, .slice A3 k c3), (4, iv ((k : Int) + 1)), (5, pt gs5 0)] ⟨rfl, rfl, rfl, rfl, rfl, trivial⟩ (hK _ _ ?_)
 refine ⟨F, [iv ((k : Int) + 1), iv 3, iv 1, iv 2, iv note0.view, iv 8] ++ (digC (dgt 2) ++ ([s0, iv note0.ans.err, s0, iv note0.ans.epoch, s0, iv note0.stamp, iv note0.node, iv note0.change.node, iv note0.change.view, iv note0.change.low, s0, s0, s0, s0, s0, iv note0.level, iv note0.place, s0, s0, s0])), rfl, ?_, ?_, ?_, ?_, ?_⟩
 exact hFr
 exact (hw.fr q3)
 exact (hR.fr q3)
 ·rw [show chapN ((k : Int) + 1) = ({ ({ note0 with from_ := 3, group := 1, epoch := 2 } : Nte) with kind := ((k : Int) + 1), seq := 8, dig := (dgt 2) } : Nte) from by
    unfold chapN headN
    repeat (first | rw [if_pos (by omega)] | rw [if_neg (by omega)])
    all_goals first | rfl | (simp [note0, ans0]; done)]
  exact t1_lChapter_ok
 exact hp
 refine go ?_
 refine Eq_ rfl rfl (go ?_)
 refine Cd (fun hc13 => ?_) fun hc13 => ?_
 refine go ?_
 have hcl:=lChange_ok hp (node := 3) (by unfold i64; omega)
 refine Cl_ cl35 rfl hcl ?_
 clear hcl
 rintro _ w35 ⟨F35, cs35, rfl, hp35, hF35, hrd35⟩
 obtain ⟨hI35, A35_0, c35_0, A35_1, c35_1, A35_2, c35_2, rfl, hr35_0, hr35_1, hr35_2⟩ := hrd35
 replace hFr:=hFr.fr hF35
 replace q3:=q3.fr hF35
 replace hp:=hp35
 refine Fd_ 45 fld38_11 rfl rfl ?_
 refine wl_hstore (i := 0) rfl rfl hp rfl sz33 leB_ (List.all_eq_true.1 rfl) ?_
 rintro w36 hp36 hC36
 replace hFr:=hFr.fz hC36
 replace q3:=q3.fz hC36
 have q8:=hr35_0.tk.fz hC36
 replace hp:=hp36
 refine gl ?_
 refine wk_drop [(1, .slice A1 ([wshA, wshB]).length c1), (2, pt gs2 0), (3, .slice A3 k c3), (4, iv ((k : Int) + 1)), (5, pt gs5 0)] ⟨rfl, rfl, rfl, rfl, rfl, trivial⟩ (hK _ _ ?_)
 refine ⟨F35, [iv ((k : Int) + 1), iv 3, iv 1, iv 2, iv note0.view, iv note0.seq] ++ (digC note0.dig ++ ([s0, iv note0.ans.err, s0, iv note0.ans.epoch, s0, iv note0.stamp, iv note0.node, iv ((chgN 3).node), iv ((chgN 3).view), iv ((chgN 3).low), .slice A35_0 ((chgN 3).marks).length c35_0, .slice A35_1 ((chgN 3).p).length c35_1, .slice A35_2 ((chgN 3).q).length c35_2, s0, s0, iv note0.level, iv note0.place, s0, s0, s0])), rfl, ?_, ?_, ?_, ?_, ?_⟩
 exact hFr
 exact (hw.fr q3)
 exact (hR.fr q3)
 ·rw [show chapN ((k : Int) + 1) = ({ ({ note0 with from_ := 3, group := 1, epoch := 2 } : Nte) with kind := ((k : Int) + 1), change.node := (chgN 3).node, change.view := (chgN 3).view, change.low := (chgN 3).low, change.marks := (chgN 3).marks, change.p := (chgN 3).p, change.q := (chgN 3).q } : Nte) from by
    unfold chapN headN
    repeat (first | rw [if_pos (by omega)] | rw [if_neg (by omega)])
    all_goals first | rfl | (simp [note0, ans0]; done)]
  exact ⟨(by unfold NteI i64 note0 change0 ans0; (try unfold chgN); dsimp only; omega), _, _, _, _, _, _, _, _, _, _, _, _, _, _, _, _, _, _, _, _, _, _, rfl, gsn, gsn, gsn, (hr35_0.fr q8), (hr35_1.fr q8), (hr35_2.fr q8), gsn, gsn, gsn, gsn, gsn⟩
 exact hp
 refine go ?_
 refine Eq_ rfl rfl (go ?_)
 refine Cd (fun hc14 => ?_) fun hc14 => ?_
 refine go ?_
 refine Fd_ 4 fld38_4 rfl rfl ?_
 refine wl_hstore1 (i := 0) rfl rfl hp rfl sz3 (Nat.lt_of_lt_of_le (Nat.lt_succ_self _) leB_) rfl ?_
 rintro w37 hp37 hC37
 replace hFr:=hFr.fz hC37
 replace q3:=q3.fz hC37
 replace hp:=hp37
 refine go ?_
 refine Fd_ 44 fld38_10 rfl rfl ?_
 refine wl_hstore1 (i := 0) rfl rfl hp rfl sz3 (Nat.lt_of_lt_of_le (Nat.lt_succ_self _) leB_) rfl ?_
 rintro w38 hp38 hC38
 replace hFr:=hFr.fz hC38
 replace q3:=q3.fz hC38
 replace hp:=hp38
 refine go ?_
 have hcl:=fun w => lDigest_ok (w := w) (b := 3)
 refine Cl_ cl27 rfl (hcl _) ?_
 clear hcl
 rintro _ w39 ⟨rfl, hE39⟩
 replace hFr:=hFr.ext hE39
 replace q3:=q3.ext hE39
 replace hp:=hp.ext hE39
 refine Fd_ 6 fld38_6 rfl rfl ?_
 refine wl_hstore (i := 0) rfl rfl hp rfl sz23 leB_ (List.all_eq_true.1 rfl) ?_
 rintro w40 hp40 hC40
 replace hFr:=hFr.fz hC40
 replace q3:=q3.fz hC40
 replace hp:=hp40
 refine gl ?_
 refine wk_drop [(1, .slice A1 ([wshA, wshB]).length c1), (2, pt gs2 0), (3, .slice A3 k c3), (4, iv ((k : Int) + 1)), (5, pt gs5 0)] ⟨rfl, rfl, rfl, rfl, rfl, trivial⟩ (hK _ _ ?_)
 refine ⟨F, [iv ((k : Int) + 1), iv 3, iv 1, iv 2, iv 3, iv note0.seq] ++ (digC (dgt 3) ++ ([s0, iv note0.ans.err, s0, iv note0.ans.epoch, s0, iv note0.stamp, iv 4, iv note0.change.node, iv note0.change.view, iv note0.change.low, s0, s0, s0, s0, s0, iv note0.level, iv note0.place, s0, s0, s0])), rfl, ?_, ?_, ?_, ?_, ?_⟩
 exact hFr
 exact (hw.fr q3)
 exact (hR.fr q3)
 ·rw [show chapN ((k : Int) + 1) = ({ ({ note0 with from_ := 3, group := 1, epoch := 2 } : Nte) with kind := ((k : Int) + 1), view := 3, dig := (dgt 3), node := 4 } : Nte) from by
    unfold chapN headN
    repeat (first | rw [if_pos (by omega)] | rw [if_neg (by omega)])
    all_goals first | rfl | (simp [note0, ans0]; done)]
  exact t1_lChapter_ok
 exact hp
 refine go ?_
 refine Eq_ rfl rfl (go ?_)
 refine Cd (fun hc15 => ?_) fun hc15 => ?_
 refine go ?_
 refine Fd_ 4 fld38_4 rfl rfl ?_
 refine wl_hstore1 (i := 0) rfl rfl hp rfl sz3 (Nat.lt_of_lt_of_le (Nat.lt_succ_self _) leB_) rfl ?_
 rintro w41 hp41 hC41
 replace hFr:=hFr.fz hC41
 replace q3:=q3.fz hC41
 replace hp:=hp41
 refine go ?_
 have hcl:=lChange_ok hp (node := 1) (by unfold i64; omega)
 refine Cl_ cl35 rfl hcl ?_
 clear hcl
 rintro _ w42 ⟨F42, cs42, rfl, hp42, hF42, hrd42⟩
 obtain ⟨hI42, A42_0, c42_0, A42_1, c42_1, A42_2, c42_2, rfl, hr42_0, hr42_1, hr42_2⟩ := hrd42
 replace hFr:=hFr.fr hF42
 replace q3:=q3.fr hF42
 replace hp:=hp42
 have hcl:=lChange_ok hp (node := 3) (by unfold i64; omega)
 refine Cl_ cl35 rfl hcl ?_
 clear hcl
 rintro _ w43 ⟨F43, cs43, rfl, hp43, hF43, hrd43⟩
 obtain ⟨hI43, A43_0, c43_0, A43_1, c43_1, A43_2, c43_2, rfl, hr43_0, hr43_1, hr43_2⟩ := hrd43
 replace hFr:=hFr.fr hF43
 replace q3:=q3.fr hF43
 have q9:=hr42_0.tk.fr hF43
 replace hp:=hp43
 have hcl:=lChange_ok hp (node := 4) (by unfold i64; omega)
 refine Cl_ cl35 rfl hcl ?_
 clear hcl
 rintro _ w44 ⟨F44, cs44, rfl, hp44, hF44, hrd44⟩
 obtain ⟨hI44, A44_0, c44_0, A44_1, c44_1, A44_2, c44_2, rfl, hr44_0, hr44_1, hr44_2⟩ := hrd44
 replace hFr:=hFr.fr hF44
 replace q3:=q3.fr hF44
 replace q9:=q9.fr hF44
 have q10:=hr43_0.tk.fr hF44
 replace hp:=hp44
 refine wl_bsliceR (r := changeR) (css := [[iv ((chgN 1).node), iv ((chgN 1).view), iv ((chgN 1).low), .slice A42_0 ((chgN 1).marks).length c42_0, .slice A42_1 ((chgN 1).p).length c42_1, .slice A42_2 ((chgN 1).q).length c42_2], [iv ((chgN 3).node), iv ((chgN 3).view), iv ((chgN 3).low), .slice A43_0 ((chgN 3).marks).length c43_0, .slice A43_1 ((chgN 3).p).length c43_1, .slice A43_2 ((chgN 3).q).length c43_2], [iv ((chgN 4).node), iv ((chgN 4).view), iv ((chgN 4).low), .slice A44_0 ((chgN 4).marks).length c44_0, .slice A44_1 ((chgN 4).p).length c44_1, .slice A44_2 ((chgN 4).q).length c44_2]]) (l := [(chgN 1), (chgN 3), (chgN 4)]) (xs := [.tmp 66, .tmp 67, .tmp 68]) (by decide) sl34 rfl rfl (((RF.one (r := changeR) (Fz := F44) (cs := [iv ((chgN 1).node), iv ((chgN 1).view), iv ((chgN 1).low), .slice A42_0 ((chgN 1).marks).length c42_0, .slice A42_1 ((chgN 1).p).length c42_1, .slice A42_2 ((chgN 1).q).length c42_2]) (v := (chgN 1)) (⟨hI42, _, _, _, _, _, _, rfl, (hr42_0.fr q9), (hr42_1.fr q9), (hr42_2.fr q9)⟩)).append ((RF.one (r := changeR) (Fz := F44) (cs := [iv ((chgN 3).node), iv ((chgN 3).view), iv ((chgN 3).low), .slice A43_0 ((chgN 3).marks).length c43_0, .slice A43_1 ((chgN 3).p).length c43_1, .slice A43_2 ((chgN 3).q).length c43_2]) (v := (chgN 3)) (⟨hI43, _, _, _, _, _, _, rfl, (hr43_0.fr q10), (hr43_1.fr q10), (hr43_2.fr q10)⟩)).append (RF.one (r := changeR) (Fz := F44) (cs := [iv ((chgN 4).node), iv ((chgN 4).view), iv ((chgN 4).low), .slice A44_0 ((chgN 4).marks).length c44_0, .slice A44_1 ((chgN 4).p).length c44_1, .slice A44_2 ((chgN 4).q).length c44_2]) (v := (chgN 4)) (⟨hI44, _, _, _, _, _, _, rfl, hr44_0, hr44_1, hr44_2⟩)))) : RF changeR F44 _ [[iv ((chgN 1).node), iv ((chgN 1).view), iv ((chgN 1).low), .slice A42_0 ((chgN 1).marks).length c42_0, .slice A42_1 ((chgN 1).p).length c42_1, .slice A42_2 ((chgN 1).q).length c42_2], [iv ((chgN 3).node), iv ((chgN 3).view), iv ((chgN 3).low), .slice A43_0 ((chgN 3).marks).length c43_0, .slice A43_1 ((chgN 3).p).length c43_1, .slice A43_2 ((chgN 3).q).length c43_2], [iv ((chgN 4).node), iv ((chgN 4).view), iv ((chgN 4).low), .slice A44_0 ((chgN 4).marks).length c44_0, .slice A44_1 ((chgN 4).p).length c44_1, .slice A44_2 ((chgN 4).q).length c44_2]] [(chgN 1), (chgN 3), (chgN 4)]) rfl (by simp) leB_ ?_
 rintro gb45 wb45 hgb45 hs45 hE45
 obtain ⟨Fz45, hp45, hsub45, hnew45, _⟩ := hp.frz hE45
 replace hp:=hp45
 replace hs45:=hs45.mono (fun b hb h => h.elim (fun x => hsub45 b x.1) (fun e => hnew45 b (by rw [e, hgb45]; exact Nat.le_refl _) hb))
 replace hFr:=(hFr.ext hE45).wid hsub45
 replace q3:=(q3.ext hE45).wid hsub45
 refine Fd_ 51 fld38_12 rfl rfl ?_
 refine wl_hstore1 (i := 0) rfl rfl hp rfl sz34 (Nat.lt_of_lt_of_le (Nat.lt_succ_self _) leB_) rfl ?_
 rintro w46 hp46 hC46
 replace hFr:=hFr.fz hC46
 replace q3:=q3.fz hC46
 have q11:=hs45.tk.fz hC46
 replace hp:=hp46
 refine go ?_
 refine wl_builtS (ps := [(0, .const (iv 5))]) (by decide) bld66 rfl rfl ?_
 have hcl:=fun w => lDigest_ok (w := w) (b := 3)
 refine Cl_ cl27 rfl (hcl _) ?_
 clear hcl
 rintro _ w47 ⟨rfl, hE47⟩
 replace hFr:=hFr.ext hE47
 replace q3:=q3.ext hE47
 replace q11:=q11.ext hE47
 replace hp:=hp.ext hE47
 refine go ?_
 refine wl_builtS (ps := [(0, .const (iv 6)), (1, .tmp 72), (2, .tmp 73)]) (by decide) bld66 rfl rfl ?_
 refine wl_bsliceR (r := pickR) (css := [[iv 5] ++ (digC pick0.dig ++ ([s0])), [iv 6] ++ (digC (dgt 3) ++ ([.slice A1 ([wshA, wshB]).length c1]))]) (l := [({ pick0 with seq := 5 } : Pck), ({ seq := 6, dig := (dgt 3), batch := [wshA, wshB] } : Pck)]) (xs := [.tmp 71, .tmp 74]) (by decide) sl35 rfl rfl (((RF.one (r := pickR) (Fz := Fz45) (cs := [iv 5] ++ (digC pick0.dig ++ ([s0]))) (v := ({ pick0 with seq := 5 } : Pck)) (⟨(show PckI ({ pick0 with seq := 5 } : Pck) by unfold PckI i64; (try unfold pick0); (try dsimp only); omega), _, _, rfl, gsn⟩)).append (RF.one (r := pickR) (Fz := Fz45) (cs := [iv 6] ++ (digC (dgt 3) ++ ([.slice A1 ([wshA, wshB]).length c1]))) (v := ({ seq := 6, dig := (dgt 3), batch := [wshA, wshB] } : Pck)) (⟨(show PckI ({ seq := 6, dig := (dgt 3), batch := [wshA, wshB] } : Pck) by unfold PckI i64; (try unfold pick0); (try dsimp only); omega), _, _, rfl, (hw.fr q3)⟩))) : RF pickR Fz45 _ [[iv 5] ++ (digC pick0.dig ++ ([s0])), [iv 6] ++ (digC (dgt 3) ++ ([.slice A1 ([wshA, wshB]).length c1]))] [({ pick0 with seq := 5 } : Pck), ({ seq := 6, dig := (dgt 3), batch := [wshA, wshB] } : Pck)]) rfl (by simp) leB_ ?_
 rintro gb48 wb48 hgb48 hs48 hE48
 obtain ⟨Fz48, hp48, hsub48, hnew48, _⟩ := hp.frz hE48
 replace hp:=hp48
 replace hs48:=hs48.mono (fun b hb h => h.elim (fun x => hsub48 b x.1) (fun e => hnew48 b (by rw [e, hgb48]; exact Nat.le_refl _) hb))
 replace hFr:=(hFr.ext hE48).wid hsub48
 replace q3:=(q3.ext hE48).wid hsub48
 replace q11:=(q11.ext hE48).wid hsub48
 refine Fd_ 52 fld38_13 rfl rfl ?_
 refine wl_hstore1 (i := 0) rfl rfl hp rfl sz35 (Nat.lt_of_lt_of_le (Nat.lt_succ_self _) leB_) rfl ?_
 rintro w49 hp49 hC49
 replace hFr:=hFr.fz hC49
 replace q3:=q3.fz hC49
 replace q11:=q11.fz hC49
 have q12:=hs48.tk.fz hC49
 replace hp:=hp49
 refine gl ?_
 refine wk_drop [(1, .slice A1 ([wshA, wshB]).length c1), (2, pt gs2 0), (3, .slice A3 k c3), (4, iv ((k : Int) + 1)), (5, pt gs5 0)] ⟨rfl, rfl, rfl, rfl, rfl, trivial⟩ (hK _ _ ?_)
 refine ⟨Fz48, [iv ((k : Int) + 1), iv 3, iv 1, iv 2, iv 3, iv note0.seq] ++ (digC note0.dig ++ ([s0, iv note0.ans.err, s0, iv note0.ans.epoch, s0, iv note0.stamp, iv note0.node, iv note0.change.node, iv note0.change.view, iv note0.change.low, s0, s0, s0, .slice (some ⟨gb45, 0, none⟩) ([(chgN 1), (chgN 3), (chgN 4)] : List Chn).length 3, .slice (some ⟨gb48, 0, none⟩) ([({ pick0 with seq := 5 } : Pck), ({ seq := 6, dig := (dgt 3), batch := [wshA, wshB] } : Pck)] : List Pck).length 2, iv note0.level, iv note0.place, s0, s0, s0])), rfl, ?_, ?_, ?_, ?_, ?_⟩
 exact hFr
 exact (hw.fr q3)
 exact (hR.fr q3)
 ·rw [show chapN ((k : Int) + 1) = ({ ({ note0 with from_ := 3, group := 1, epoch := 2 } : Nte) with kind := ((k : Int) + 1), view := 3, changes := [(chgN 1), (chgN 3), (chgN 4)], picks := [({ pick0 with seq := 5 } : Pck), ({ seq := 6, dig := (dgt 3), batch := [wshA, wshB] } : Pck)] } : Nte) from by
    unfold chapN headN
    repeat (first | rw [if_pos (by omega)] | rw [if_neg (by omega)])
    all_goals first | rfl | (simp [note0, ans0]; done)]
  exact ⟨(by unfold NteI i64 note0 change0 ans0; (try unfold chgN); dsimp only; omega), _, _, _, _, _, _, _, _, _, _, _, _, _, _, _, _, _, _, _, _, _, _, rfl, gsn, gsn, gsn, gsn, gsn, gsn, (hs45.fr q11), (hs48.fr q12), gsn, gsn, gsn⟩
 exact hp
 refine go ?_
 refine Eq_ rfl rfl (go ?_)
 refine Cd (fun hc16 => ?_) fun hc16 => ?_
 refine go ?_
 refine Fd_ 5 fld38_5 rfl rfl ?_
 refine wl_hstore1 (i := 0) rfl rfl hp rfl sz3 (Nat.lt_of_lt_of_le (Nat.lt_succ_self _) leB_) rfl ?_
 rintro w50 hp50 hC50
 replace hFr:=hFr.fz hC50
 replace q3:=q3.fz hC50
 replace hp:=hp50
 refine go ?_
 have hcl:=fun w => lDigest_ok (w := w) (b := 2)
 refine Cl_ cl27 rfl (hcl _) ?_
 clear hcl
 rintro _ w51 ⟨rfl, hE51⟩
 replace hFr:=hFr.ext hE51
 replace q3:=q3.ext hE51
 replace hp:=hp.ext hE51
 refine Fd_ 6 fld38_6 rfl rfl ?_
 refine wl_hstore (i := 0) rfl rfl hp rfl sz23 leB_ (List.all_eq_true.1 rfl) ?_
 rintro w52 hp52 hC52
 replace hFr:=hFr.fz hC52
 replace q3:=q3.fz hC52
 replace hp:=hp52
 refine go ?_
 refine Fd_ 53 fld38_14 rfl rfl ?_
 refine wl_hstore1 (i := 0) rfl rfl hp rfl sz3 (Nat.lt_of_lt_of_le (Nat.lt_succ_self _) leB_) rfl ?_
 rintro w53 hp53 hC53
 replace hFr:=hFr.fz hC53
 replace q3:=q3.fz hC53
 replace hp:=hp53
 refine go ?_
 refine Fd_ 54 fld38_15 rfl rfl ?_
 refine wl_hstore1 (i := 0) rfl rfl hp rfl sz3 (Nat.lt_of_lt_of_le (Nat.lt_succ_self _) leB_) rfl ?_
 rintro w54 hp54 hC54
 replace hFr:=hFr.fz hC54
 replace q3:=q3.fz hC54
 replace hp:=hp54
 refine gl ?_
 refine wk_drop [(1, .slice A1 ([wshA, wshB]).length c1), (2, pt gs2 0), (3, .slice A3 k c3), (4, iv ((k : Int) + 1)), (5, pt gs5 0)] ⟨rfl, rfl, rfl, rfl, rfl, trivial⟩ (hK _ _ ?_)
 refine ⟨F, [iv ((k : Int) + 1), iv 3, iv 1, iv 2, iv note0.view, iv 8] ++ (digC (dgt 2) ++ ([s0, iv note0.ans.err, s0, iv note0.ans.epoch, s0, iv note0.stamp, iv note0.node, iv note0.change.node, iv note0.change.view, iv note0.change.low, s0, s0, s0, s0, s0, iv 1, iv 2, s0, s0, s0])), rfl, ?_, ?_, ?_, ?_, ?_⟩
 exact hFr
 exact (hw.fr q3)
 exact (hR.fr q3)
 ·rw [show chapN ((k : Int) + 1) = ({ ({ note0 with from_ := 3, group := 1, epoch := 2 } : Nte) with kind := ((k : Int) + 1), seq := 8, dig := (dgt 2), level := 1, place := 2 } : Nte) from by
    unfold chapN headN
    repeat (first | rw [if_pos (by omega)] | rw [if_neg (by omega)])
    all_goals first | rfl | (simp [note0, ans0]; done)]
  exact t1_lChapter_ok
 exact hp
 refine go ?_
 refine Eq_ rfl rfl (go ?_)
 refine Cd (fun hc17 => ?_) fun hc17 => ?_
 refine go ?_
 refine Fd_ 5 fld38_5 rfl rfl ?_
 refine wl_hstore1 (i := 0) rfl rfl hp rfl sz3 (Nat.lt_of_lt_of_le (Nat.lt_succ_self _) leB_) rfl ?_
 rintro w55 hp55 hC55
 replace hFr:=hFr.fz hC55
 replace q3:=q3.fz hC55
 replace hp:=hp55
 refine go ?_
 have hcl:=fun w => lDigest_ok (w := w) (b := 2)
 refine Cl_ cl27 rfl (hcl _) ?_
 clear hcl
 rintro _ w56 ⟨rfl, hE56⟩
 replace hFr:=hFr.ext hE56
 replace q3:=q3.ext hE56
 replace hp:=hp.ext hE56
 refine Fd_ 6 fld38_6 rfl rfl ?_
 refine wl_hstore (i := 0) rfl rfl hp rfl sz23 leB_ (List.all_eq_true.1 rfl) ?_
 rintro w57 hp57 hC57
 replace hFr:=hFr.fz hC57
 replace q3:=q3.fz hC57
 replace hp:=hp57
 refine go ?_
 have hcl:=fun w => lDigest_ok (w := w) (b := 5)
 refine Cl_ cl27 rfl (hcl _) ?_
 clear hcl
 rintro _ w58 ⟨rfl, hE58⟩
 replace hFr:=hFr.ext hE58
 replace q3:=q3.ext hE58
 replace hp:=hp.ext hE58
 have hcl:=fun w => lDigest_ok (w := w) (b := 6)
 refine Cl_ cl27 rfl (hcl _) ?_
 clear hcl
 rintro _ w59 ⟨rfl, hE59⟩
 replace hFr:=hFr.ext hE59
 replace q3:=q3.ext hE59
 replace hp:=hp.ext hE59
 refine wl_bsliceR (r := digR) (css := [digC (dgt 5), digC (dgt 6)]) (l := [(dgt 5), (dgt 6)]) (xs := [.tmp 89, .tmp 90]) (by decide) sl36 rfl rfl (((RF.one (r := digR) (Fz := F) (cs := digC (dgt 5)) (v := (dgt 5)) (rfl)).append (RF.one (r := digR) (Fz := F) (cs := digC (dgt 6)) (v := (dgt 6)) (rfl))) : RF digR F _ [digC (dgt 5), digC (dgt 6)] [(dgt 5), (dgt 6)]) rfl (by simp) leB_ ?_
 rintro gb60 wb60 hgb60 hs60 hE60
 obtain ⟨Fz60, hp60, hsub60, hnew60, _⟩ := hp.frz hE60
 replace hp:=hp60
 replace hs60:=hs60.mono (fun b hb h => h.elim (fun x => hsub60 b x.1) (fun e => hnew60 b (by rw [e, hgb60]; exact Nat.le_refl _) hb))
 replace hFr:=(hFr.ext hE60).wid hsub60
 replace q3:=(q3.ext hE60).wid hsub60
 refine Fd_ 55 fld38_16 rfl rfl ?_
 refine wl_hstore1 (i := 0) rfl rfl hp rfl sz36 (Nat.lt_of_lt_of_le (Nat.lt_succ_self _) leB_) rfl ?_
 rintro w61 hp61 hC61
 replace hFr:=hFr.fz hC61
 replace q3:=q3.fz hC61
 have q13:=hs60.tk.fz hC61
 replace hp:=hp61
 refine go ?_
 refine wl_bytesLit (xs := [.const (.int .u8 108), .const (.int .u8 101), .const (.int .u8 97), .const (.int .u8 102)]) (bs := [108, 101, 97, 102]) (by decide) (by decide) sl26 underlying5 rfl rfl rfl leB_ ?_
 rintro gb62 wb62 _ hs62 hE62
 have hsz63:=hp.chg.size
 obtain ⟨Fz63, hp63, hsub63, hnew63, hup63⟩ := hp.frz hE62
 replace hp:=hp63
 replace hFr:=(hFr.ext hE62).wid hsub63
 replace q3:=(q3.ext hE62).wid hsub63
 replace q13:=(q13.ext hE62).wid hsub63
 replace hs62:=hs62.frz hnew63
 refine Fd_ 56 fld38_17 rfl rfl ?_
 refine wl_hstore1 (i := 0) rfl rfl hp rfl sz26 (Nat.lt_of_lt_of_le (Nat.lt_succ_self _) leB_) rfl ?_
 rintro w64 hp64 hC64
 replace hFr:=hFr.fz hC64
 replace q3:=q3.fz hC64
 replace q13:=q13.fz hC64
 have q14:=hs62.tk.fz hC64
 replace hp:=hp64
 refine gl ?_
 refine wk_drop [(1, .slice A1 ([wshA, wshB]).length c1), (2, pt gs2 0), (3, .slice A3 k c3), (4, iv ((k : Int) + 1)), (5, pt gs5 0)] ⟨rfl, rfl, rfl, rfl, rfl, trivial⟩ (hK _ _ ?_)
 refine ⟨Fz63, [iv ((k : Int) + 1), iv 3, iv 1, iv 2, iv note0.view, iv 8] ++ (digC (dgt 2) ++ ([s0, iv note0.ans.err, s0, iv note0.ans.epoch, s0, iv note0.stamp, iv note0.node, iv note0.change.node, iv note0.change.view, iv note0.change.low, s0, s0, s0, s0, s0, iv note0.level, iv note0.place, .slice (some ⟨gb60, 0, none⟩) ([(dgt 5), (dgt 6)] : List Dig).length 2, .slice (some ⟨gb62, 0, none⟩) ([108, 101, 97, 102] : List UInt8).length 4, s0])), rfl, ?_, ?_, ?_, ?_, ?_⟩
 exact hFr
 exact (hw.fr q3)
 exact (hR.fr q3)
 ·rw [show chapN ((k : Int) + 1) = ({ ({ note0 with from_ := 3, group := 1, epoch := 2 } : Nte) with kind := ((k : Int) + 1), seq := 8, dig := (dgt 2), digs := [(dgt 5), (dgt 6)], data := [108, 101, 97, 102] } : Nte) from by
    unfold chapN headN
    repeat (first | rw [if_pos (by omega)] | rw [if_neg (by omega)])
    all_goals first | rfl | (simp [note0, ans0]; done)]
  exact ⟨(by unfold NteI i64 note0 change0 ans0; (try unfold chgN); dsimp only; omega), _, _, _, _, _, _, _, _, _, _, _, _, _, _, _, _, _, _, _, _, _, _, rfl, gsn, gsn, gsn, gsn, gsn, gsn, gsn, gsn, (hs60.fr q13), (hs62.fr q14), gsn⟩
 exact hp
 refine go ?_
 refine Eq_ rfl rfl (go ?_)
 refine Cd (fun hc18 => ?_) fun hc18 => ?_
 refine go ?_
 refine wl_bsliceN (xs := [.const (iv 5), .const (iv 6), .const (iv 7), .const (iv 9)]) (l := [5, 6, 7, 9]) (by decide) sl27 rfl rfl rfl leB_ ?_
 rintro gb65 wb65 _ hs65 hE65
 have hsz66:=hp.chg.size
 obtain ⟨Fz66, hp66, hsub66, hnew66, hup66⟩ := hp.frz hE65
 replace hp:=hp66
 replace hFr:=(hFr.ext hE65).wid hsub66
 replace q3:=(q3.ext hE65).wid hsub66
 replace hs65:=hs65.frz hnew66
 refine Fd_ 57 fld38_18 rfl rfl ?_
 refine wl_hstore1 (i := 0) rfl rfl hp rfl sz27 (Nat.lt_of_lt_of_le (Nat.lt_succ_self _) leB_) rfl ?_
 rintro w67 hp67 hC67
 replace hFr:=hFr.fz hC67
 replace q3:=q3.fz hC67
 have q15:=hs65.tk.fz hC67
 replace hp:=hp67
 refine gl ?_
 refine wk_drop [(1, .slice A1 ([wshA, wshB]).length c1), (2, pt gs2 0), (3, .slice A3 k c3), (4, iv ((k : Int) + 1)), (5, pt gs5 0)] ⟨rfl, rfl, rfl, rfl, rfl, trivial⟩ (hK _ _ ?_)
 refine ⟨Fz66, [iv ((k : Int) + 1), iv 3, iv 1, iv 2, iv note0.view, iv note0.seq] ++ (digC note0.dig ++ ([s0, iv note0.ans.err, s0, iv note0.ans.epoch, s0, iv note0.stamp, iv note0.node, iv note0.change.node, iv note0.change.view, iv note0.change.low, s0, s0, s0, s0, s0, iv note0.level, iv note0.place, s0, s0, .slice (some ⟨gb65, 0, none⟩) ([5, 6, 7, 9] : List Int).length 4])), rfl, ?_, ?_, ?_, ?_, ?_⟩
 exact hFr
 exact (hw.fr q3)
 exact (hR.fr q3)
 ·rw [show chapN ((k : Int) + 1) = ({ ({ note0 with from_ := 3, group := 1, epoch := 2 } : Nte) with kind := ((k : Int) + 1), nodes := [5, 6, 7, 9] } : Nte) from by
    unfold chapN headN
    repeat (first | rw [if_pos (by omega)] | rw [if_neg (by omega)])
    all_goals first | rfl | (simp [note0, ans0]; done)]
  exact ⟨(by unfold NteI i64 note0 change0 ans0; (try unfold chgN); dsimp only; omega), _, _, _, _, _, _, _, _, _, _, _, _, _, _, _, _, _, _, _, _, _, _, rfl, gsn, gsn, gsn, gsn, gsn, gsn, gsn, gsn, gsn, gsn, (hs65.fr q15)⟩
 exact hp
 refine go ?_
 refine Eq_ rfl rfl (go ?_)
 refine Cd (fun hc19 => ?_) fun hc19 => ?_
 refine go ?_
 refine Fd_ 38 fld38_7 rfl rfl ?_
 refine wl_hstore1 (i := 0) rfl rfl hp rfl sz24 (Nat.lt_of_lt_of_le (Nat.lt_succ_self _) leB_) rfl ?_
 rintro w68 hp68 hC68
 replace hFr:=hFr.fz hC68
 replace q3:=q3.fz hC68
 replace hp:=hp68
 refine gl ?_
 refine wk_drop [(1, .slice A1 ([wshA, wshB]).length c1), (2, pt gs2 0), (3, .slice A3 k c3), (4, iv ((k : Int) + 1)), (5, pt gs5 0)] ⟨rfl, rfl, rfl, rfl, rfl, trivial⟩ (hK _ _ ?_)
 refine ⟨F, [iv ((k : Int) + 1), iv 3, iv 1, iv 2, iv note0.view, iv note0.seq] ++ (digC note0.dig ++ ([.slice A1 ([wshA, wshB]).length c1, iv note0.ans.err, s0, iv note0.ans.epoch, s0, iv note0.stamp, iv note0.node, iv note0.change.node, iv note0.change.view, iv note0.change.low, s0, s0, s0, s0, s0, iv note0.level, iv note0.place, s0, s0, s0])), rfl, ?_, ?_, ?_, ?_, ?_⟩
 exact hFr
 exact (hw.fr q3)
 exact (hR.fr q3)
 ·rw [show chapN ((k : Int) + 1) = ({ ({ note0 with from_ := 3, group := 1, epoch := 2 } : Nte) with kind := ((k : Int) + 1), batch := [wshA, wshB] } : Nte) from by
    unfold chapN headN
    repeat (first | rw [if_pos (by omega)] | rw [if_neg (by omega)])
    all_goals first | rfl | (simp [note0, ans0]; done)]
  exact t0_lChapter_ok
 exact hp
 refine go ?_
 refine Fd_ 5 fld38_5 rfl rfl ?_
 refine wl_hstore1 (i := 0) rfl rfl hp rfl sz3 (Nat.lt_of_lt_of_le (Nat.lt_succ_self _) leB_) rfl ?_
 rintro w69 hp69 hC69
 replace hFr:=hFr.fz hC69
 replace q3:=q3.fz hC69
 replace hp:=hp69
 refine go ?_
 refine Fd_ 38 fld38_7 rfl rfl ?_
 refine wl_hstore1 (i := 0) rfl rfl hp rfl sz24 (Nat.lt_of_lt_of_le (Nat.lt_succ_self _) leB_) rfl ?_
 rintro w70 hp70 hC70
 replace hFr:=hFr.fz hC70
 replace q3:=q3.fz hC70
 replace hp:=hp70
 refine gl ?_
 refine wk_drop [(1, .slice A1 ([wshA, wshB]).length c1), (2, pt gs2 0), (3, .slice A3 k c3), (4, iv ((k : Int) + 1)), (5, pt gs5 0)] ⟨rfl, rfl, rfl, rfl, rfl, trivial⟩ (hK _ _ ?_)
 refine ⟨F, [iv ((k : Int) + 1), iv 3, iv 1, iv 2, iv note0.view, iv 6] ++ (digC note0.dig ++ ([.slice A1 ([wshA, wshB]).length c1, iv note0.ans.err, s0, iv note0.ans.epoch, s0, iv note0.stamp, iv note0.node, iv note0.change.node, iv note0.change.view, iv note0.change.low, s0, s0, s0, s0, s0, iv note0.level, iv note0.place, s0, s0, s0])), rfl, ?_, ?_, ?_, ?_, ?_⟩
 exact hFr
 exact (hw.fr q3)
 exact (hR.fr q3)
 ·rw [show chapN ((k : Int) + 1) = ({ ({ note0 with from_ := 3, group := 1, epoch := 2 } : Nte) with kind := ((k : Int) + 1), seq := 6, batch := [wshA, wshB] } : Nte) from by
    unfold chapN headN
    repeat (first | rw [if_pos (by omega)] | rw [if_neg (by omega)])
    all_goals first | rfl | (simp [note0, ans0]; done)]
  exact t0_lChapter_ok
 exact hp
 rintro _ wn ⟨F5, cs5, rfl, hFr, hw, hR, hn, hp⟩
 refine go ?_
 have hl5 : cs5.length = 58 := noteR.len hn
 have ho5:=ones5 hn
 replace hn:=RF.one (r := noteR) (Fz := F5) hn
 refine wl_hloadX cs5 (i := 0) (by decide) ag38 rfl hp rfl hl5 (by rw [List.drop_zero, List.take_of_length_le (Nat.le_of_eq hl5)]) ?_
 refine wl_oneOf (by decide) sl54 rfl rfl (by show cs5.toArray.size = 58; simpa using hl5) leB_ ?_
 rintro _ wo hOn hEo
 replace hFr:=hFr.ext hEo
 have q16:=hEo
 replace hp:=hp.ext hEo
 obtain ⟨gt, rfl, hat9⟩ := hOn
 refine wl_happend (i := 1) (m := 1) (size := 58) (news := cs5) (by decide) sl54 rfl rfl hp rfl (by rw [hl5]) (fun b hb => by cases hb; exact hat9) (by simp) ho5 (by omega) ?_
 rintro A9 c9 w9 hp9 hC9
 replace hFr:=hFr.fz hC9
 have q17:=hw.tk.ext q16
 replace q17:=q17.fz hC9
 replace hp:=hp9
 refine go ?_
 refine wl_add (by decide) rfl rfl (w64 (by omega) (by omega)) (gl ?_)
 refine wk_drop [(1, .slice A1 ([wshA, wshB]).length c1), (2, pt gs2 0), (3, .slice A9 (k + 1) c9), (4, iv (((k + 1) : Int) + 1))] ⟨rfl, rfl, rfl, rfl, trivial⟩ (hKL1 _ _ (m2 := 16 - (k + 1)) ?_ ?_)
 refine ⟨(k + 1), F5, A9, c9, (rows ++ [cs5]), rfl, ?_, ?_, ?_, ?_, ?_, rfl⟩
 omega
 exact hFr
 exact (hw.fr q17)
 rw [chapL_succ]; exact (hR.fr q17).append (hn.fr q17)
 rw [flat_snoc, List.append_nil]; exact hp.tail
 omega
 obtain rfl : k = 16 := by omega
 refine go ?_
 refine P1 results26 ?_
 obtain ⟨F8, hp8, hs8, hb8⟩ := hp.frzRow
 have hgs : GS noteR F8 _ A3 c3 (chapL 16) := OwnRow.gsRF (r := noteR) (hp.rowAt (i := 0) rfl) (hR.wid hs8) hb8
 exact ⟨_, rfl, F8, A3, c3, rfl, hp8.tail, hFr.wid hs8, hgs⟩
theorem chapL_getD {i : Nat} (h : i < 16) : (chapL 16).getD i note0 = chapN ((i : Int) + 1) := by
 rw [List.getD_eq_getElem?_getD, chapL_get h]; rfl
theorem chapL_pm {i : Nat} (h : i < 16) : PackMay ((chapL 16).getD i note0) := by
 rw [chapL_getD h]
 exact chapN_may _ (by omega) (by omega)
theorem packS_pm {n : Nte} (h : PackMay n) : packS n = (noteE n, 0) := if_pos h
theorem packS_no {n : Nte} (h : ¬ PackMay n) : packS n = ([], 2) := if_neg h
theorem unpack_pm {n : Nte} (h : PackMay n) : unpackS (packS n).1 = (n, 0) := by
 rw [packS_pm h]
 exact unpack_pack h
theorem pm_few {n : Nte} (h : PackMay n) : n.changes.length * 96 ≤ 140737488355328 := by
 have h1 := read_own (may_fine h.1).1
 have h2 := changes_few h1
 rw [h.2] at h2
 omega
def awN : Nte := { note0 with kind := 12, from_ := 2, group := 1, epoch := 5, nodes := [5, 6, 7, 9] }
theorem aw_len : (packS ((chapL 16).getD 3 note0)).1.length = 43 := by decide +kernel
theorem aw_a : (packS ((chapL 16).getD 3 note0)).1.take 11 = [1, 4, 1, 3, 1, 1, 1, 2, 0, 1, 7] := by decide +kernel
theorem aw_c : (packS awN).1 = [1, 12, 1, 2, 1, 1, 1, 5, 1, 4, 1, 5, 1, 6, 1, 7, 1, 9] := by decide +kernel
set_option maxHeartbeats 40000000 in
theorem lAwake_ok   : Ret prog 19 #[] w (fun v w' => v = .bool true ∧ Ext w w') := by
 refine ret_of_wk func19 rfl ntmps19 leB_ ?_
 have hp:=HP.begin_ w
 refine go ?_
 have hcl:=lChapter_ok hp
 refine Cl_ cl26 rfl hcl ?_
 clear hcl
 rintro _ w1 ⟨F1, A1, c1, rfl, hp1, hF1, hs1⟩
 replace hp:=hp1
 refine go ?_
 refine wc_loop (fun L' w' mes => ∃ (i : Nat), ∃ (F : Nat → Prop), L' = [(1, .slice A1 (chapL 16).length c1), (2, iv (i : Int))] ∧ (i ≤ 16) ∧ (GS noteR F w' A1 c1 (chapL 16)) ∧ (HP w (fun _ => False) F w' []) ∧ 16 - i = mes) [(1, .slice A1 (chapL 16).length c1), (2, iv (0 : Int))] (16 - 0) (by
     refine ⟨0, F1, rfl, ?_, ?_, ?_, rfl⟩
     · omega
     · exact hs1
     · exact hp) ⟨rfl, rfl, trivial⟩ ?_
 rintro _ wr _ ⟨i, F, rfl, hi, hw, hp, rfl⟩ KL1 hKL1
 refine go ?_
 refine Ln_ underlying54 rfl ?_
 refine Ls_ rfl rfl (go ?_)
 refine Cd (fun hlt => ?_) fun hlt => ?_
 have hj : i < 16 := by rw [chapL_len] at hlt; omega
 have hpm:=chapL_pm hj
 refine go ?_
 obtain ⟨ae2, pe2_0, qe2_0, pe2_1, qe2_1, pe2_2, qe2_2, pe2_3, qe2_3, pe2_4, qe2_4, pe2_5, qe2_5, pe2_6, qe2_6, pe2_7, qe2_7, pe2_8, qe2_8, pe2_9, qe2_9, pe2_10, qe2_10, hAe2, hate2, hIe2, he2_0, he2_1, he2_2, he2_3, he2_4, he2_5, he2_6, he2_7, he2_8, he2_9, he2_10⟩ := noteR_el hw i (by rw [chapL_len]; exact hj)
 refine wl_idx0 (by decide) sl54 rfl rfl hAe2 i rfl (by rw [chapL_len]; exact hj) ?_
 refine wl_loadA (by decide) ag38 rfl hate2.at_ rfl ?_
 have hcl:=nPack_ok ⟨hIe2, _, _, _, _, _, _, _, _, _, _, _, _, _, _, _, _, _, _, _, _, _, _, rfl, he2_0, he2_1, he2_2, he2_3, he2_4, he2_5, he2_6, he2_7, he2_8, he2_9, he2_10⟩ (pm_few hpm)
 refine Cl_ cl14 rfl hcl ?_
 clear hcl
 rintro _ w3 ⟨A3, c3, rfl, ho3, hE3⟩
 replace ho3:=ho3.bs
 have hsz4:=hp.chg.size
 obtain ⟨Fz4, hp4, hsub4, hnew4, hup4⟩ := hp.frz hE3
 replace hp:=hp4
 have q0:=(hw.tk.ext hE3).wid hsub4
 replace ho3:=ho3.frz hnew4
 refine go ?_
 have hcl:=nUnpack_ok hp ho3
 refine Cl_ cl21 rfl hcl ?_
 clear hcl
 rintro _ wu28 ⟨Fu28, csu28, xu28, eu28, rfl, hpu28, hFu28, hrdu28, huu28⟩
 obtain ⟨hIu28, Au28_0, cu28_0, Au28_1, cu28_1, Au28_2, cu28_2, Au28_3, cu28_3, Au28_4, cu28_4, Au28_5, cu28_5, Au28_6, cu28_6, Au28_7, cu28_7, Au28_8, cu28_8, Au28_9, cu28_9, Au28_10, cu28_10, rfl, hru28_0, hru28_1, hru28_2, hru28_3, hru28_4, hru28_5, hru28_6, hru28_7, hru28_8, hru28_9, hru28_10⟩ := hrdu28
 replace q0:=q0.fr hFu28
 replace hp:=hpu28
 have hux : xu28 = ((chapL 16).getD i note0) := congrArg Prod.fst (huu28.trans (unpack_pm hpm))
 have hue : eu28 = 0 := congrArg Prod.snd (huu28.trans (unpack_pm hpm))
 refine go ?_
 refine wl_halloc (z := .agg #[iv 0, iv 0, iv 0, iv 0, iv 0, iv 0, .int .u8 0, .int .u8 0, .int .u8 0, .int .u8 0, .int .u8 0, .int .u8 0, .int .u8 0, .int .u8 0, .int .u8 0, .int .u8 0, .int .u8 0, .int .u8 0, .int .u8 0, .int .u8 0, .int .u8 0, .int .u8 0, .int .u8 0, .int .u8 0, .int .u8 0, .int .u8 0, .int .u8 0, .int .u8 0, .int .u8 0, .int .u8 0, .int .u8 0, .int .u8 0, .int .u8 0, .int .u8 0, .int .u8 0, .int .u8 0, .int .u8 0, .int .u8 0, s0, iv 0, s0, iv 0, s0, iv 0, iv 0, iv 0, iv 0, iv 0, s0, s0, s0, s0, s0, iv 0, iv 0, s0, s0, s0]) (by decide) (by kernel_rfl) hp ?_
 rintro gs5 w5 hp5 hE5
 replace q0:=q0.ext hE5
 have q1:=hE5
 replace hp:=hp5
 refine wl_hstore (i := 0) rfl rfl hp rfl sz38 leB_ (List.all_eq_true.1 rfl) ?_
 rintro w6 hp6 hC6
 replace q0:=q0.fz hC6
 have q2:=hru28_0.tk.ext q1
 replace q2:=q2.fz hC6
 replace hp:=hp6
 refine go ?_
 by_cases hq1 : (packS ((chapL 16).getD i note0)).2 ≠ 0
 exact absurd (congrArg Prod.snd (packS_pm hpm)) hq1
 by_cases hq2 : eu28 ≠ 0
 exact absurd hue hq2
 obtain ⟨aw10, pw10_0, qw10_0, pw10_1, qw10_1, pw10_2, qw10_2, pw10_3, qw10_3, pw10_4, qw10_4, pw10_5, qw10_5, pw10_6, qw10_6, pw10_7, qw10_7, pw10_8, qw10_8, pw10_9, qw10_9, pw10_10, qw10_10, hAw10, hatw10, hIw10, hw10_0, hw10_1, hw10_2, hw10_3, hw10_4, hw10_5, hw10_6, hw10_7, hw10_8, hw10_9, hw10_10⟩ := noteR_el (hw.fr q0) i (by rw [chapL_len]; exact hj)
 apply wdL [.eq _,.eq (.bool false),.eq (.bool false),.eq _,.eq (.bool false),.eq (.bool false),.eq (.bool false),.eq _,.eq _,.eq _,.eq _,.eq _,.eq _,.eq _,.eq _]
 refine ⟨?_,?_,?_,?_,?_,?_,?_,?_,?_,?_,?_,?_,?_,?_,?_,trivial⟩<;>intro F wF hER hk
 exact dm (hk.qi 4)
 have e31:=hk.qe 0
 refine Ne_ e31 rfl ?_
 exact wl_re (k := 32) (v := .bool false) rfl (congrArg Value.bool (decide_eq_false (by first | exact hq1 | omega | simpa using hq1))) qy
 exact dm (hk.qe 1)
 have e6:=hk.qi 6
 have e33:=hk.qe 2
 refine wl_gyes rfl e33 ?_
 exact Mv_ e6 qz
 have e34:=hk.qe 3
 have e33:=hk.qe 2
 refine wl_gyes rfl e33 ?_
 refine Ne_ e34 rfl ?_
 exact wl_re (k := 35) (v := .bool false) rfl (congrArg Value.bool (decide_eq_false (by first | exact hq2 | omega | simpa using hq2))) qy
 have e33:=hk.qe 2
 have e35:=hk.qe 4
 exact Pk_ e33 e35 qz
 exact dm (hk.qe 5)
 have e5:=hk.qi 5
 have e37:=hk.qe 6
 refine wl_gyes rfl e37 ?_
 exact Hx_ ([iv xu28.kind, iv xu28.from_, iv xu28.group, iv xu28.epoch, iv xu28.view, iv xu28.seq] ++ (digC xu28.dig ++ ([.slice Au28_0 xu28.batch.length cu28_0, iv xu28.ans.err, .slice Au28_1 xu28.ans.data.length cu28_1, iv xu28.ans.epoch, .slice Au28_2 xu28.ans.nodes.length cu28_2, iv xu28.stamp, iv xu28.node, iv xu28.change.node, iv xu28.change.view, iv xu28.change.low, .slice Au28_3 xu28.change.marks.length cu28_3, .slice Au28_4 xu28.change.p.length cu28_4, .slice Au28_5 xu28.change.q.length cu28_5, .slice Au28_6 xu28.changes.length cu28_6, .slice Au28_7 xu28.picks.length cu28_7, iv xu28.level, iv xu28.place, .slice Au28_8 xu28.digs.length cu28_8, .slice Au28_9 xu28.data.length cu28_9, .slice Au28_10 xu28.nodes.length cu28_10]))) 0 ag38 e5 (hp.ext hER) rfl rfl rfl qz
 have e1:=hk.qi 1
 have e37:=hk.qe 6
 refine wl_gyes rfl e37 ?_
 exact Mv_ e1 qz
 have e2:=hk.qi 2
 have e37:=hk.qe 6
 refine wl_gyes rfl e37 ?_
 exact Mv_ e2 qz
 have e39:=hk.qe 8
 have e40:=hk.qe 9
 have e37:=hk.qe 6
 refine wl_gyes rfl e37 ?_
 exact wl_idx0 (by decide) sl54 e39 e40 hAw10 i rfl (by rw [chapL_len]; exact hj) qz
 have e41:=hk.qe 10
 have e37:=hk.qe 6
 refine wl_gyes rfl e37 ?_
 exact wl_loadA (by decide) ag38 e41 (hatw10.ext hER).at_ rfl qz
 have e38:=hk.qe 7
 have e42:=hk.qe 11
 have e37:=hk.qe 6
 refine wl_gyes rfl e37 ?_
 have hcl:=rSame_ok ⟨hIu28, _, _, _, _, _, _, _, _, _, _, _, _, _, _, _, _, _, _, _, _, _, _, rfl, ((hru28_0.fr q2).ext hER), ((hru28_1.fr q2).ext hER), ((hru28_2.fr q2).ext hER), ((hru28_3.fr q2).ext hER), ((hru28_4.fr q2).ext hER), ((hru28_5.fr q2).ext hER), ((hru28_6.fr q2).ext hER), ((hru28_7.fr q2).ext hER), ((hru28_8.fr q2).ext hER), ((hru28_9.fr q2).ext hER), ((hru28_10.fr q2).ext hER)⟩ ⟨hIw10, _, _, _, _, _, _, _, _, _, _, _, _, _, _, _, _, _, _, _, _, _, _, rfl, (hw10_0.ext hER), (hw10_1.ext hER), (hw10_2.ext hER), (hw10_3.ext hER), (hw10_4.ext hER), (hw10_5.ext hER), (hw10_6.ext hER), (hw10_7.ext hER), (hw10_8.ext hER), (hw10_9.ext hER), (hw10_10.ext hER)⟩
 refine Cl_ cl17 (by simp only [evs, ev, e38, e42]; first | done | rfl) hcl ?_
 clear hcl
 rintro _ w7 ⟨rfl, hE7⟩
 exact qz ⟨hE7, rfl⟩
 have e43:=hk.qe 12
 have e37:=hk.qe 6
 refine wl_gyes rfl e37 ?_
 first | exact Nd_ e43 qz | exact Nn_ e43 qz
 have e37:=hk.qe 6
 have e44:=hk.qe 13
 exact Pk_ e37 e44 qz
 intro F wD hED hini hdo
 refine wk_drop [(1, _), (2, _), (45, _)] ⟨di hini 1, di hini 2, dq hdo 14, trivial⟩ ?_
 clear hini hdo
 replace q0:=q0.ext hED
 replace hp:=hp.ext hED
 refine go ?_
 refine Cd (fun hq3 => ?_) fun hq3 => ?_
 exact absurd hux hq3
 refine go ?_
 refine wl_add (by decide) rfl rfl (w64 (by omega) (by omega)) (gl ?_)
 refine wk_drop [(1, .slice A1 (chapL 16).length c1), (2, iv ((i + 1) : Int))] ⟨rfl, rfl, trivial⟩ (hKL1 _ _ (m2 := 16 - (i + 1)) ?_ ?_)
 refine ⟨(i + 1), Fu28, rfl, ?_, ?_, ?_, rfl⟩
 omega
 exact (hw.fr q0)
 exact hp.tail
 omega
 refine go ?_
 obtain ⟨ae7, pe7_0, qe7_0, pe7_1, qe7_1, pe7_2, qe7_2, pe7_3, qe7_3, pe7_4, qe7_4, pe7_5, qe7_5, pe7_6, qe7_6, pe7_7, qe7_7, pe7_8, qe7_8, pe7_9, qe7_9, pe7_10, qe7_10, hAe7, hate7, hIe7, he7_0, he7_1, he7_2, he7_3, he7_4, he7_5, he7_6, he7_7, he7_8, he7_9, he7_10⟩ := noteR_el hw 3 (by rw [chapL_len]; decide)
 refine wl_idx0 (by decide) sl54 rfl rfl hAe7 3 rfl (by rw [chapL_len]; decide) ?_
 refine wl_loadA (by decide) ag38 rfl hate7.at_ rfl ?_
 have hcl:=nPack_ok ⟨hIe7, _, _, _, _, _, _, _, _, _, _, _, _, _, _, _, _, _, _, _, _, _, _, rfl, he7_0, he7_1, he7_2, he7_3, he7_4, he7_5, he7_6, he7_7, he7_8, he7_9, he7_10⟩ (pm_few (chapL_pm (by decide)))
 refine Cl_ cl14 rfl hcl ?_
 clear hcl
 rintro _ w8 ⟨A8, c8, rfl, ho8, hE8⟩
 replace ho8:=ho8.bs
 have hsz9:=hp.chg.size
 obtain ⟨Fz9, hp9, hsub9, hnew9, hup9⟩ := hp.frz hE8
 replace hp:=hp9
 replace ho8:=ho8.frz hnew9
 refine go ?_
 refine wl_bsliceN (xs := [.const (iv 5), .const (iv 6), .const (iv 7), .const (iv 9)]) (l := [5, 6, 7, 9]) (by decide) sl27 rfl rfl rfl leB_ ?_
 rintro gb10 wb10 _ hs10 hE10
 have hsz11:=hp.chg.size
 obtain ⟨Fz11, hp11, hsub11, hnew11, hup11⟩ := hp.frz hE10
 replace hp:=hp11
 have q3:=(ho8.tk.ext hE10).wid hsub11
 replace hs10:=hs10.frz hnew11
 refine wl_builtS (ps := [(0, .const (iv 12)), (1, .const (iv 2)), (2, .const (iv 1)), (3, .const (iv 5)), (18, .tmp 54)]) (by decide) bld38 rfl rfl ?_
 have hcl:=nPack_ok ⟨(show NteI ({ note0 with kind := 12, from_ := 2, group := 1, epoch := 5, nodes := [5, 6, 7, 9] } : Nte) by unfold NteI i64; first | omega | (simp only [note0, ans0, change0]; omega)), _, _, _, _, _, _, _, _, _, _, _, _, _, _, _, _, _, _, _, _, _, _, rfl, (GS.nil _ _ _ none 0), (GS.nil _ _ _ none 0), (GS.nil _ _ _ none 0), (GS.nil _ _ _ none 0), (GS.nil _ _ _ none 0), (GS.nil _ _ _ none 0), (GS.nil _ _ _ none 0), (GS.nil _ _ _ none 0), (GS.nil _ _ _ none 0), (GS.nil _ _ _ none 0), hs10⟩ (by decide)
 refine Cl_ cl14 rfl hcl ?_
 clear hcl
 rintro _ w12 ⟨A12, c12, rfl, ho12, hE12⟩
 replace ho12:=ho12.bs
 have hsz13:=hp.chg.size
 obtain ⟨Fz13, hp13, hsub13, hnew13, hup13⟩ := hp.frz hE12
 replace hp:=hp13
 replace q3:=(q3.ext hE12).wid hsub13
 replace ho12:=ho12.frz hnew13
 refine go ?_
 refine Ln_ underlying26 rfl ?_
 refine Eq_ rfl rfl ?_
 refine wl_re (k := 61) (v := .bool true) rfl (congrArg Value.bool (decide_eq_true (by have := aw_len; omega))) (go ?_)
 refine wl_to (r := byteR) (by decide) sl26 rfl rfl (ho8.fr q3) 11 rfl (by rw [aw_len]; decide) ?_
 intro hs14
 refine go ?_
 refine wl_bsliceB (xs := [.const (.int .u8 1), .const (.int .u8 4), .const (.int .u8 1), .const (.int .u8 3), .const (.int .u8 1), .const (.int .u8 1), .const (.int .u8 1), .const (.int .u8 2), .const (.int .u8 0), .const (.int .u8 1), .const (.int .u8 7)]) (bs := ([1, 4, 1, 3, 1, 1, 1, 2, 0, 1, 7] : List UInt8)) (by decide) sl26 rfl rfl rfl leB_ _ (Nat.le_refl _) ?_
 rintro gb15 wb15 hgb15 hs15 hE15
 replace hs15:=hs15.bs
 have hsz16:=hp.chg.size
 obtain ⟨Fz16, hp16, hsub16, hnew16, hup16⟩ := hp.frz hE15
 replace hp:=hp16
 have q4:=(ho12.tk.ext hE15).wid hsub16
 replace hs15:=hs15.frz hnew16
 refine go ?_
 have hcl:=eqBytes_ok (hs14.fr q4) hs15
 refine Cl_ cl16 rfl hcl ?_
 clear hcl
 rintro _ w17 ⟨rfl, hE17⟩
 replace q4:=q4.ext hE17
 replace hp:=hp.ext hE17
 refine wl_re (k := 66) (v := .bool true) rfl (congrArg Value.bool (decide_eq_true (by exact aw_a))) (go ?_)
 refine wl_bsliceB (xs := [.const (.int .u8 1), .const (.int .u8 12), .const (.int .u8 1), .const (.int .u8 2), .const (.int .u8 1), .const (.int .u8 1), .const (.int .u8 1), .const (.int .u8 5), .const (.int .u8 1), .const (.int .u8 4), .const (.int .u8 1), .const (.int .u8 5), .const (.int .u8 1), .const (.int .u8 6), .const (.int .u8 1), .const (.int .u8 7), .const (.int .u8 1), .const (.int .u8 9)]) (bs := ([1, 12, 1, 2, 1, 1, 1, 5, 1, 4, 1, 5, 1, 6, 1, 7, 1, 9] : List UInt8)) (by decide) sl26 rfl rfl rfl leB_ _ (Nat.le_refl _) ?_
 rintro gb18 wb18 hgb18 hs18 hE18
 replace hs18:=hs18.bs
 have hsz19:=hp.chg.size
 obtain ⟨Fz19, hp19, hsub19, hnew19, hup19⟩ := hp.frz hE18
 replace hp:=hp19
 replace q4:=(q4.ext hE18).wid hsub19
 replace hs18:=hs18.frz hnew19
 refine go ?_
 have hcl:=eqBytes_ok (ho12.fr q4) hs18
 refine Cl_ cl16 rfl hcl ?_
 clear hcl
 rintro _ w20 ⟨rfl, hE20⟩
 replace hp:=hp.ext hE20
 refine wl_re (k := 71) (v := .bool true) rfl (congrArg Value.bool (decide_eq_true (by exact aw_c))) (go ?_)
 refine P1 results19 ?_
 exact ⟨_, rfl, rfl, hp.chg⟩
def fldY (k x : Int) : Nat → Nte
 | 0 => { chapN k with view := x }
 | 1 => { chapN k with stamp := x }
 | 2 => { chapN k with level := x }
 | 3 => { chapN k with dig := dgt (u8Of x) }
 | 4 => { chapN k with data := [1] }
 | 5 => { chapN k with nodes := [x] }
 | 6 => { chapN k with batch := [wshA, wshB] }
 | _ => { chapN k with ans := { (chapN k).ans with epoch := x } }
def fldHas (k : Int) : Nat → Prop
 | 0 => k = 3 ∨ k = 4 ∨ k = 5 ∨ k = 8 ∨ k = 9
 | 1 => k = 2
 | 2 => k = 10 ∨ k = 11
 | 3 => (4 ≤ k ∧ k ≤ 6) ∨ k = 8 ∨ k = 10 ∨ k = 11 ∨ k = 13
 | 4 => k = 11
 | 5 => k = 12
 | 6 => k = 1 ∨ k = 3 ∨ k = 14 ∨ k = 15 ∨ k = 16
 | _ => k = 2
instance (k : Int) (f : Nat) : Decidable (fldHas k f) := by unfold fldHas; split <;> infer_instance
theorem fld_dec : ∀ f : Fin 8, ∀ k : Fin 16, ∀ x : Fin 20, fldHas ((k.val : Int) + 1) f.val ∨ ¬ (ownN (fldY ((k.val : Int) + 1) ((x.val : Int) + 1) f.val) = fldY ((k.val : Int) + 1) ((x.val : Int) + 1) f.val) := by
 decide +kernel
theorem fld_no {f : Nat} {k x : Int} (hf : f < 8) (h0 : 1 ≤ k) (h1 : k ≤ 16) (h2 : 1 ≤ x) (h3 : x ≤ 20) (h : ¬ fldHas k f) : ¬ PackMay (fldY k x f) := by
 rintro ⟨_, e⟩
 have hk : k = ((k - 1).toNat : Int) + 1 := by omega
 have hx : x = ((x - 1).toNat : Int) + 1 := by omega
 rw [hk] at h e
 rw [hx] at e
 exact (fld_dec ⟨f, hf⟩ ⟨(k - 1).toNat, by omega⟩ ⟨(x - 1).toNat, by omega⟩).elim h (fun q => q e)
theorem fld_k {kk : Nat} (h : kk < 16) : (chapL 16).getD ((1 + (kk : Int)) - 1).toNat note0 = chapN (1 + (kk : Int)) := by
 rw [show ((1 + (kk : Int)) - 1).toNat = kk from by omega, chapL_getD h, Int.add_comm]
theorem fld_few {kk : Nat} (h : kk < 16) : (chapN (1 + (kk : Int))).changes.length * 96 ≤ 140737488355328 := by
 rw [Int.add_comm, ← chapL_getD h]
 exact pm_few (chapL_pm h)
set_option maxHeartbeats 40000000 in
theorem noteFields_ok {kind : Int} {field : Int} {v : Int}  (h1 : i64 kind) (h2 : i64 field) (h3 : i64 v) : Ret prog 10 #[.int .i64 kind, .int .i64 field, .int .i64 v] w (fun v w' => v = .bool true ∧ Ext w w') := by
 unfold i64 at h1 h2 h3
 refine ret_of_wk func10 rfl ntmps10 leB_ ?_
 have hp:=HP.begin_ w
 refine go ?_
 refine Cl_ cl23 rfl (bring_ok (by omega) (by omega) (by omega) (by omega)) ?_
 rintro _ wq9 ⟨rfl, hwq⟩
 rw [hwq]
 clear hwq
 obtain ⟨kk, ekk⟩ : ∃ q : Nat, brg kind 16 = (q : Int) := ⟨(brg kind 16).toNat, by have := brg_lo kind 16; omega⟩
 have hkk : kk < 16 := by have := brg_hi kind 16 (by decide); omega
 rw [ekk]
 refine wl_add (by decide) rfl rfl (w64 (by omega) (by omega)) (go ?_)
 have hcl:=lChapter_ok hp
 refine Cl_ cl26 rfl hcl ?_
 clear hcl
 rintro _ w1 ⟨F1, A1, c1, rfl, hp1, hF1, hs1⟩
 replace hp:=hp1
 refine go ?_
 refine wl_sub (by decide) rfl rfl (w64 (by omega) (by omega)) ?_
 obtain ⟨ae2, pe2_0, qe2_0, pe2_1, qe2_1, pe2_2, qe2_2, pe2_3, qe2_3, pe2_4, qe2_4, pe2_5, qe2_5, pe2_6, qe2_6, pe2_7, qe2_7, pe2_8, qe2_8, pe2_9, qe2_9, pe2_10, qe2_10, hAe2, hate2, hIe2, he2_0, he2_1, he2_2, he2_3, he2_4, he2_5, he2_6, he2_7, he2_8, he2_9, he2_10⟩ := noteR_el hs1 ((1 + (kk : Int)) - 1).toNat (by rw [chapL_len]; omega)
 refine wl_idx0 (by decide) sl54 rfl rfl hAe2 ((1 + (kk : Int)) - 1).toNat (by omega) (by rw [chapL_len]; omega) ?_
 refine wl_loadA (by decide) ag38 rfl hate2.at_ rfl ?_
 refine wl_halloc (z := .agg #[iv 0, iv 0, iv 0, iv 0, iv 0, iv 0, .int .u8 0, .int .u8 0, .int .u8 0, .int .u8 0, .int .u8 0, .int .u8 0, .int .u8 0, .int .u8 0, .int .u8 0, .int .u8 0, .int .u8 0, .int .u8 0, .int .u8 0, .int .u8 0, .int .u8 0, .int .u8 0, .int .u8 0, .int .u8 0, .int .u8 0, .int .u8 0, .int .u8 0, .int .u8 0, .int .u8 0, .int .u8 0, .int .u8 0, .int .u8 0, .int .u8 0, .int .u8 0, .int .u8 0, .int .u8 0, .int .u8 0, .int .u8 0, s0, iv 0, s0, iv 0, s0, iv 0, iv 0, iv 0, iv 0, iv 0, s0, s0, s0, s0, s0, iv 0, iv 0, s0, s0, s0]) (by decide) (by kernel_rfl) hp ?_
 rintro gs8 w3 hp3 hE3
 have q0:=hE3
 replace hp:=hp3
 refine wl_hstore (i := 0) rfl rfl hp rfl sz38 leB_ (List.all_eq_true.1 rfl) ?_
 rintro w4 hp4 hC4
 have q1:=he2_0.tk.ext q0
 replace q1:=q1.fz hC4
 replace hp:=hp4
 have hcN : ((chapL 16).getD ((1 + (kk : Int)) - 1).toNat note0).changes.length * 96 ≤ 140737488355328 := by rw [fld_k hkk]; exact fld_few hkk
 refine go ?_
 refine Hx_ ([iv (((chapL 16).getD ((1 + (kk : Int)) - 1).toNat note0).kind), iv (((chapL 16).getD ((1 + (kk : Int)) - 1).toNat note0).from_), iv (((chapL 16).getD ((1 + (kk : Int)) - 1).toNat note0).group), iv (((chapL 16).getD ((1 + (kk : Int)) - 1).toNat note0).epoch), iv (((chapL 16).getD ((1 + (kk : Int)) - 1).toNat note0).view), iv (((chapL 16).getD ((1 + (kk : Int)) - 1).toNat note0).seq)] ++ (digC (((chapL 16).getD ((1 + (kk : Int)) - 1).toNat note0).dig) ++ ([.slice pe2_0 (((chapL 16).getD ((1 + (kk : Int)) - 1).toNat note0).batch).length qe2_0, iv (((chapL 16).getD ((1 + (kk : Int)) - 1).toNat note0).ans.err), .slice pe2_1 (((chapL 16).getD ((1 + (kk : Int)) - 1).toNat note0).ans.data).length qe2_1, iv (((chapL 16).getD ((1 + (kk : Int)) - 1).toNat note0).ans.epoch), .slice pe2_2 (((chapL 16).getD ((1 + (kk : Int)) - 1).toNat note0).ans.nodes).length qe2_2, iv (((chapL 16).getD ((1 + (kk : Int)) - 1).toNat note0).stamp), iv (((chapL 16).getD ((1 + (kk : Int)) - 1).toNat note0).node), iv (((chapL 16).getD ((1 + (kk : Int)) - 1).toNat note0).change.node), iv (((chapL 16).getD ((1 + (kk : Int)) - 1).toNat note0).change.view), iv (((chapL 16).getD ((1 + (kk : Int)) - 1).toNat note0).change.low), .slice pe2_3 (((chapL 16).getD ((1 + (kk : Int)) - 1).toNat note0).change.marks).length qe2_3, .slice pe2_4 (((chapL 16).getD ((1 + (kk : Int)) - 1).toNat note0).change.p).length qe2_4, .slice pe2_5 (((chapL 16).getD ((1 + (kk : Int)) - 1).toNat note0).change.q).length qe2_5, .slice pe2_6 (((chapL 16).getD ((1 + (kk : Int)) - 1).toNat note0).changes).length qe2_6, .slice pe2_7 (((chapL 16).getD ((1 + (kk : Int)) - 1).toNat note0).picks).length qe2_7, iv (((chapL 16).getD ((1 + (kk : Int)) - 1).toNat note0).level), iv (((chapL 16).getD ((1 + (kk : Int)) - 1).toNat note0).place), .slice pe2_8 (((chapL 16).getD ((1 + (kk : Int)) - 1).toNat note0).digs).length qe2_8, .slice pe2_9 (((chapL 16).getD ((1 + (kk : Int)) - 1).toNat note0).data).length qe2_9, .slice pe2_10 (((chapL 16).getD ((1 + (kk : Int)) - 1).toNat note0).nodes).length qe2_10]))) 0 ag38 rfl hp rfl rfl rfl ?_
 refine wl_halloc (z := .agg #[iv 0, iv 0, iv 0, iv 0, iv 0, iv 0, .int .u8 0, .int .u8 0, .int .u8 0, .int .u8 0, .int .u8 0, .int .u8 0, .int .u8 0, .int .u8 0, .int .u8 0, .int .u8 0, .int .u8 0, .int .u8 0, .int .u8 0, .int .u8 0, .int .u8 0, .int .u8 0, .int .u8 0, .int .u8 0, .int .u8 0, .int .u8 0, .int .u8 0, .int .u8 0, .int .u8 0, .int .u8 0, .int .u8 0, .int .u8 0, .int .u8 0, .int .u8 0, .int .u8 0, .int .u8 0, .int .u8 0, .int .u8 0, s0, iv 0, s0, iv 0, s0, iv 0, iv 0, iv 0, iv 0, iv 0, s0, s0, s0, s0, s0, iv 0, iv 0, s0, s0, s0]) (by decide) (by kernel_rfl) hp ?_
 rintro gs9 w5 hp5 hE5
 replace q1:=q1.ext hE5
 replace hp:=hp5
 refine wl_hstore (i := 0) rfl rfl hp rfl sz38 leB_ (List.all_eq_true.1 rfl) ?_
 rintro w6 hp6 hC6
 replace q1:=q1.fz hC6
 replace hp:=hp6
 refine go ?_
 refine Cl_ cl23 rfl (bring_ok (by omega) (by omega) (by omega) (by omega)) ?_
 rintro _ wq9 ⟨rfl, hwq⟩
 rw [hwq]
 clear hwq
 obtain ⟨xx, exx⟩ : ∃ q : Nat, brg v 20 = (q : Int) := ⟨(brg v 20).toNat, by have := brg_lo v 20; omega⟩
 have hxx : xx < 20 := by have := brg_hi v 20 (by decide); omega
 rw [exx]
 refine wl_add (by decide) rfl rfl (w64 (by omega) (by omega)) (gl ?_)
 refine wc_seq ?_
 refine wc_region ?_
 refine gl ?_
 refine wc_seq_cut (fun L' w' => ∃ (F : Nat → Prop), ∃ (y : Nte), ∃ (hb : Bool), ∃ (A0y : Option Addr), ∃ (c0y : Nat), ∃ (A1y : Option Addr), ∃ (c1y : Nat), ∃ (A2y : Option Addr), ∃ (c2y : Nat), ∃ (A3y : Option Addr), ∃ (c3y : Nat), ∃ (A4y : Option Addr), ∃ (c4y : Nat), ∃ (A5y : Option Addr), ∃ (c5y : Nat), ∃ (A6y : Option Addr), ∃ (c6y : Nat), ∃ (A7y : Option Addr), ∃ (c7y : Nat), ∃ (A8y : Option Addr), ∃ (c8y : Nat), ∃ (A9y : Option Addr), ∃ (c9y : Nat), ∃ (A10y : Option Addr), ∃ (c10y : Nat), L' = [(8, pt gs8 0), (9, pt gs9 0), (11, .bool hb)] ∧ (GS wishR F w' pe2_0 qe2_0 ((chapL 16).getD ((1 + (kk : Int)) - 1).toNat note0).batch) ∧ (GS byteR F w' pe2_1 qe2_1 ((chapL 16).getD ((1 + (kk : Int)) - 1).toNat note0).ans.data) ∧ (GS intR F w' pe2_2 qe2_2 ((chapL 16).getD ((1 + (kk : Int)) - 1).toNat note0).ans.nodes) ∧ (GS markR F w' pe2_3 qe2_3 ((chapL 16).getD ((1 + (kk : Int)) - 1).toNat note0).change.marks) ∧ (GS standR F w' pe2_4 qe2_4 ((chapL 16).getD ((1 + (kk : Int)) - 1).toNat note0).change.p) ∧ (GS standR F w' pe2_5 qe2_5 ((chapL 16).getD ((1 + (kk : Int)) - 1).toNat note0).change.q) ∧ (GS changeR F w' pe2_6 qe2_6 ((chapL 16).getD ((1 + (kk : Int)) - 1).toNat note0).changes) ∧ (GS pickR F w' pe2_7 qe2_7 ((chapL 16).getD ((1 + (kk : Int)) - 1).toNat note0).picks) ∧ (GS digR F w' pe2_8 qe2_8 ((chapL 16).getD ((1 + (kk : Int)) - 1).toNat note0).digs) ∧ (GS byteR F w' pe2_9 qe2_9 ((chapL 16).getD ((1 + (kk : Int)) - 1).toNat note0).data) ∧ (GS intR F w' pe2_10 qe2_10 ((chapL 16).getD ((1 + (kk : Int)) - 1).toNat note0).nodes) ∧ (GS wishR F w' A0y c0y (y).batch) ∧ (GS byteR F w' A1y c1y (y).ans.data) ∧ (GS intR F w' A2y c2y (y).ans.nodes) ∧ (GS markR F w' A3y c3y (y).change.marks) ∧ (GS standR F w' A4y c4y (y).change.p) ∧ (GS standR F w' A5y c5y (y).change.q) ∧ (GS changeR F w' A6y c6y (y).changes) ∧ (GS pickR F w' A7y c7y (y).picks) ∧ (GS digR F w' A8y c8y (y).digs) ∧ (GS byteR F w' A9y c9y (y).data) ∧ (GS intR F w' A10y c10y (y).nodes) ∧ (NteI y) ∧ (hb = true ∨ ¬ PackMay y) ∧ (y.changes.length * 96 ≤ 140737488355328) ∧ (HP w (fun _ => False) F w' (itB gs9 38 ([iv y.kind, iv y.from_, iv y.group, iv y.epoch, iv y.view, iv y.seq] ++ (digC y.dig ++ ([.slice A0y y.batch.length c0y, iv y.ans.err, .slice A1y y.ans.data.length c1y, iv y.ans.epoch, .slice A2y y.ans.nodes.length c2y, iv y.stamp, iv y.node, iv y.change.node, iv y.change.view, iv y.change.low, .slice A3y y.change.marks.length c3y, .slice A4y y.change.p.length c4y, .slice A5y y.change.q.length c5y, .slice A6y y.changes.length c6y, .slice A7y y.picks.length c7y, iv y.level, iv y.place, .slice A8y y.digs.length c8y, .slice A9y y.data.length c9y, .slice A10y y.nodes.length c10y]))) :: itB gs8 38 ([iv (((chapL 16).getD ((1 + (kk : Int)) - 1).toNat note0).kind), iv (((chapL 16).getD ((1 + (kk : Int)) - 1).toNat note0).from_), iv (((chapL 16).getD ((1 + (kk : Int)) - 1).toNat note0).group), iv (((chapL 16).getD ((1 + (kk : Int)) - 1).toNat note0).epoch), iv (((chapL 16).getD ((1 + (kk : Int)) - 1).toNat note0).view), iv (((chapL 16).getD ((1 + (kk : Int)) - 1).toNat note0).seq)] ++ (digC (((chapL 16).getD ((1 + (kk : Int)) - 1).toNat note0).dig) ++ ([.slice pe2_0 (((chapL 16).getD ((1 + (kk : Int)) - 1).toNat note0).batch).length qe2_0, iv (((chapL 16).getD ((1 + (kk : Int)) - 1).toNat note0).ans.err), .slice pe2_1 (((chapL 16).getD ((1 + (kk : Int)) - 1).toNat note0).ans.data).length qe2_1, iv (((chapL 16).getD ((1 + (kk : Int)) - 1).toNat note0).ans.epoch), .slice pe2_2 (((chapL 16).getD ((1 + (kk : Int)) - 1).toNat note0).ans.nodes).length qe2_2, iv (((chapL 16).getD ((1 + (kk : Int)) - 1).toNat note0).stamp), iv (((chapL 16).getD ((1 + (kk : Int)) - 1).toNat note0).node), iv (((chapL 16).getD ((1 + (kk : Int)) - 1).toNat note0).change.node), iv (((chapL 16).getD ((1 + (kk : Int)) - 1).toNat note0).change.view), iv (((chapL 16).getD ((1 + (kk : Int)) - 1).toNat note0).change.low), .slice pe2_3 (((chapL 16).getD ((1 + (kk : Int)) - 1).toNat note0).change.marks).length qe2_3, .slice pe2_4 (((chapL 16).getD ((1 + (kk : Int)) - 1).toNat note0).change.p).length qe2_4, .slice pe2_5 (((chapL 16).getD ((1 + (kk : Int)) - 1).toNat note0).change.q).length qe2_5, .slice pe2_6 (((chapL 16).getD ((1 + (kk : Int)) - 1).toNat note0).changes).length qe2_6, .slice pe2_7 (((chapL 16).getD ((1 + (kk : Int)) - 1).toNat note0).picks).length qe2_7, iv (((chapL 16).getD ((1 + (kk : Int)) - 1).toNat note0).level), iv (((chapL 16).getD ((1 + (kk : Int)) - 1).toNat note0).place), .slice pe2_8 (((chapL 16).getD ((1 + (kk : Int)) - 1).toNat note0).digs).length qe2_8, .slice pe2_9 (((chapL 16).getD ((1 + (kk : Int)) - 1).toNat note0).data).length qe2_9, .slice pe2_10 (((chapL 16).getD ((1 + (kk : Int)) - 1).toNat note0).nodes).length qe2_10]))) :: []))) (fun K hK => ?_) ?_
 refine go ?_
 refine Cl_ cl23 rfl (bring_ok (by omega) (by omega) (by omega) (by omega)) ?_
 rintro _ wq9 ⟨rfl, hwq⟩
 rw [hwq]
 clear hwq
 obtain ⟨ff, eff⟩ : ∃ q : Nat, brg field 8 = (q : Int) := ⟨(brg field 8).toNat, by have := brg_lo field 8; omega⟩
 have hff : ff < 8 := by have := brg_hi field 8 (by decide); omega
 rw [eff]
 refine go ?_
 refine Eq_ rfl rfl (go ?_)
 refine Cd (fun hc1 => ?_) fun hc1 => ?_
 refine go ?_
 refine Fd_ 4 fld38_4 rfl rfl ?_
 refine wl_hstore1 (i := 0) rfl rfl hp rfl sz3 (Nat.lt_of_lt_of_le (Nat.lt_succ_self _) leB_) rfl ?_
 rintro w7 hp7 hC7
 replace q1:=q1.fz hC7
 replace hp:=hp7
 refine go ?_
 refine Eq_ rfl rfl (go ?_)
 refine Gs 37 (fun hg2 => ?_) fun hg2 => ?_
 refine gl ?_
 refine wk_drop [(8, pt gs8 0), (9, pt gs9 0), (11, .bool true)] ⟨rfl, rfl, rfl, trivial⟩ (hK _ _ ?_)
 refine ⟨F1, ({ ((chapL 16).getD ((1 + (kk : Int)) - 1).toNat note0) with view := (1 + (xx : Int)) } : Nte), true, pe2_0, qe2_0, pe2_1, qe2_1, pe2_2, qe2_2, pe2_3, qe2_3, pe2_4, qe2_4, pe2_5, qe2_5, pe2_6, qe2_6, pe2_7, qe2_7, pe2_8, qe2_8, pe2_9, qe2_9, pe2_10, qe2_10, rfl, ?_, ?_, ?_, ?_, ?_, ?_, ?_, ?_, ?_, ?_, ?_, ?_, ?_, ?_, ?_, ?_, ?_, ?_, ?_, ?_, ?_, ?_, ?_, ?_, ?_, ?_⟩
 exact (he2_0.fr q1)
 exact (he2_1.fr q1)
 exact (he2_2.fr q1)
 exact (he2_3.fr q1)
 exact (he2_4.fr q1)
 exact (he2_5.fr q1)
 exact (he2_6.fr q1)
 exact (he2_7.fr q1)
 exact (he2_8.fr q1)
 exact (he2_9.fr q1)
 exact (he2_10.fr q1)
 exact (he2_0.fr q1)
 exact (he2_1.fr q1)
 exact (he2_2.fr q1)
 exact (he2_3.fr q1)
 exact (he2_4.fr q1)
 exact (he2_5.fr q1)
 exact (he2_6.fr q1)
 exact (he2_7.fr q1)
 exact (he2_8.fr q1)
 exact (he2_9.fr q1)
 exact (he2_10.fr q1)
 (have h9 := hIe2; unfold NteI i64 at h9 ⊢; dsimp only; omega)
 exact .inl rfl
 exact hcN
 exact hp
 refine go ?_
 refine Eq_ rfl rfl (go ?_)
 refine Gs 41 (fun hg3 => ?_) fun hg3 => ?_
 refine gl ?_
 refine wk_drop [(8, pt gs8 0), (9, pt gs9 0), (11, .bool true)] ⟨rfl, rfl, rfl, trivial⟩ (hK _ _ ?_)
 refine ⟨F1, ({ ((chapL 16).getD ((1 + (kk : Int)) - 1).toNat note0) with view := (1 + (xx : Int)) } : Nte), true, pe2_0, qe2_0, pe2_1, qe2_1, pe2_2, qe2_2, pe2_3, qe2_3, pe2_4, qe2_4, pe2_5, qe2_5, pe2_6, qe2_6, pe2_7, qe2_7, pe2_8, qe2_8, pe2_9, qe2_9, pe2_10, qe2_10, rfl, ?_, ?_, ?_, ?_, ?_, ?_, ?_, ?_, ?_, ?_, ?_, ?_, ?_, ?_, ?_, ?_, ?_, ?_, ?_, ?_, ?_, ?_, ?_, ?_, ?_, ?_⟩
 exact (he2_0.fr q1)
 exact (he2_1.fr q1)
 exact (he2_2.fr q1)
 exact (he2_3.fr q1)
 exact (he2_4.fr q1)
 exact (he2_5.fr q1)
 exact (he2_6.fr q1)
 exact (he2_7.fr q1)
 exact (he2_8.fr q1)
 exact (he2_9.fr q1)
 exact (he2_10.fr q1)
 exact (he2_0.fr q1)
 exact (he2_1.fr q1)
 exact (he2_2.fr q1)
 exact (he2_3.fr q1)
 exact (he2_4.fr q1)
 exact (he2_5.fr q1)
 exact (he2_6.fr q1)
 exact (he2_7.fr q1)
 exact (he2_8.fr q1)
 exact (he2_9.fr q1)
 exact (he2_10.fr q1)
 (have h9 := hIe2; unfold NteI i64 at h9 ⊢; dsimp only; omega)
 exact .inl rfl
 exact hcN
 exact hp
 refine go ?_
 refine Eq_ rfl rfl (go ?_)
 refine Gs 45 (fun hg4 => ?_) fun hg4 => ?_
 refine gl ?_
 refine wk_drop [(8, pt gs8 0), (9, pt gs9 0), (11, .bool true)] ⟨rfl, rfl, rfl, trivial⟩ (hK _ _ ?_)
 refine ⟨F1, ({ ((chapL 16).getD ((1 + (kk : Int)) - 1).toNat note0) with view := (1 + (xx : Int)) } : Nte), true, pe2_0, qe2_0, pe2_1, qe2_1, pe2_2, qe2_2, pe2_3, qe2_3, pe2_4, qe2_4, pe2_5, qe2_5, pe2_6, qe2_6, pe2_7, qe2_7, pe2_8, qe2_8, pe2_9, qe2_9, pe2_10, qe2_10, rfl, ?_, ?_, ?_, ?_, ?_, ?_, ?_, ?_, ?_, ?_, ?_, ?_, ?_, ?_, ?_, ?_, ?_, ?_, ?_, ?_, ?_, ?_, ?_, ?_, ?_, ?_⟩
 exact (he2_0.fr q1)
 exact (he2_1.fr q1)
 exact (he2_2.fr q1)
 exact (he2_3.fr q1)
 exact (he2_4.fr q1)
 exact (he2_5.fr q1)
 exact (he2_6.fr q1)
 exact (he2_7.fr q1)
 exact (he2_8.fr q1)
 exact (he2_9.fr q1)
 exact (he2_10.fr q1)
 exact (he2_0.fr q1)
 exact (he2_1.fr q1)
 exact (he2_2.fr q1)
 exact (he2_3.fr q1)
 exact (he2_4.fr q1)
 exact (he2_5.fr q1)
 exact (he2_6.fr q1)
 exact (he2_7.fr q1)
 exact (he2_8.fr q1)
 exact (he2_9.fr q1)
 exact (he2_10.fr q1)
 (have h9 := hIe2; unfold NteI i64 at h9 ⊢; dsimp only; omega)
 exact .inl rfl
 exact hcN
 exact hp
 refine go ?_
 refine Eq_ rfl rfl (go ?_)
 refine Gs 49 (fun hg5 => ?_) fun hg5 => ?_
 refine gl ?_
 refine wk_drop [(8, pt gs8 0), (9, pt gs9 0), (11, .bool true)] ⟨rfl, rfl, rfl, trivial⟩ (hK _ _ ?_)
 refine ⟨F1, ({ ((chapL 16).getD ((1 + (kk : Int)) - 1).toNat note0) with view := (1 + (xx : Int)) } : Nte), true, pe2_0, qe2_0, pe2_1, qe2_1, pe2_2, qe2_2, pe2_3, qe2_3, pe2_4, qe2_4, pe2_5, qe2_5, pe2_6, qe2_6, pe2_7, qe2_7, pe2_8, qe2_8, pe2_9, qe2_9, pe2_10, qe2_10, rfl, ?_, ?_, ?_, ?_, ?_, ?_, ?_, ?_, ?_, ?_, ?_, ?_, ?_, ?_, ?_, ?_, ?_, ?_, ?_, ?_, ?_, ?_, ?_, ?_, ?_, ?_⟩
 exact (he2_0.fr q1)
 exact (he2_1.fr q1)
 exact (he2_2.fr q1)
 exact (he2_3.fr q1)
 exact (he2_4.fr q1)
 exact (he2_5.fr q1)
 exact (he2_6.fr q1)
 exact (he2_7.fr q1)
 exact (he2_8.fr q1)
 exact (he2_9.fr q1)
 exact (he2_10.fr q1)
 exact (he2_0.fr q1)
 exact (he2_1.fr q1)
 exact (he2_2.fr q1)
 exact (he2_3.fr q1)
 exact (he2_4.fr q1)
 exact (he2_5.fr q1)
 exact (he2_6.fr q1)
 exact (he2_7.fr q1)
 exact (he2_8.fr q1)
 exact (he2_9.fr q1)
 exact (he2_10.fr q1)
 (have h9 := hIe2; unfold NteI i64 at h9 ⊢; dsimp only; omega)
 exact .inl rfl
 exact hcN
 exact hp
 refine go ?_
 refine Eq_ rfl rfl (gl ?_)
 refine wk_drop [(8, pt gs8 0), (9, pt gs9 0), (11, .bool (decide ((1 + (kk : Int)) = 9)))] ⟨rfl, rfl, rfl, trivial⟩ (hK _ _ ?_)
 refine ⟨F1, ({ ((chapL 16).getD ((1 + (kk : Int)) - 1).toNat note0) with view := (1 + (xx : Int)) } : Nte), (decide ((1 + (kk : Int)) = 9)), pe2_0, qe2_0, pe2_1, qe2_1, pe2_2, qe2_2, pe2_3, qe2_3, pe2_4, qe2_4, pe2_5, qe2_5, pe2_6, qe2_6, pe2_7, qe2_7, pe2_8, qe2_8, pe2_9, qe2_9, pe2_10, qe2_10, rfl, ?_, ?_, ?_, ?_, ?_, ?_, ?_, ?_, ?_, ?_, ?_, ?_, ?_, ?_, ?_, ?_, ?_, ?_, ?_, ?_, ?_, ?_, ?_, ?_, ?_, ?_⟩
 exact (he2_0.fr q1)
 exact (he2_1.fr q1)
 exact (he2_2.fr q1)
 exact (he2_3.fr q1)
 exact (he2_4.fr q1)
 exact (he2_5.fr q1)
 exact (he2_6.fr q1)
 exact (he2_7.fr q1)
 exact (he2_8.fr q1)
 exact (he2_9.fr q1)
 exact (he2_10.fr q1)
 exact (he2_0.fr q1)
 exact (he2_1.fr q1)
 exact (he2_2.fr q1)
 exact (he2_3.fr q1)
 exact (he2_4.fr q1)
 exact (he2_5.fr q1)
 exact (he2_6.fr q1)
 exact (he2_7.fr q1)
 exact (he2_8.fr q1)
 exact (he2_9.fr q1)
 exact (he2_10.fr q1)
 (have h9 := hIe2; unfold NteI i64 at h9 ⊢; dsimp only; omega)
 by_cases hz : (1 + (kk : Int)) = 9
 exact .inl (decide_eq_true hz)
 exact .inr (fun e => fld_no (f := 0) (k := (1 + (kk : Int))) (x := (1 + (xx : Int))) (by decide) (by omega) (by omega) (by omega) (by omega) (by show ¬ ((1 + (kk : Int)) = 3 ∨ (1 + (kk : Int)) = 4 ∨ (1 + (kk : Int)) = 5 ∨ (1 + (kk : Int)) = 8 ∨ (1 + (kk : Int)) = 9); omega) (by rw [fld_k hkk] at e; exact e))
 exact hcN
 exact hp
 refine go ?_
 refine Eq_ rfl rfl (go ?_)
 refine Cd (fun hc6 => ?_) fun hc6 => ?_
 refine go ?_
 refine Fd_ 43 fld38_9 rfl rfl ?_
 refine wl_hstore1 (i := 0) rfl rfl hp rfl sz3 (Nat.lt_of_lt_of_le (Nat.lt_succ_self _) leB_) rfl ?_
 rintro w8 hp8 hC8
 replace q1:=q1.fz hC8
 replace hp:=hp8
 refine go ?_
 refine Eq_ rfl rfl (gl ?_)
 refine wk_drop [(8, pt gs8 0), (9, pt gs9 0), (11, .bool (decide ((1 + (kk : Int)) = 2)))] ⟨rfl, rfl, rfl, trivial⟩ (hK _ _ ?_)
 refine ⟨F1, ({ ((chapL 16).getD ((1 + (kk : Int)) - 1).toNat note0) with stamp := (1 + (xx : Int)) } : Nte), (decide ((1 + (kk : Int)) = 2)), pe2_0, qe2_0, pe2_1, qe2_1, pe2_2, qe2_2, pe2_3, qe2_3, pe2_4, qe2_4, pe2_5, qe2_5, pe2_6, qe2_6, pe2_7, qe2_7, pe2_8, qe2_8, pe2_9, qe2_9, pe2_10, qe2_10, rfl, ?_, ?_, ?_, ?_, ?_, ?_, ?_, ?_, ?_, ?_, ?_, ?_, ?_, ?_, ?_, ?_, ?_, ?_, ?_, ?_, ?_, ?_, ?_, ?_, ?_, ?_⟩
 exact (he2_0.fr q1)
 exact (he2_1.fr q1)
 exact (he2_2.fr q1)
 exact (he2_3.fr q1)
 exact (he2_4.fr q1)
 exact (he2_5.fr q1)
 exact (he2_6.fr q1)
 exact (he2_7.fr q1)
 exact (he2_8.fr q1)
 exact (he2_9.fr q1)
 exact (he2_10.fr q1)
 exact (he2_0.fr q1)
 exact (he2_1.fr q1)
 exact (he2_2.fr q1)
 exact (he2_3.fr q1)
 exact (he2_4.fr q1)
 exact (he2_5.fr q1)
 exact (he2_6.fr q1)
 exact (he2_7.fr q1)
 exact (he2_8.fr q1)
 exact (he2_9.fr q1)
 exact (he2_10.fr q1)
 (have h9 := hIe2; unfold NteI i64 at h9 ⊢; dsimp only; omega)
 by_cases hz : (1 + (kk : Int)) = 2
 exact .inl (decide_eq_true hz)
 exact .inr (fun e => fld_no (f := 1) (k := (1 + (kk : Int))) (x := (1 + (xx : Int))) (by decide) (by omega) (by omega) (by omega) (by omega) (by show ¬ ((1 + (kk : Int)) = 2); omega) (by rw [fld_k hkk] at e; exact e))
 exact hcN
 exact hp
 refine go ?_
 refine Eq_ rfl rfl (go ?_)
 refine Cd (fun hc7 => ?_) fun hc7 => ?_
 refine go ?_
 refine Fd_ 53 fld38_14 rfl rfl ?_
 refine wl_hstore1 (i := 0) rfl rfl hp rfl sz3 (Nat.lt_of_lt_of_le (Nat.lt_succ_self _) leB_) rfl ?_
 rintro w9 hp9 hC9
 replace q1:=q1.fz hC9
 replace hp:=hp9
 refine go ?_
 refine Eq_ rfl rfl (go ?_)
 refine Gs 65 (fun hg8 => ?_) fun hg8 => ?_
 refine gl ?_
 refine wk_drop [(8, pt gs8 0), (9, pt gs9 0), (11, .bool true)] ⟨rfl, rfl, rfl, trivial⟩ (hK _ _ ?_)
 refine ⟨F1, ({ ((chapL 16).getD ((1 + (kk : Int)) - 1).toNat note0) with level := (1 + (xx : Int)) } : Nte), true, pe2_0, qe2_0, pe2_1, qe2_1, pe2_2, qe2_2, pe2_3, qe2_3, pe2_4, qe2_4, pe2_5, qe2_5, pe2_6, qe2_6, pe2_7, qe2_7, pe2_8, qe2_8, pe2_9, qe2_9, pe2_10, qe2_10, rfl, ?_, ?_, ?_, ?_, ?_, ?_, ?_, ?_, ?_, ?_, ?_, ?_, ?_, ?_, ?_, ?_, ?_, ?_, ?_, ?_, ?_, ?_, ?_, ?_, ?_, ?_⟩
 exact (he2_0.fr q1)
 exact (he2_1.fr q1)
 exact (he2_2.fr q1)
 exact (he2_3.fr q1)
 exact (he2_4.fr q1)
 exact (he2_5.fr q1)
 exact (he2_6.fr q1)
 exact (he2_7.fr q1)
 exact (he2_8.fr q1)
 exact (he2_9.fr q1)
 exact (he2_10.fr q1)
 exact (he2_0.fr q1)
 exact (he2_1.fr q1)
 exact (he2_2.fr q1)
 exact (he2_3.fr q1)
 exact (he2_4.fr q1)
 exact (he2_5.fr q1)
 exact (he2_6.fr q1)
 exact (he2_7.fr q1)
 exact (he2_8.fr q1)
 exact (he2_9.fr q1)
 exact (he2_10.fr q1)
 (have h9 := hIe2; unfold NteI i64 at h9 ⊢; dsimp only; omega)
 exact .inl rfl
 exact hcN
 exact hp
 refine go ?_
 refine Eq_ rfl rfl (gl ?_)
 refine wk_drop [(8, pt gs8 0), (9, pt gs9 0), (11, .bool (decide ((1 + (kk : Int)) = 11)))] ⟨rfl, rfl, rfl, trivial⟩ (hK _ _ ?_)
 refine ⟨F1, ({ ((chapL 16).getD ((1 + (kk : Int)) - 1).toNat note0) with level := (1 + (xx : Int)) } : Nte), (decide ((1 + (kk : Int)) = 11)), pe2_0, qe2_0, pe2_1, qe2_1, pe2_2, qe2_2, pe2_3, qe2_3, pe2_4, qe2_4, pe2_5, qe2_5, pe2_6, qe2_6, pe2_7, qe2_7, pe2_8, qe2_8, pe2_9, qe2_9, pe2_10, qe2_10, rfl, ?_, ?_, ?_, ?_, ?_, ?_, ?_, ?_, ?_, ?_, ?_, ?_, ?_, ?_, ?_, ?_, ?_, ?_, ?_, ?_, ?_, ?_, ?_, ?_, ?_, ?_⟩
 exact (he2_0.fr q1)
 exact (he2_1.fr q1)
 exact (he2_2.fr q1)
 exact (he2_3.fr q1)
 exact (he2_4.fr q1)
 exact (he2_5.fr q1)
 exact (he2_6.fr q1)
 exact (he2_7.fr q1)
 exact (he2_8.fr q1)
 exact (he2_9.fr q1)
 exact (he2_10.fr q1)
 exact (he2_0.fr q1)
 exact (he2_1.fr q1)
 exact (he2_2.fr q1)
 exact (he2_3.fr q1)
 exact (he2_4.fr q1)
 exact (he2_5.fr q1)
 exact (he2_6.fr q1)
 exact (he2_7.fr q1)
 exact (he2_8.fr q1)
 exact (he2_9.fr q1)
 exact (he2_10.fr q1)
 (have h9 := hIe2; unfold NteI i64 at h9 ⊢; dsimp only; omega)
 by_cases hz : (1 + (kk : Int)) = 11
 exact .inl (decide_eq_true hz)
 exact .inr (fun e => fld_no (f := 2) (k := (1 + (kk : Int))) (x := (1 + (xx : Int))) (by decide) (by omega) (by omega) (by omega) (by omega) (by show ¬ ((1 + (kk : Int)) = 10 ∨ (1 + (kk : Int)) = 11); omega) (by rw [fld_k hkk] at e; exact e))
 exact hcN
 exact hp
 refine go ?_
 refine Eq_ rfl rfl (go ?_)
 refine Cd (fun hc9 => ?_) fun hc9 => ?_
 refine go ?_
 refine wl_conv (by decide) it3 it5 rfl (wrap_u8 _) ?_
 have hcl:=fun w => lDigest_ok (w := w) (b := (u8Of (1 + (xx : Int))))
 refine Cl_ cl27 rfl (hcl _) ?_
 clear hcl
 rintro _ w10 ⟨rfl, hE10⟩
 replace q1:=q1.ext hE10
 replace hp:=hp.ext hE10
 refine Fd_ 6 fld38_6 rfl rfl ?_
 refine wl_hstore (i := 0) rfl rfl hp rfl sz23 leB_ (List.all_eq_true.1 rfl) ?_
 rintro w11 hp11 hC11
 replace q1:=q1.fz hC11
 replace hp:=hp11
 refine go ?_
 refine Gq_ rfl rfl (go ?_)
 refine Gs 77 (fun hg10 => ?_) fun hg10 => ?_
 refine go ?_
 refine Lq_ rfl rfl (go ?_)
 refine Gs 81 (fun hg11 => ?_) fun hg11 => ?_
 refine gl ?_
 refine wk_drop [(8, pt gs8 0), (9, pt gs9 0), (11, .bool true)] ⟨rfl, rfl, rfl, trivial⟩ (hK _ _ ?_)
 refine ⟨F1, ({ ((chapL 16).getD ((1 + (kk : Int)) - 1).toNat note0) with dig := (dgt (u8Of (1 + (xx : Int)))) } : Nte), true, pe2_0, qe2_0, pe2_1, qe2_1, pe2_2, qe2_2, pe2_3, qe2_3, pe2_4, qe2_4, pe2_5, qe2_5, pe2_6, qe2_6, pe2_7, qe2_7, pe2_8, qe2_8, pe2_9, qe2_9, pe2_10, qe2_10, rfl, ?_, ?_, ?_, ?_, ?_, ?_, ?_, ?_, ?_, ?_, ?_, ?_, ?_, ?_, ?_, ?_, ?_, ?_, ?_, ?_, ?_, ?_, ?_, ?_, ?_, ?_⟩
 exact (he2_0.fr q1)
 exact (he2_1.fr q1)
 exact (he2_2.fr q1)
 exact (he2_3.fr q1)
 exact (he2_4.fr q1)
 exact (he2_5.fr q1)
 exact (he2_6.fr q1)
 exact (he2_7.fr q1)
 exact (he2_8.fr q1)
 exact (he2_9.fr q1)
 exact (he2_10.fr q1)
 exact (he2_0.fr q1)
 exact (he2_1.fr q1)
 exact (he2_2.fr q1)
 exact (he2_3.fr q1)
 exact (he2_4.fr q1)
 exact (he2_5.fr q1)
 exact (he2_6.fr q1)
 exact (he2_7.fr q1)
 exact (he2_8.fr q1)
 exact (he2_9.fr q1)
 exact (he2_10.fr q1)
 (have h9 := hIe2; unfold NteI i64 at h9 ⊢; dsimp only; omega)
 exact .inl rfl
 exact hcN
 exact hp
 refine go ?_
 refine Eq_ rfl rfl (go ?_)
 refine Gs 85 (fun hg12 => ?_) fun hg12 => ?_
 refine gl ?_
 refine wk_drop [(8, pt gs8 0), (9, pt gs9 0), (11, .bool true)] ⟨rfl, rfl, rfl, trivial⟩ (hK _ _ ?_)
 refine ⟨F1, ({ ((chapL 16).getD ((1 + (kk : Int)) - 1).toNat note0) with dig := (dgt (u8Of (1 + (xx : Int)))) } : Nte), true, pe2_0, qe2_0, pe2_1, qe2_1, pe2_2, qe2_2, pe2_3, qe2_3, pe2_4, qe2_4, pe2_5, qe2_5, pe2_6, qe2_6, pe2_7, qe2_7, pe2_8, qe2_8, pe2_9, qe2_9, pe2_10, qe2_10, rfl, ?_, ?_, ?_, ?_, ?_, ?_, ?_, ?_, ?_, ?_, ?_, ?_, ?_, ?_, ?_, ?_, ?_, ?_, ?_, ?_, ?_, ?_, ?_, ?_, ?_, ?_⟩
 exact (he2_0.fr q1)
 exact (he2_1.fr q1)
 exact (he2_2.fr q1)
 exact (he2_3.fr q1)
 exact (he2_4.fr q1)
 exact (he2_5.fr q1)
 exact (he2_6.fr q1)
 exact (he2_7.fr q1)
 exact (he2_8.fr q1)
 exact (he2_9.fr q1)
 exact (he2_10.fr q1)
 exact (he2_0.fr q1)
 exact (he2_1.fr q1)
 exact (he2_2.fr q1)
 exact (he2_3.fr q1)
 exact (he2_4.fr q1)
 exact (he2_5.fr q1)
 exact (he2_6.fr q1)
 exact (he2_7.fr q1)
 exact (he2_8.fr q1)
 exact (he2_9.fr q1)
 exact (he2_10.fr q1)
 (have h9 := hIe2; unfold NteI i64 at h9 ⊢; dsimp only; omega)
 exact .inl rfl
 exact hcN
 exact hp
 refine go ?_
 refine Eq_ rfl rfl (go ?_)
 refine Gs 89 (fun hg13 => ?_) fun hg13 => ?_
 refine gl ?_
 refine wk_drop [(8, pt gs8 0), (9, pt gs9 0), (11, .bool true)] ⟨rfl, rfl, rfl, trivial⟩ (hK _ _ ?_)
 refine ⟨F1, ({ ((chapL 16).getD ((1 + (kk : Int)) - 1).toNat note0) with dig := (dgt (u8Of (1 + (xx : Int)))) } : Nte), true, pe2_0, qe2_0, pe2_1, qe2_1, pe2_2, qe2_2, pe2_3, qe2_3, pe2_4, qe2_4, pe2_5, qe2_5, pe2_6, qe2_6, pe2_7, qe2_7, pe2_8, qe2_8, pe2_9, qe2_9, pe2_10, qe2_10, rfl, ?_, ?_, ?_, ?_, ?_, ?_, ?_, ?_, ?_, ?_, ?_, ?_, ?_, ?_, ?_, ?_, ?_, ?_, ?_, ?_, ?_, ?_, ?_, ?_, ?_, ?_⟩
 exact (he2_0.fr q1)
 exact (he2_1.fr q1)
 exact (he2_2.fr q1)
 exact (he2_3.fr q1)
 exact (he2_4.fr q1)
 exact (he2_5.fr q1)
 exact (he2_6.fr q1)
 exact (he2_7.fr q1)
 exact (he2_8.fr q1)
 exact (he2_9.fr q1)
 exact (he2_10.fr q1)
 exact (he2_0.fr q1)
 exact (he2_1.fr q1)
 exact (he2_2.fr q1)
 exact (he2_3.fr q1)
 exact (he2_4.fr q1)
 exact (he2_5.fr q1)
 exact (he2_6.fr q1)
 exact (he2_7.fr q1)
 exact (he2_8.fr q1)
 exact (he2_9.fr q1)
 exact (he2_10.fr q1)
 (have h9 := hIe2; unfold NteI i64 at h9 ⊢; dsimp only; omega)
 exact .inl rfl
 exact hcN
 exact hp
 refine go ?_
 refine Eq_ rfl rfl (go ?_)
 refine Gs 93 (fun hg14 => ?_) fun hg14 => ?_
 refine gl ?_
 refine wk_drop [(8, pt gs8 0), (9, pt gs9 0), (11, .bool true)] ⟨rfl, rfl, rfl, trivial⟩ (hK _ _ ?_)
 refine ⟨F1, ({ ((chapL 16).getD ((1 + (kk : Int)) - 1).toNat note0) with dig := (dgt (u8Of (1 + (xx : Int)))) } : Nte), true, pe2_0, qe2_0, pe2_1, qe2_1, pe2_2, qe2_2, pe2_3, qe2_3, pe2_4, qe2_4, pe2_5, qe2_5, pe2_6, qe2_6, pe2_7, qe2_7, pe2_8, qe2_8, pe2_9, qe2_9, pe2_10, qe2_10, rfl, ?_, ?_, ?_, ?_, ?_, ?_, ?_, ?_, ?_, ?_, ?_, ?_, ?_, ?_, ?_, ?_, ?_, ?_, ?_, ?_, ?_, ?_, ?_, ?_, ?_, ?_⟩
 exact (he2_0.fr q1)
 exact (he2_1.fr q1)
 exact (he2_2.fr q1)
 exact (he2_3.fr q1)
 exact (he2_4.fr q1)
 exact (he2_5.fr q1)
 exact (he2_6.fr q1)
 exact (he2_7.fr q1)
 exact (he2_8.fr q1)
 exact (he2_9.fr q1)
 exact (he2_10.fr q1)
 exact (he2_0.fr q1)
 exact (he2_1.fr q1)
 exact (he2_2.fr q1)
 exact (he2_3.fr q1)
 exact (he2_4.fr q1)
 exact (he2_5.fr q1)
 exact (he2_6.fr q1)
 exact (he2_7.fr q1)
 exact (he2_8.fr q1)
 exact (he2_9.fr q1)
 exact (he2_10.fr q1)
 (have h9 := hIe2; unfold NteI i64 at h9 ⊢; dsimp only; omega)
 exact .inl rfl
 exact hcN
 exact hp
 refine go ?_
 refine Eq_ rfl rfl (gl ?_)
 refine wk_drop [(8, pt gs8 0), (9, pt gs9 0), (11, .bool (decide ((1 + (kk : Int)) = 13)))] ⟨rfl, rfl, rfl, trivial⟩ (hK _ _ ?_)
 refine ⟨F1, ({ ((chapL 16).getD ((1 + (kk : Int)) - 1).toNat note0) with dig := (dgt (u8Of (1 + (xx : Int)))) } : Nte), (decide ((1 + (kk : Int)) = 13)), pe2_0, qe2_0, pe2_1, qe2_1, pe2_2, qe2_2, pe2_3, qe2_3, pe2_4, qe2_4, pe2_5, qe2_5, pe2_6, qe2_6, pe2_7, qe2_7, pe2_8, qe2_8, pe2_9, qe2_9, pe2_10, qe2_10, rfl, ?_, ?_, ?_, ?_, ?_, ?_, ?_, ?_, ?_, ?_, ?_, ?_, ?_, ?_, ?_, ?_, ?_, ?_, ?_, ?_, ?_, ?_, ?_, ?_, ?_, ?_⟩
 exact (he2_0.fr q1)
 exact (he2_1.fr q1)
 exact (he2_2.fr q1)
 exact (he2_3.fr q1)
 exact (he2_4.fr q1)
 exact (he2_5.fr q1)
 exact (he2_6.fr q1)
 exact (he2_7.fr q1)
 exact (he2_8.fr q1)
 exact (he2_9.fr q1)
 exact (he2_10.fr q1)
 exact (he2_0.fr q1)
 exact (he2_1.fr q1)
 exact (he2_2.fr q1)
 exact (he2_3.fr q1)
 exact (he2_4.fr q1)
 exact (he2_5.fr q1)
 exact (he2_6.fr q1)
 exact (he2_7.fr q1)
 exact (he2_8.fr q1)
 exact (he2_9.fr q1)
 exact (he2_10.fr q1)
 (have h9 := hIe2; unfold NteI i64 at h9 ⊢; dsimp only; omega)
 by_cases hz : (1 + (kk : Int)) = 13
 exact .inl (decide_eq_true hz)
 exact .inr (fun e => fld_no (f := 3) (k := (1 + (kk : Int))) (x := (1 + (xx : Int))) (by decide) (by omega) (by omega) (by omega) (by omega) (by show ¬ ((4 ≤ (1 + (kk : Int)) ∧ (1 + (kk : Int)) ≤ 6) ∨ (1 + (kk : Int)) = 8 ∨ (1 + (kk : Int)) = 10 ∨ (1 + (kk : Int)) = 11 ∨ (1 + (kk : Int)) = 13); omega) (by rw [fld_k hkk] at e; exact e))
 exact hcN
 exact hp
 refine go ?_
 refine Eq_ rfl rfl (go ?_)
 refine Gs 85 (fun hg15 => ?_) fun hg15 => ?_
 refine gl ?_
 refine wk_drop [(8, pt gs8 0), (9, pt gs9 0), (11, .bool true)] ⟨rfl, rfl, rfl, trivial⟩ (hK _ _ ?_)
 refine ⟨F1, ({ ((chapL 16).getD ((1 + (kk : Int)) - 1).toNat note0) with dig := (dgt (u8Of (1 + (xx : Int)))) } : Nte), true, pe2_0, qe2_0, pe2_1, qe2_1, pe2_2, qe2_2, pe2_3, qe2_3, pe2_4, qe2_4, pe2_5, qe2_5, pe2_6, qe2_6, pe2_7, qe2_7, pe2_8, qe2_8, pe2_9, qe2_9, pe2_10, qe2_10, rfl, ?_, ?_, ?_, ?_, ?_, ?_, ?_, ?_, ?_, ?_, ?_, ?_, ?_, ?_, ?_, ?_, ?_, ?_, ?_, ?_, ?_, ?_, ?_, ?_, ?_, ?_⟩
 exact (he2_0.fr q1)
 exact (he2_1.fr q1)
 exact (he2_2.fr q1)
 exact (he2_3.fr q1)
 exact (he2_4.fr q1)
 exact (he2_5.fr q1)
 exact (he2_6.fr q1)
 exact (he2_7.fr q1)
 exact (he2_8.fr q1)
 exact (he2_9.fr q1)
 exact (he2_10.fr q1)
 exact (he2_0.fr q1)
 exact (he2_1.fr q1)
 exact (he2_2.fr q1)
 exact (he2_3.fr q1)
 exact (he2_4.fr q1)
 exact (he2_5.fr q1)
 exact (he2_6.fr q1)
 exact (he2_7.fr q1)
 exact (he2_8.fr q1)
 exact (he2_9.fr q1)
 exact (he2_10.fr q1)
 (have h9 := hIe2; unfold NteI i64 at h9 ⊢; dsimp only; omega)
 exact .inl rfl
 exact hcN
 exact hp
 refine go ?_
 refine Eq_ rfl rfl (go ?_)
 refine Gs 89 (fun hg16 => ?_) fun hg16 => ?_
 refine gl ?_
 refine wk_drop [(8, pt gs8 0), (9, pt gs9 0), (11, .bool true)] ⟨rfl, rfl, rfl, trivial⟩ (hK _ _ ?_)
 refine ⟨F1, ({ ((chapL 16).getD ((1 + (kk : Int)) - 1).toNat note0) with dig := (dgt (u8Of (1 + (xx : Int)))) } : Nte), true, pe2_0, qe2_0, pe2_1, qe2_1, pe2_2, qe2_2, pe2_3, qe2_3, pe2_4, qe2_4, pe2_5, qe2_5, pe2_6, qe2_6, pe2_7, qe2_7, pe2_8, qe2_8, pe2_9, qe2_9, pe2_10, qe2_10, rfl, ?_, ?_, ?_, ?_, ?_, ?_, ?_, ?_, ?_, ?_, ?_, ?_, ?_, ?_, ?_, ?_, ?_, ?_, ?_, ?_, ?_, ?_, ?_, ?_, ?_, ?_⟩
 exact (he2_0.fr q1)
 exact (he2_1.fr q1)
 exact (he2_2.fr q1)
 exact (he2_3.fr q1)
 exact (he2_4.fr q1)
 exact (he2_5.fr q1)
 exact (he2_6.fr q1)
 exact (he2_7.fr q1)
 exact (he2_8.fr q1)
 exact (he2_9.fr q1)
 exact (he2_10.fr q1)
 exact (he2_0.fr q1)
 exact (he2_1.fr q1)
 exact (he2_2.fr q1)
 exact (he2_3.fr q1)
 exact (he2_4.fr q1)
 exact (he2_5.fr q1)
 exact (he2_6.fr q1)
 exact (he2_7.fr q1)
 exact (he2_8.fr q1)
 exact (he2_9.fr q1)
 exact (he2_10.fr q1)
 (have h9 := hIe2; unfold NteI i64 at h9 ⊢; dsimp only; omega)
 exact .inl rfl
 exact hcN
 exact hp
 refine go ?_
 refine Eq_ rfl rfl (go ?_)
 refine Gs 93 (fun hg17 => ?_) fun hg17 => ?_
 refine gl ?_
 refine wk_drop [(8, pt gs8 0), (9, pt gs9 0), (11, .bool true)] ⟨rfl, rfl, rfl, trivial⟩ (hK _ _ ?_)
 refine ⟨F1, ({ ((chapL 16).getD ((1 + (kk : Int)) - 1).toNat note0) with dig := (dgt (u8Of (1 + (xx : Int)))) } : Nte), true, pe2_0, qe2_0, pe2_1, qe2_1, pe2_2, qe2_2, pe2_3, qe2_3, pe2_4, qe2_4, pe2_5, qe2_5, pe2_6, qe2_6, pe2_7, qe2_7, pe2_8, qe2_8, pe2_9, qe2_9, pe2_10, qe2_10, rfl, ?_, ?_, ?_, ?_, ?_, ?_, ?_, ?_, ?_, ?_, ?_, ?_, ?_, ?_, ?_, ?_, ?_, ?_, ?_, ?_, ?_, ?_, ?_, ?_, ?_, ?_⟩
 exact (he2_0.fr q1)
 exact (he2_1.fr q1)
 exact (he2_2.fr q1)
 exact (he2_3.fr q1)
 exact (he2_4.fr q1)
 exact (he2_5.fr q1)
 exact (he2_6.fr q1)
 exact (he2_7.fr q1)
 exact (he2_8.fr q1)
 exact (he2_9.fr q1)
 exact (he2_10.fr q1)
 exact (he2_0.fr q1)
 exact (he2_1.fr q1)
 exact (he2_2.fr q1)
 exact (he2_3.fr q1)
 exact (he2_4.fr q1)
 exact (he2_5.fr q1)
 exact (he2_6.fr q1)
 exact (he2_7.fr q1)
 exact (he2_8.fr q1)
 exact (he2_9.fr q1)
 exact (he2_10.fr q1)
 (have h9 := hIe2; unfold NteI i64 at h9 ⊢; dsimp only; omega)
 exact .inl rfl
 exact hcN
 exact hp
 refine go ?_
 refine Eq_ rfl rfl (gl ?_)
 refine wk_drop [(8, pt gs8 0), (9, pt gs9 0), (11, .bool (decide ((1 + (kk : Int)) = 13)))] ⟨rfl, rfl, rfl, trivial⟩ (hK _ _ ?_)
 refine ⟨F1, ({ ((chapL 16).getD ((1 + (kk : Int)) - 1).toNat note0) with dig := (dgt (u8Of (1 + (xx : Int)))) } : Nte), (decide ((1 + (kk : Int)) = 13)), pe2_0, qe2_0, pe2_1, qe2_1, pe2_2, qe2_2, pe2_3, qe2_3, pe2_4, qe2_4, pe2_5, qe2_5, pe2_6, qe2_6, pe2_7, qe2_7, pe2_8, qe2_8, pe2_9, qe2_9, pe2_10, qe2_10, rfl, ?_, ?_, ?_, ?_, ?_, ?_, ?_, ?_, ?_, ?_, ?_, ?_, ?_, ?_, ?_, ?_, ?_, ?_, ?_, ?_, ?_, ?_, ?_, ?_, ?_, ?_⟩
 exact (he2_0.fr q1)
 exact (he2_1.fr q1)
 exact (he2_2.fr q1)
 exact (he2_3.fr q1)
 exact (he2_4.fr q1)
 exact (he2_5.fr q1)
 exact (he2_6.fr q1)
 exact (he2_7.fr q1)
 exact (he2_8.fr q1)
 exact (he2_9.fr q1)
 exact (he2_10.fr q1)
 exact (he2_0.fr q1)
 exact (he2_1.fr q1)
 exact (he2_2.fr q1)
 exact (he2_3.fr q1)
 exact (he2_4.fr q1)
 exact (he2_5.fr q1)
 exact (he2_6.fr q1)
 exact (he2_7.fr q1)
 exact (he2_8.fr q1)
 exact (he2_9.fr q1)
 exact (he2_10.fr q1)
 (have h9 := hIe2; unfold NteI i64 at h9 ⊢; dsimp only; omega)
 by_cases hz : (1 + (kk : Int)) = 13
 exact .inl (decide_eq_true hz)
 exact .inr (fun e => fld_no (f := 3) (k := (1 + (kk : Int))) (x := (1 + (xx : Int))) (by decide) (by omega) (by omega) (by omega) (by omega) (by show ¬ ((4 ≤ (1 + (kk : Int)) ∧ (1 + (kk : Int)) ≤ 6) ∨ (1 + (kk : Int)) = 8 ∨ (1 + (kk : Int)) = 10 ∨ (1 + (kk : Int)) = 11 ∨ (1 + (kk : Int)) = 13); omega) (by rw [fld_k hkk] at e; exact e))
 exact hcN
 exact hp
 refine go ?_
 refine Eq_ rfl rfl (go ?_)
 refine Cd (fun hc18 => ?_) fun hc18 => ?_
 refine go ?_
 refine wl_bsliceB (xs := [.const (.int .u8 1)]) (bs := [1]) (by decide) sl26 rfl rfl rfl leB_ _ (Nat.le_refl _) ?_
 rintro gb12 wb12 hgb12 hs12 hE12
 replace hs12:=hs12.bs
 have hsz13:=hp.chg.size
 obtain ⟨Fz13, hp13, hsub13, hnew13, hup13⟩ := hp.frz hE12
 replace hp:=hp13
 replace q1:=(q1.ext hE12).wid hsub13
 replace hs12:=hs12.frz hnew13
 refine Fd_ 56 fld38_17 rfl rfl ?_
 refine wl_hstore1 (i := 0) rfl rfl hp rfl sz26 (Nat.lt_of_lt_of_le (Nat.lt_succ_self _) leB_) rfl ?_
 rintro w14 hp14 hC14
 replace q1:=q1.fz hC14
 have q2:=hs12.tk.fz hC14
 replace hp:=hp14
 refine go ?_
 refine Eq_ rfl rfl (gl ?_)
 refine wk_drop [(8, pt gs8 0), (9, pt gs9 0), (11, .bool (decide ((1 + (kk : Int)) = 11)))] ⟨rfl, rfl, rfl, trivial⟩ (hK _ _ ?_)
 refine ⟨Fz13, ({ ((chapL 16).getD ((1 + (kk : Int)) - 1).toNat note0) with data := [1] } : Nte), (decide ((1 + (kk : Int)) = 11)), pe2_0, qe2_0, pe2_1, qe2_1, pe2_2, qe2_2, pe2_3, qe2_3, pe2_4, qe2_4, pe2_5, qe2_5, pe2_6, qe2_6, pe2_7, qe2_7, pe2_8, qe2_8, (some ⟨gb12, 0, none⟩), 1, pe2_10, qe2_10, rfl, ?_, ?_, ?_, ?_, ?_, ?_, ?_, ?_, ?_, ?_, ?_, ?_, ?_, ?_, ?_, ?_, ?_, ?_, ?_, ?_, ?_, ?_, ?_, ?_, ?_, ?_⟩
 exact (he2_0.fr q1)
 exact (he2_1.fr q1)
 exact (he2_2.fr q1)
 exact (he2_3.fr q1)
 exact (he2_4.fr q1)
 exact (he2_5.fr q1)
 exact (he2_6.fr q1)
 exact (he2_7.fr q1)
 exact (he2_8.fr q1)
 exact (he2_9.fr q1)
 exact (he2_10.fr q1)
 exact (he2_0.fr q1)
 exact (he2_1.fr q1)
 exact (he2_2.fr q1)
 exact (he2_3.fr q1)
 exact (he2_4.fr q1)
 exact (he2_5.fr q1)
 exact (he2_6.fr q1)
 exact (he2_7.fr q1)
 exact (he2_8.fr q1)
 exact (hs12.fr q2)
 exact (he2_10.fr q1)
 (have h9 := hIe2; unfold NteI i64 at h9 ⊢; dsimp only; omega)
 by_cases hz : (1 + (kk : Int)) = 11
 exact .inl (decide_eq_true hz)
 exact .inr (fun e => fld_no (f := 4) (k := (1 + (kk : Int))) (x := (1 + (xx : Int))) (by decide) (by omega) (by omega) (by omega) (by omega) (by show ¬ ((1 + (kk : Int)) = 11); omega) (by rw [fld_k hkk] at e; exact e))
 exact hcN
 exact hp
 refine go ?_
 refine Eq_ rfl rfl (go ?_)
 refine Cd (fun hc19 => ?_) fun hc19 => ?_
 refine go ?_
 refine wl_bsliceN (xs := [.tmp 105]) (l := [(1 + (xx : Int))]) (by decide) sl27 rfl rfl rfl leB_ ?_
 rintro gb15 wb15 _ hs15 hE15
 have hsz16:=hp.chg.size
 obtain ⟨Fz16, hp16, hsub16, hnew16, hup16⟩ := hp.frz hE15
 replace hp:=hp16
 replace q1:=(q1.ext hE15).wid hsub16
 replace hs15:=hs15.frz hnew16
 refine Fd_ 57 fld38_18 rfl rfl ?_
 refine wl_hstore1 (i := 0) rfl rfl hp rfl sz27 (Nat.lt_of_lt_of_le (Nat.lt_succ_self _) leB_) rfl ?_
 rintro w17 hp17 hC17
 replace q1:=q1.fz hC17
 have q3:=hs15.tk.fz hC17
 replace hp:=hp17
 refine go ?_
 refine Eq_ rfl rfl (gl ?_)
 refine wk_drop [(8, pt gs8 0), (9, pt gs9 0), (11, .bool (decide ((1 + (kk : Int)) = 12)))] ⟨rfl, rfl, rfl, trivial⟩ (hK _ _ ?_)
 refine ⟨Fz16, ({ ((chapL 16).getD ((1 + (kk : Int)) - 1).toNat note0) with nodes := [(1 + (xx : Int))] } : Nte), (decide ((1 + (kk : Int)) = 12)), pe2_0, qe2_0, pe2_1, qe2_1, pe2_2, qe2_2, pe2_3, qe2_3, pe2_4, qe2_4, pe2_5, qe2_5, pe2_6, qe2_6, pe2_7, qe2_7, pe2_8, qe2_8, pe2_9, qe2_9, (some ⟨gb15, 0, none⟩), 1, rfl, ?_, ?_, ?_, ?_, ?_, ?_, ?_, ?_, ?_, ?_, ?_, ?_, ?_, ?_, ?_, ?_, ?_, ?_, ?_, ?_, ?_, ?_, ?_, ?_, ?_, ?_⟩
 exact (he2_0.fr q1)
 exact (he2_1.fr q1)
 exact (he2_2.fr q1)
 exact (he2_3.fr q1)
 exact (he2_4.fr q1)
 exact (he2_5.fr q1)
 exact (he2_6.fr q1)
 exact (he2_7.fr q1)
 exact (he2_8.fr q1)
 exact (he2_9.fr q1)
 exact (he2_10.fr q1)
 exact (he2_0.fr q1)
 exact (he2_1.fr q1)
 exact (he2_2.fr q1)
 exact (he2_3.fr q1)
 exact (he2_4.fr q1)
 exact (he2_5.fr q1)
 exact (he2_6.fr q1)
 exact (he2_7.fr q1)
 exact (he2_8.fr q1)
 exact (he2_9.fr q1)
 exact (hs15.fr q3)
 (have h9 := hIe2; unfold NteI i64 at h9 ⊢; dsimp only; omega)
 by_cases hz : (1 + (kk : Int)) = 12
 exact .inl (decide_eq_true hz)
 exact .inr (fun e => fld_no (f := 5) (k := (1 + (kk : Int))) (x := (1 + (xx : Int))) (by decide) (by omega) (by omega) (by omega) (by omega) (by show ¬ ((1 + (kk : Int)) = 12); omega) (by rw [fld_k hkk] at e; exact e))
 exact hcN
 exact hp
 refine go ?_
 refine Eq_ rfl rfl (go ?_)
 refine Cd (fun hc20 => ?_) fun hc20 => ?_
 refine go ?_
 have hcl:=lWishes_ok hp
 refine Cl_ cl28 rfl hcl ?_
 clear hcl
 rintro _ w18 ⟨F18, A18, c18, rfl, hp18, hF18, hs18⟩
 replace q1:=q1.fr hF18
 replace hp:=hp18
 refine Fd_ 38 fld38_7 rfl rfl ?_
 refine wl_hstore1 (i := 0) rfl rfl hp rfl sz24 (Nat.lt_of_lt_of_le (Nat.lt_succ_self _) leB_) rfl ?_
 rintro w19 hp19 hC19
 replace q1:=q1.fz hC19
 have q4:=hs18.tk.fz hC19
 replace hp:=hp19
 refine go ?_
 refine Eq_ rfl rfl (go ?_)
 refine Gs 116 (fun hg21 => ?_) fun hg21 => ?_
 refine gl ?_
 refine wk_drop [(8, pt gs8 0), (9, pt gs9 0), (11, .bool true)] ⟨rfl, rfl, rfl, trivial⟩ (hK _ _ ?_)
 refine ⟨F18, ({ ((chapL 16).getD ((1 + (kk : Int)) - 1).toNat note0) with batch := [wshA, wshB] } : Nte), true, A18, c18, pe2_1, qe2_1, pe2_2, qe2_2, pe2_3, qe2_3, pe2_4, qe2_4, pe2_5, qe2_5, pe2_6, qe2_6, pe2_7, qe2_7, pe2_8, qe2_8, pe2_9, qe2_9, pe2_10, qe2_10, rfl, ?_, ?_, ?_, ?_, ?_, ?_, ?_, ?_, ?_, ?_, ?_, ?_, ?_, ?_, ?_, ?_, ?_, ?_, ?_, ?_, ?_, ?_, ?_, ?_, ?_, ?_⟩
 exact (he2_0.fr q1)
 exact (he2_1.fr q1)
 exact (he2_2.fr q1)
 exact (he2_3.fr q1)
 exact (he2_4.fr q1)
 exact (he2_5.fr q1)
 exact (he2_6.fr q1)
 exact (he2_7.fr q1)
 exact (he2_8.fr q1)
 exact (he2_9.fr q1)
 exact (he2_10.fr q1)
 exact (hs18.fr q4)
 exact (he2_1.fr q1)
 exact (he2_2.fr q1)
 exact (he2_3.fr q1)
 exact (he2_4.fr q1)
 exact (he2_5.fr q1)
 exact (he2_6.fr q1)
 exact (he2_7.fr q1)
 exact (he2_8.fr q1)
 exact (he2_9.fr q1)
 exact (he2_10.fr q1)
 (have h9 := hIe2; unfold NteI i64 at h9 ⊢; dsimp only; omega)
 exact .inl rfl
 exact hcN
 exact hp
 refine go ?_
 refine Eq_ rfl rfl (go ?_)
 refine Gs 120 (fun hg22 => ?_) fun hg22 => ?_
 refine gl ?_
 refine wk_drop [(8, pt gs8 0), (9, pt gs9 0), (11, .bool true)] ⟨rfl, rfl, rfl, trivial⟩ (hK _ _ ?_)
 refine ⟨F18, ({ ((chapL 16).getD ((1 + (kk : Int)) - 1).toNat note0) with batch := [wshA, wshB] } : Nte), true, A18, c18, pe2_1, qe2_1, pe2_2, qe2_2, pe2_3, qe2_3, pe2_4, qe2_4, pe2_5, qe2_5, pe2_6, qe2_6, pe2_7, qe2_7, pe2_8, qe2_8, pe2_9, qe2_9, pe2_10, qe2_10, rfl, ?_, ?_, ?_, ?_, ?_, ?_, ?_, ?_, ?_, ?_, ?_, ?_, ?_, ?_, ?_, ?_, ?_, ?_, ?_, ?_, ?_, ?_, ?_, ?_, ?_, ?_⟩
 exact (he2_0.fr q1)
 exact (he2_1.fr q1)
 exact (he2_2.fr q1)
 exact (he2_3.fr q1)
 exact (he2_4.fr q1)
 exact (he2_5.fr q1)
 exact (he2_6.fr q1)
 exact (he2_7.fr q1)
 exact (he2_8.fr q1)
 exact (he2_9.fr q1)
 exact (he2_10.fr q1)
 exact (hs18.fr q4)
 exact (he2_1.fr q1)
 exact (he2_2.fr q1)
 exact (he2_3.fr q1)
 exact (he2_4.fr q1)
 exact (he2_5.fr q1)
 exact (he2_6.fr q1)
 exact (he2_7.fr q1)
 exact (he2_8.fr q1)
 exact (he2_9.fr q1)
 exact (he2_10.fr q1)
 (have h9 := hIe2; unfold NteI i64 at h9 ⊢; dsimp only; omega)
 exact .inl rfl
 exact hcN
 exact hp
 refine go ?_
 refine Eq_ rfl rfl (go ?_)
 refine Gs 124 (fun hg23 => ?_) fun hg23 => ?_
 refine gl ?_
 refine wk_drop [(8, pt gs8 0), (9, pt gs9 0), (11, .bool true)] ⟨rfl, rfl, rfl, trivial⟩ (hK _ _ ?_)
 refine ⟨F18, ({ ((chapL 16).getD ((1 + (kk : Int)) - 1).toNat note0) with batch := [wshA, wshB] } : Nte), true, A18, c18, pe2_1, qe2_1, pe2_2, qe2_2, pe2_3, qe2_3, pe2_4, qe2_4, pe2_5, qe2_5, pe2_6, qe2_6, pe2_7, qe2_7, pe2_8, qe2_8, pe2_9, qe2_9, pe2_10, qe2_10, rfl, ?_, ?_, ?_, ?_, ?_, ?_, ?_, ?_, ?_, ?_, ?_, ?_, ?_, ?_, ?_, ?_, ?_, ?_, ?_, ?_, ?_, ?_, ?_, ?_, ?_, ?_⟩
 exact (he2_0.fr q1)
 exact (he2_1.fr q1)
 exact (he2_2.fr q1)
 exact (he2_3.fr q1)
 exact (he2_4.fr q1)
 exact (he2_5.fr q1)
 exact (he2_6.fr q1)
 exact (he2_7.fr q1)
 exact (he2_8.fr q1)
 exact (he2_9.fr q1)
 exact (he2_10.fr q1)
 exact (hs18.fr q4)
 exact (he2_1.fr q1)
 exact (he2_2.fr q1)
 exact (he2_3.fr q1)
 exact (he2_4.fr q1)
 exact (he2_5.fr q1)
 exact (he2_6.fr q1)
 exact (he2_7.fr q1)
 exact (he2_8.fr q1)
 exact (he2_9.fr q1)
 exact (he2_10.fr q1)
 (have h9 := hIe2; unfold NteI i64 at h9 ⊢; dsimp only; omega)
 exact .inl rfl
 exact hcN
 exact hp
 refine go ?_
 refine Eq_ rfl rfl (go ?_)
 refine Gs 128 (fun hg24 => ?_) fun hg24 => ?_
 refine gl ?_
 refine wk_drop [(8, pt gs8 0), (9, pt gs9 0), (11, .bool true)] ⟨rfl, rfl, rfl, trivial⟩ (hK _ _ ?_)
 refine ⟨F18, ({ ((chapL 16).getD ((1 + (kk : Int)) - 1).toNat note0) with batch := [wshA, wshB] } : Nte), true, A18, c18, pe2_1, qe2_1, pe2_2, qe2_2, pe2_3, qe2_3, pe2_4, qe2_4, pe2_5, qe2_5, pe2_6, qe2_6, pe2_7, qe2_7, pe2_8, qe2_8, pe2_9, qe2_9, pe2_10, qe2_10, rfl, ?_, ?_, ?_, ?_, ?_, ?_, ?_, ?_, ?_, ?_, ?_, ?_, ?_, ?_, ?_, ?_, ?_, ?_, ?_, ?_, ?_, ?_, ?_, ?_, ?_, ?_⟩
 exact (he2_0.fr q1)
 exact (he2_1.fr q1)
 exact (he2_2.fr q1)
 exact (he2_3.fr q1)
 exact (he2_4.fr q1)
 exact (he2_5.fr q1)
 exact (he2_6.fr q1)
 exact (he2_7.fr q1)
 exact (he2_8.fr q1)
 exact (he2_9.fr q1)
 exact (he2_10.fr q1)
 exact (hs18.fr q4)
 exact (he2_1.fr q1)
 exact (he2_2.fr q1)
 exact (he2_3.fr q1)
 exact (he2_4.fr q1)
 exact (he2_5.fr q1)
 exact (he2_6.fr q1)
 exact (he2_7.fr q1)
 exact (he2_8.fr q1)
 exact (he2_9.fr q1)
 exact (he2_10.fr q1)
 (have h9 := hIe2; unfold NteI i64 at h9 ⊢; dsimp only; omega)
 exact .inl rfl
 exact hcN
 exact hp
 refine go ?_
 refine Eq_ rfl rfl (gl ?_)
 refine wk_drop [(8, pt gs8 0), (9, pt gs9 0), (11, .bool (decide ((1 + (kk : Int)) = 16)))] ⟨rfl, rfl, rfl, trivial⟩ (hK _ _ ?_)
 refine ⟨F18, ({ ((chapL 16).getD ((1 + (kk : Int)) - 1).toNat note0) with batch := [wshA, wshB] } : Nte), (decide ((1 + (kk : Int)) = 16)), A18, c18, pe2_1, qe2_1, pe2_2, qe2_2, pe2_3, qe2_3, pe2_4, qe2_4, pe2_5, qe2_5, pe2_6, qe2_6, pe2_7, qe2_7, pe2_8, qe2_8, pe2_9, qe2_9, pe2_10, qe2_10, rfl, ?_, ?_, ?_, ?_, ?_, ?_, ?_, ?_, ?_, ?_, ?_, ?_, ?_, ?_, ?_, ?_, ?_, ?_, ?_, ?_, ?_, ?_, ?_, ?_, ?_, ?_⟩
 exact (he2_0.fr q1)
 exact (he2_1.fr q1)
 exact (he2_2.fr q1)
 exact (he2_3.fr q1)
 exact (he2_4.fr q1)
 exact (he2_5.fr q1)
 exact (he2_6.fr q1)
 exact (he2_7.fr q1)
 exact (he2_8.fr q1)
 exact (he2_9.fr q1)
 exact (he2_10.fr q1)
 exact (hs18.fr q4)
 exact (he2_1.fr q1)
 exact (he2_2.fr q1)
 exact (he2_3.fr q1)
 exact (he2_4.fr q1)
 exact (he2_5.fr q1)
 exact (he2_6.fr q1)
 exact (he2_7.fr q1)
 exact (he2_8.fr q1)
 exact (he2_9.fr q1)
 exact (he2_10.fr q1)
 (have h9 := hIe2; unfold NteI i64 at h9 ⊢; dsimp only; omega)
 by_cases hz : (1 + (kk : Int)) = 16
 exact .inl (decide_eq_true hz)
 exact .inr (fun e => fld_no (f := 6) (k := (1 + (kk : Int))) (x := (1 + (xx : Int))) (by decide) (by omega) (by omega) (by omega) (by omega) (by show ¬ ((1 + (kk : Int)) = 1 ∨ (1 + (kk : Int)) = 3 ∨ (1 + (kk : Int)) = 14 ∨ (1 + (kk : Int)) = 15 ∨ (1 + (kk : Int)) = 16); omega) (by rw [fld_k hkk] at e; exact e))
 exact hcN
 exact hp
 refine go ?_
 refine Fd_ 39 fld38_8 rfl rfl ?_
 refine Fd_ 41 fld29_2 rfl rfl ?_
 refine wl_hstore1 (i := 0) rfl rfl hp rfl sz3 (Nat.lt_of_lt_of_le (Nat.lt_succ_self _) leB_) rfl ?_
 rintro w20 hp20 hC20
 replace q1:=q1.fz hC20
 replace hp:=hp20
 refine go ?_
 refine Eq_ rfl rfl (gl ?_)
 refine wk_drop [(8, pt gs8 0), (9, pt gs9 0), (11, .bool (decide ((1 + (kk : Int)) = 2)))] ⟨rfl, rfl, rfl, trivial⟩ (hK _ _ ?_)
 refine ⟨F1, ({ ((chapL 16).getD ((1 + (kk : Int)) - 1).toNat note0) with ans.epoch := (1 + (xx : Int)) } : Nte), (decide ((1 + (kk : Int)) = 2)), pe2_0, qe2_0, pe2_1, qe2_1, pe2_2, qe2_2, pe2_3, qe2_3, pe2_4, qe2_4, pe2_5, qe2_5, pe2_6, qe2_6, pe2_7, qe2_7, pe2_8, qe2_8, pe2_9, qe2_9, pe2_10, qe2_10, rfl, ?_, ?_, ?_, ?_, ?_, ?_, ?_, ?_, ?_, ?_, ?_, ?_, ?_, ?_, ?_, ?_, ?_, ?_, ?_, ?_, ?_, ?_, ?_, ?_, ?_, ?_⟩
 exact (he2_0.fr q1)
 exact (he2_1.fr q1)
 exact (he2_2.fr q1)
 exact (he2_3.fr q1)
 exact (he2_4.fr q1)
 exact (he2_5.fr q1)
 exact (he2_6.fr q1)
 exact (he2_7.fr q1)
 exact (he2_8.fr q1)
 exact (he2_9.fr q1)
 exact (he2_10.fr q1)
 exact (he2_0.fr q1)
 exact (he2_1.fr q1)
 exact (he2_2.fr q1)
 exact (he2_3.fr q1)
 exact (he2_4.fr q1)
 exact (he2_5.fr q1)
 exact (he2_6.fr q1)
 exact (he2_7.fr q1)
 exact (he2_8.fr q1)
 exact (he2_9.fr q1)
 exact (he2_10.fr q1)
 (have h9 := hIe2; unfold NteI i64 at h9 ⊢; dsimp only; omega)
 by_cases hz : (1 + (kk : Int)) = 2
 exact .inl (decide_eq_true hz)
 exact .inr (fun e => fld_no (f := 7) (k := (1 + (kk : Int))) (x := (1 + (xx : Int))) (by decide) (by omega) (by omega) (by omega) (by omega) (by show ¬ ((1 + (kk : Int)) = 2); omega) (by rw [fld_k hkk] at e; exact e))
 exact hcN
 exact hp
 rintro _ wn ⟨F, y, hb, A0y, c0y, A1y, c1y, A2y, c2y, A3y, c3y, A4y, c4y, A5y, c5y, A6y, c6y, A7y, c7y, A8y, c8y, A9y, c9y, A10y, c10y, rfl, he2_0, he2_1, he2_2, he2_3, he2_4, he2_5, he2_6, he2_7, he2_8, he2_9, he2_10, hq0, hq1, hq2, hq3, hq4, hq5, hq6, hq7, hq8, hq9, hq10, hIy, hfl, hcy, hp⟩
 refine go ?_
 refine Gs 133 (fun hgy => ?_) fun hgy => ?_
 refine go ?_
 refine Hx_ ([iv (((chapL 16).getD ((1 + (kk : Int)) - 1).toNat note0).kind), iv (((chapL 16).getD ((1 + (kk : Int)) - 1).toNat note0).from_), iv (((chapL 16).getD ((1 + (kk : Int)) - 1).toNat note0).group), iv (((chapL 16).getD ((1 + (kk : Int)) - 1).toNat note0).epoch), iv (((chapL 16).getD ((1 + (kk : Int)) - 1).toNat note0).view), iv (((chapL 16).getD ((1 + (kk : Int)) - 1).toNat note0).seq)] ++ (digC (((chapL 16).getD ((1 + (kk : Int)) - 1).toNat note0).dig) ++ ([.slice pe2_0 (((chapL 16).getD ((1 + (kk : Int)) - 1).toNat note0).batch).length qe2_0, iv (((chapL 16).getD ((1 + (kk : Int)) - 1).toNat note0).ans.err), .slice pe2_1 (((chapL 16).getD ((1 + (kk : Int)) - 1).toNat note0).ans.data).length qe2_1, iv (((chapL 16).getD ((1 + (kk : Int)) - 1).toNat note0).ans.epoch), .slice pe2_2 (((chapL 16).getD ((1 + (kk : Int)) - 1).toNat note0).ans.nodes).length qe2_2, iv (((chapL 16).getD ((1 + (kk : Int)) - 1).toNat note0).stamp), iv (((chapL 16).getD ((1 + (kk : Int)) - 1).toNat note0).node), iv (((chapL 16).getD ((1 + (kk : Int)) - 1).toNat note0).change.node), iv (((chapL 16).getD ((1 + (kk : Int)) - 1).toNat note0).change.view), iv (((chapL 16).getD ((1 + (kk : Int)) - 1).toNat note0).change.low), .slice pe2_3 (((chapL 16).getD ((1 + (kk : Int)) - 1).toNat note0).change.marks).length qe2_3, .slice pe2_4 (((chapL 16).getD ((1 + (kk : Int)) - 1).toNat note0).change.p).length qe2_4, .slice pe2_5 (((chapL 16).getD ((1 + (kk : Int)) - 1).toNat note0).change.q).length qe2_5, .slice pe2_6 (((chapL 16).getD ((1 + (kk : Int)) - 1).toNat note0).changes).length qe2_6, .slice pe2_7 (((chapL 16).getD ((1 + (kk : Int)) - 1).toNat note0).picks).length qe2_7, iv (((chapL 16).getD ((1 + (kk : Int)) - 1).toNat note0).level), iv (((chapL 16).getD ((1 + (kk : Int)) - 1).toNat note0).place), .slice pe2_8 (((chapL 16).getD ((1 + (kk : Int)) - 1).toNat note0).digs).length qe2_8, .slice pe2_9 (((chapL 16).getD ((1 + (kk : Int)) - 1).toNat note0).data).length qe2_9, .slice pe2_10 (((chapL 16).getD ((1 + (kk : Int)) - 1).toNat note0).nodes).length qe2_10]))) 1 ag38 rfl hp rfl rfl rfl (go ?_)
 have hcl:=nCheck_ok ⟨hIe2, _, _, _, _, _, _, _, _, _, _, _, _, _, _, _, _, _, _, _, _, _, _, rfl, he2_0, he2_1, he2_2, he2_3, he2_4, he2_5, he2_6, he2_7, he2_8, he2_9, he2_10⟩ (by exact hcN)
 refine Cl_ cl24 rfl hcl ?_
 clear hcl
 rintro _ w21 ⟨rfl, hE21⟩
 replace hp:=hp.ext hE21
 refine go ?_
 refine Eq_ rfl rfl ?_
 refine wl_re (k := 141) (v := .bool true) rfl (congrArg Value.bool (decide_eq_true (by rw [packS_pm (chapL_pm (by omega))]))) (go ?_)
 refine Cl_ cl19 rfl (lAwake_ok) ?_
 rintro _ w22 ⟨rfl, hE22⟩
 replace hp:=hp.ext hE22
 refine go ?_
 refine P1 results10 ?_
 exact ⟨_, rfl, rfl, hp.chg⟩
 refine go ?_
 refine Hx_ ([iv y.kind, iv y.from_, iv y.group, iv y.epoch, iv y.view, iv y.seq] ++ (digC y.dig ++ ([.slice A0y y.batch.length c0y, iv y.ans.err, .slice A1y y.ans.data.length c1y, iv y.ans.epoch, .slice A2y y.ans.nodes.length c2y, iv y.stamp, iv y.node, iv y.change.node, iv y.change.view, iv y.change.low, .slice A3y y.change.marks.length c3y, .slice A4y y.change.p.length c4y, .slice A5y y.change.q.length c5y, .slice A6y y.changes.length c6y, .slice A7y y.picks.length c7y, iv y.level, iv y.place, .slice A8y y.digs.length c8y, .slice A9y y.data.length c9y, .slice A10y y.nodes.length c10y]))) 0 ag38 rfl hp rfl rfl rfl (go ?_)
 have hcl:=nCheck_ok ⟨hIy, _, _, _, _, _, _, _, _, _, _, _, _, _, _, _, _, _, _, _, _, _, _, rfl, hq0, hq1, hq2, hq3, hq4, hq5, hq6, hq7, hq8, hq9, hq10⟩ (by exact hcy)
 refine Cl_ cl24 rfl hcl ?_
 clear hcl
 rintro _ w23 ⟨rfl, hE23⟩
 have q5:=hE23
 replace hp:=hp.ext hE23
 refine go ?_
 refine Eq_ rfl rfl ?_
 refine wl_re (k := 136) (v := .bool true) rfl (congrArg Value.bool (decide_eq_true (by rw [packS_no (hfl.resolve_left (by simp [hgy]))]))) (go ?_)
 refine Hx_ ([iv (((chapL 16).getD ((1 + (kk : Int)) - 1).toNat note0).kind), iv (((chapL 16).getD ((1 + (kk : Int)) - 1).toNat note0).from_), iv (((chapL 16).getD ((1 + (kk : Int)) - 1).toNat note0).group), iv (((chapL 16).getD ((1 + (kk : Int)) - 1).toNat note0).epoch), iv (((chapL 16).getD ((1 + (kk : Int)) - 1).toNat note0).view), iv (((chapL 16).getD ((1 + (kk : Int)) - 1).toNat note0).seq)] ++ (digC (((chapL 16).getD ((1 + (kk : Int)) - 1).toNat note0).dig) ++ ([.slice pe2_0 (((chapL 16).getD ((1 + (kk : Int)) - 1).toNat note0).batch).length qe2_0, iv (((chapL 16).getD ((1 + (kk : Int)) - 1).toNat note0).ans.err), .slice pe2_1 (((chapL 16).getD ((1 + (kk : Int)) - 1).toNat note0).ans.data).length qe2_1, iv (((chapL 16).getD ((1 + (kk : Int)) - 1).toNat note0).ans.epoch), .slice pe2_2 (((chapL 16).getD ((1 + (kk : Int)) - 1).toNat note0).ans.nodes).length qe2_2, iv (((chapL 16).getD ((1 + (kk : Int)) - 1).toNat note0).stamp), iv (((chapL 16).getD ((1 + (kk : Int)) - 1).toNat note0).node), iv (((chapL 16).getD ((1 + (kk : Int)) - 1).toNat note0).change.node), iv (((chapL 16).getD ((1 + (kk : Int)) - 1).toNat note0).change.view), iv (((chapL 16).getD ((1 + (kk : Int)) - 1).toNat note0).change.low), .slice pe2_3 (((chapL 16).getD ((1 + (kk : Int)) - 1).toNat note0).change.marks).length qe2_3, .slice pe2_4 (((chapL 16).getD ((1 + (kk : Int)) - 1).toNat note0).change.p).length qe2_4, .slice pe2_5 (((chapL 16).getD ((1 + (kk : Int)) - 1).toNat note0).change.q).length qe2_5, .slice pe2_6 (((chapL 16).getD ((1 + (kk : Int)) - 1).toNat note0).changes).length qe2_6, .slice pe2_7 (((chapL 16).getD ((1 + (kk : Int)) - 1).toNat note0).picks).length qe2_7, iv (((chapL 16).getD ((1 + (kk : Int)) - 1).toNat note0).level), iv (((chapL 16).getD ((1 + (kk : Int)) - 1).toNat note0).place), .slice pe2_8 (((chapL 16).getD ((1 + (kk : Int)) - 1).toNat note0).digs).length qe2_8, .slice pe2_9 (((chapL 16).getD ((1 + (kk : Int)) - 1).toNat note0).data).length qe2_9, .slice pe2_10 (((chapL 16).getD ((1 + (kk : Int)) - 1).toNat note0).nodes).length qe2_10]))) 1 ag38 rfl hp rfl rfl rfl (go ?_)
 have hcl:=nCheck_ok ⟨hIe2, _, _, _, _, _, _, _, _, _, _, _, _, _, _, _, _, _, _, _, _, _, _, rfl, (he2_0.ext q5), (he2_1.ext q5), (he2_2.ext q5), (he2_3.ext q5), (he2_4.ext q5), (he2_5.ext q5), (he2_6.ext q5), (he2_7.ext q5), (he2_8.ext q5), (he2_9.ext q5), (he2_10.ext q5)⟩ (by exact hcN)
 refine Cl_ cl24 rfl hcl ?_
 clear hcl
 rintro _ w24 ⟨rfl, hE24⟩
 replace hp:=hp.ext hE24
 refine go ?_
 refine Eq_ rfl rfl ?_
 refine wl_re (k := 141) (v := .bool true) rfl (congrArg Value.bool (decide_eq_true (by rw [packS_pm (chapL_pm (by omega))]))) (go ?_)
 refine Cl_ cl19 rfl (lAwake_ok) ?_
 rintro _ w25 ⟨rfl, hE25⟩
 replace hp:=hp.ext hE25
 refine go ?_
 refine P1 results10 ?_
 exact ⟨_, rfl, rfl, hp.chg⟩
end Go.Proofs.YtkdoomglflikkaaGreat
namespace Go.Proofs.YtkdoomglflikkaaGreat
open Go.ChangeShapes Go.WideShapes Go.ChangeAt Go.RowKit Go.Eng _root_.Go.Proofs.Tryz
set_option maxRecDepth 100000
variable {w0 w : World} {M0 Fz : Nat → Prop} {H : List It} {A : Option Addr} {c : Nat}
set_option maxRecDepth 100000 in
theorem noteFields_lifted (os : Os) (started : os.Started) (H : Type) (enc : TypeId × Value → H) :
    ReturnsInHanded {} Tryz.checked os 10 .any (Rows.noteFieldsSpec.pre6 enc Tryz.prog Tryz.f10 Rows.noteFieldsRow.domain false) (Rows.noteFieldsSpec.post enc Tryz.prog Tryz.f10 false true false false) := by
  refine law_lifted (C := Tryz.checked) Tryz.own started (by kernel_rfl) Tryz.func10
    (ChangeSpec.witness6 (enc := enc) (C := Tryz.checked) false ⟨#[], #[.int .i64 0, .int .i64 0, .int .i64 0], []⟩ 8 (by kernel_rfl) (by kernel_rfl) (by kernel_rfl) (by kernel_rfl))
    Tryz.laidOut (by kernel_rfl) rfl rfl Tryz.underlying4 ?_ ?_
  · intro ds hq
    obtain ⟨d0, t0, e0, q0⟩ := spec_len (show ds.length = 3 from hq)
    obtain ⟨d1, t1, e1, q1⟩ := spec_len (show t0.length = 2 from q0)
    obtain ⟨d2, t2, e2, q2⟩ := spec_len (show t1.length = 1 from q1)
    have en := List.eq_nil_of_length_eq_zero (show t2.length = 0 from q2)
    subst en
    subst e2
    subst e1
    subst e0
    rfl
  · intro W base args ds h
    obtain ⟨l⟩ := args
    rw [Tryz.params10] at h
    obtain ⟨v0, l0, d0, ds0, rfl, h0, h⟩ := args_cons h
    obtain ⟨v1, l1, d1, ds1, rfl, h1, h⟩ := args_cons h
    obtain ⟨v2, l2, d2, ds2, rfl, h2, h⟩ := args_cons h
    obtain rfl := args_nil h
    clear h
    obtain ⟨n0, rfl, lo0, hi0⟩ := arg_int Tryz.underlying3 h0
    obtain ⟨n1, rfl, lo1, hi1⟩ := arg_int Tryz.underlying3 h1
    obtain ⟨n2, rfl, lo2, hi2⟩ := arg_int Tryz.underlying3 h2
    exact noteFields_ok ⟨lo0, hi0⟩ ⟨lo1, hi1⟩ ⟨lo2, hi2⟩
theorem noteFields_holds : Rows.NoteFieldsSaid :=
 OpenClaim.holds_of_wide 10 Tryz.f10 rfl rfl rfl rfl rfl rfl rfl ⟨rfl, rfl, rfl, rfl, rfl⟩ rfl rfl rfl rfl rfl (by kernel_rfl) Tryz.func10 (by kernel_rfl)
  (of_decide_eq_true (by kernel_rfl)) (by unfold Func.isWrapper; first | (rw [if_pos (by decide +kernel)]; kernel_rfl) | (rw [if_neg (by decide +kernel)]; exact ⟨rfl, rfl⟩))
  (fun os started H enc _ => noteFields_lifted os started H enc)
end Go.Proofs.YtkdoomglflikkaaGreat
