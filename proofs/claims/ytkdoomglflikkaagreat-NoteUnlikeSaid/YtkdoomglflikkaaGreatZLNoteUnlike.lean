/- NoteUnlike is true: what the program answers is what the statement says, for every argument (no further condition). -/
import Derived.Test.YtkdoomglflikkaaGreatZe
namespace Go.Proofs.YtkdoomglflikkaaGreat
open Go.RowKit Go.Eng _root_.Go.Proofs.Tryz
set_option maxRecDepth 100000
variable {w0 w : World} {M0 Fz : Nat → Prop} {H : List It} {A : Option Addr} {c : Nat}
def dgt (b : UInt8) : Dig := ⟨[b, 1, 2, 0, 0, 0, 0, 0, 0, 0, 0, 0, 0, 0, 0, 0, 0, 0, 0, 0, 0, 0, 0, 0, 0, 0, 0, 0, 0, 0, 0, 0], rfl⟩
def wshA : Wsh := ⟨31, 5, 1, 2, 1, 3, [], 0, 0, []⟩
def wshB : Wsh := ⟨32, 1, 1, 2, 2, 7, List.replicate 16 0, 0, 0, []⟩
def stdP : List Stn := [⟨5, dgt 1, 2⟩, ⟨9, dgt 2, 0⟩]
def stdQ : List Stn := [⟨5, dgt 1, 2⟩, ⟨6, dgt 4, 1⟩, ⟨6, dgt 3, 2⟩, ⟨12, dgt 2, 0⟩]
def chgN (node : Int) : Chn := ⟨node, 3, 4, [⟨4, dgt 9⟩, ⟨8, dgt 8⟩], stdP, stdQ⟩
def headN (k : Int) : Nte := { note0 with kind := k, from_ := 3, group := 1, epoch := 2 }
def chapN (k : Int) : Nte :=
 if k = 1 ∨ k = 14 then { headN k with from_ := 31, batch := [wshA] }
 else if k = 2 then { headN k with node := 31, stamp := 5, ans := ⟨171, [48, 49, 50, 51, 52, 53, 54, 55, 56, 57, 97, 98, 99, 100, 101, 102], 3, [5, 6, 7, 9]⟩ }
 else if k = 3 then { headN k with view := 1, seq := 300, batch := [wshA, wshB] }
 else if k = 4 ∨ k = 5 then { headN k with seq := 7, dig := dgt 1 }
 else if k = 6 ∨ k = 13 then { headN k with seq := 8, dig := dgt 2 }
 else if k = 7 then { headN k with change := chgN 3 }
 else if k = 8 then { headN k with view := 3, node := 4, dig := dgt 3 }
 else if k = 9 then { headN k with view := 3, changes := [chgN 1, chgN 3, chgN 4], picks := [⟨5, dig0, []⟩, ⟨6, dgt 3, [wshA, wshB]⟩] }
 else if k = 10 then { headN k with seq := 8, dig := dgt 2, level := 1, place := 2 }
 else if k = 11 then { headN k with seq := 8, dig := dgt 2, digs := [dgt 5, dgt 6], data := [108, 101, 97, 102] }
 else if k = 12 then { headN k with nodes := [5, 6, 7, 9] }
 else if k = 16 then { headN k with batch := [wshA, wshB] }
 else { headN k with seq := 6, batch := [wshA, wshB] }
def chapL (k : Nat) : List Nte := (List.range k).map fun i : Nat => chapN ((i : Int) + 1)
theorem chapL_succ (k : Nat) : chapL (k + 1) = chapL k ++ [chapN ((k : Int) + 1)] := by simp [chapL, List.range_succ]
theorem chapL_len (k : Nat) : (chapL k).length = k := by simp [chapL]
theorem chapL_get {k i : Nat} (h : i < k) : (chapL k)[i]? = some (chapN ((i : Int) + 1)) := by simp [chapL, h]
theorem chapN_may (k : Int) (h0 : 1 ≤ k) (h1 : k ≤ 16) : PackMay (chapN k) := by
 have hd : ∀ i : Fin 16, PackMay (chapN ((i.val : Int) + 1)) := by decide +kernel
 obtain ⟨i, rfl⟩ : ∃ i : Nat, k = (i : Int) + 1 := ⟨(k - 1).toNat, by omega⟩
 exact hd ⟨i, by omega⟩
set_option maxHeartbeats 40000000 in
theorem lDigest_ok {b : UInt8}  : Ret prog 27 #[bv b] w (fun v w' => v = .agg (digC (dgt b)).toArray ∧ Ext w w') := by
 refine ret_of_wk func27 rfl ntmps27 leB_ ?_
 have hp:=HP.begin_ w
 refine go ?_
 refine wl_halloc (z := .agg #[.int .u8 0, .int .u8 0, .int .u8 0, .int .u8 0, .int .u8 0, .int .u8 0, .int .u8 0, .int .u8 0, .int .u8 0, .int .u8 0, .int .u8 0, .int .u8 0, .int .u8 0, .int .u8 0, .int .u8 0, .int .u8 0, .int .u8 0, .int .u8 0, .int .u8 0, .int .u8 0, .int .u8 0, .int .u8 0, .int .u8 0, .int .u8 0, .int .u8 0, .int .u8 0, .int .u8 0, .int .u8 0, .int .u8 0, .int .u8 0, .int .u8 0, .int .u8 0]) (by decide) (by kernel_rfl) hp ?_
 rintro gs2 w1 hp1 hE1
 replace hp:=hp1
 replace hp:=hp.ay (itB gs2 23 (digC dig0) :: _)
 refine go ?_
 refine wl_builtS (cells := digC (dgt b)) (ps := [(0, .tmp 3), (1, .const (.int .u8 1)), (2, .const (.int .u8 2))]) (by decide) bld23 rfl rfl ?_
 refine wl_hstore (i := 0) rfl rfl hp rfl sz23 leB_ (List.all_eq_true.1 rfl) ?_
 rintro w2 hp2 hC2
 replace hp:=hp2
 replace hp:=hp.ay (itB gs2 23 (digC (dgt b)) :: _)
 refine go ?_
 refine wk_postR (rs := [.cell 2 23]) (.inl rfl) results27 ⟨_, _, _, rfl, rfl, loadVar_agg ag23 (hp.blkAt (i := 0) rfl).at0 rfl, rfl⟩ ?_
 exact ⟨_, rfl, rfl, hp.chg⟩
set_option maxHeartbeats 40000000 in
theorem lWishes_ok (hp : HP w0 M0 Fz w H) : Ret prog 28 #[] w (fun v w2 => ∃ F2 A c, v = .slice A ([wshA, wshB]).length c ∧ HP w0 M0 F2 w2 H ∧ Frz Fz F2 w w2 ∧ GS wishR F2 w2 A c ([wshA, wshB])) := by
 have hFr:=Frz.start Fz w
 refine ret_of_wk func28 rfl ntmps28 leB_ ?_
 refine go ?_
 refine wl_builtS (ps := [(0, .const (iv 31)), (1, .const (iv 5)), (2, .const (iv 1)), (3, .const (iv 2)), (4, .const (iv 1)), (5, .const (iv 3))]) (by decide) bld68 rfl rfl ?_
 apply wl_make (k := 16) (z := .int .u8 0) (hT := sl26) (hd := by decide)
 case hz => kernel_rfl
 case hx => rfl
 case hy => rfl
 case hb => decide
 case hlo => exact Nat.le_refl _
 rintro gz1 wz1 hgz1 hoz1 hEz1
 replace hoz1:=OwnRow.bs (l := (List.replicate 16 (0 : UInt8))) hoz1.zeros
 obtain ⟨Fz1, hp1, hsub1, hnew1, _⟩ := hp.frz hEz1
 replace hp:=hp1
 have hs1:=hoz1.frz hnew1
 replace hFr:=(hFr.ext hEz1).wid hsub1
 refine wl_builtS (ps := [(0, .const (iv 32)), (1, .const (iv 1)), (2, .const (iv 1)), (3, .const (iv 2)), (4, .const (iv 2)), (5, .const (iv 7)), (6, .tmp 2)]) (by decide) bld68 rfl rfl ?_
 refine wl_bsliceR (r := wishR) (css := [[iv 31, iv 5, iv 1, iv 2, iv 1, iv 3, s0, iv wish0.old, iv wish0.new, s0], [iv 32, iv 1, iv 1, iv 2, iv 2, iv 7, .slice (some ⟨gz1, 0, none⟩) (List.replicate 16 (0 : UInt8)).length 16, iv wish0.old, iv wish0.new, s0]]) (l := [({ wish0 with client := 31, stamp := 5, group := 1, epoch := 2, kind := 1, block := 3 } : Wsh), ({ wish0 with client := 32, stamp := 1, group := 1, epoch := 2, kind := 2, block := 7, data := (List.replicate 16 (0 : UInt8)) } : Wsh)]) (xs := [.tmp 1, .tmp 3]) (by decide) sl24 rfl rfl (((RF.one (r := wishR) (Fz := Fz1) (cs := [iv 31, iv 5, iv 1, iv 2, iv 1, iv 3, s0, iv wish0.old, iv wish0.new, s0]) (v := ({ wish0 with client := 31, stamp := 5, group := 1, epoch := 2, kind := 1, block := 3 } : Wsh)) (⟨(show WshI ({ wish0 with client := 31, stamp := 5, group := 1, epoch := 2, kind := 1, block := 3 } : Wsh) by unfold WshI i64; (try unfold wish0); (try dsimp only); omega), _, _, _, _, rfl, gsn, gsn⟩)).append (RF.one (r := wishR) (Fz := Fz1) (cs := [iv 32, iv 1, iv 1, iv 2, iv 2, iv 7, .slice (some ⟨gz1, 0, none⟩) (List.replicate 16 (0 : UInt8)).length 16, iv wish0.old, iv wish0.new, s0]) (v := ({ wish0 with client := 32, stamp := 1, group := 1, epoch := 2, kind := 2, block := 7, data := (List.replicate 16 (0 : UInt8)) } : Wsh)) (⟨(show WshI ({ wish0 with client := 32, stamp := 1, group := 1, epoch := 2, kind := 2, block := 7, data := (List.replicate 16 (0 : UInt8)) } : Wsh) by unfold WshI i64; (try unfold wish0); (try dsimp only); omega), _, _, _, _, rfl, hs1, gsn⟩))) : RF wishR Fz1 _ [[iv 31, iv 5, iv 1, iv 2, iv 1, iv 3, s0, iv wish0.old, iv wish0.new, s0], [iv 32, iv 1, iv 1, iv 2, iv 2, iv 7, .slice (some ⟨gz1, 0, none⟩) (List.replicate 16 (0 : UInt8)).length 16, iv wish0.old, iv wish0.new, s0]] [({ wish0 with client := 31, stamp := 5, group := 1, epoch := 2, kind := 1, block := 3 } : Wsh), ({ wish0 with client := 32, stamp := 1, group := 1, epoch := 2, kind := 2, block := 7, data := (List.replicate 16 (0 : UInt8)) } : Wsh)]) rfl (by simp) leB_ ?_
 rintro gb2 wb2 hgb2 hs2 hE2
 obtain ⟨Fz2, hp2, hsub2, hnew2, _⟩ := hp.frz hE2
 replace hp:=hp2
 replace hs2:=hs2.mono (fun b hb h => h.elim (fun x => hsub2 b x.1) (fun e => hnew2 b (by rw [e, hgb2]; exact Nat.le_refl _) hb))
 replace hFr:=(hFr.ext hE2).wid hsub2
 refine go ?_
 refine P1 results28 ?_
 exact ⟨_, rfl, _, _, _, rfl, hp, hFr, hs2⟩
set_option maxHeartbeats 40000000 in
theorem lChange_ok {node : Int} (hp : HP w0 M0 Fz w H) (hn : i64 node) : Ret prog 35 #[.int .i64 node] w (fun v w2 => ∃ F2 cs, v = .agg cs.toArray ∧ HP w0 M0 F2 w2 H ∧ Frz Fz F2 w w2 ∧ changeR.rd F2 w2 cs (chgN node)) := by
 have hFr:=Frz.start Fz w
 unfold i64 at hn
 refine ret_of_wk func35 rfl ntmps35 leB_ ?_
 refine go ?_
 refine wl_halloc (z := .agg #[iv 0, iv 0, iv 0, s0, s0, s0]) (by decide) (by kernel_rfl) hp ?_
 rintro gs2 w1 hp1 hE1
 replace hFr:=hFr.ext hE1
 replace hp:=hp1
 refine go ?_
 have hcl:=fun w => lDigest_ok (w := w) (b := 1)
 refine Cl_ cl27 rfl (hcl _) ?_
 clear hcl
 rintro _ w2 ⟨rfl, hE2⟩
 replace hFr:=hFr.ext hE2
 replace hp:=hp.ext hE2
 refine wl_builtS (ps := [(0, .const (iv 5)), (1, .tmp 5), (2, .const (iv 2))]) (by decide) bld97 rfl rfl ?_
 have hcl:=fun w => lDigest_ok (w := w) (b := 2)
 refine Cl_ cl27 rfl (hcl _) ?_
 clear hcl
 rintro _ w3 ⟨rfl, hE3⟩
 replace hFr:=hFr.ext hE3
 replace hp:=hp.ext hE3
 refine wl_builtS (ps := [(0, .const (iv 9)), (1, .tmp 7)]) (by decide) bld97 rfl rfl ?_
 refine wl_bsliceR (r := standR) (css := [[iv 5] ++ (digC (dgt 1) ++ ([iv 2])), [iv 9] ++ (digC (dgt 2) ++ ([iv stand0.view]))]) (l := [({ seq := 5, dig := (dgt 1), view := 2 } : Stn), ({ stand0 with seq := 9, dig := (dgt 2) } : Stn)]) (xs := [.tmp 6, .tmp 8]) (by decide) sl31 rfl rfl (((RF.one (r := standR) (Fz := Fz) (cs := [iv 5] ++ (digC (dgt 1) ++ ([iv 2]))) (v := ({ seq := 5, dig := (dgt 1), view := 2 } : Stn)) (⟨(show StnI ({ seq := 5, dig := (dgt 1), view := 2 } : Stn) by unfold StnI i64; (try unfold stand0); (try dsimp only); omega), rfl⟩)).append (RF.one (r := standR) (Fz := Fz) (cs := [iv 9] ++ (digC (dgt 2) ++ ([iv stand0.view]))) (v := ({ stand0 with seq := 9, dig := (dgt 2) } : Stn)) (⟨(show StnI ({ stand0 with seq := 9, dig := (dgt 2) } : Stn) by unfold StnI i64; (try unfold stand0); (try dsimp only); omega), rfl⟩))) : RF standR Fz _ [[iv 5] ++ (digC (dgt 1) ++ ([iv 2])), [iv 9] ++ (digC (dgt 2) ++ ([iv stand0.view]))] [({ seq := 5, dig := (dgt 1), view := 2 } : Stn), ({ stand0 with seq := 9, dig := (dgt 2) } : Stn)]) rfl (by simp) leB_ ?_
 rintro gb4 wb4 hgb4 hs4 hE4
 obtain ⟨Fz4, hp4, hsub4, hnew4, _⟩ := hp.frz hE4
 replace hp:=hp4
 replace hs4:=hs4.mono (fun b hb h => h.elim (fun x => hsub4 b x.1) (fun e => hnew4 b (by rw [e, hgb4]; exact Nat.le_refl _) hb))
 replace hFr:=(hFr.ext hE4).wid hsub4
 refine go ?_
 have hcl:=fun w => lDigest_ok (w := w) (b := 1)
 refine Cl_ cl27 rfl (hcl _) ?_
 clear hcl
 rintro _ w5 ⟨rfl, hE5⟩
 replace hFr:=hFr.ext hE5
 have q0:=hE5
 replace hp:=hp.ext hE5
 refine wl_builtS (ps := [(0, .const (iv 5)), (1, .tmp 10), (2, .const (iv 2))]) (by decide) bld97 rfl rfl ?_
 have hcl:=fun w => lDigest_ok (w := w) (b := 4)
 refine Cl_ cl27 rfl (hcl _) ?_
 clear hcl
 rintro _ w6 ⟨rfl, hE6⟩
 replace hFr:=hFr.ext hE6
 replace q0:=q0.trans hE6
 replace hp:=hp.ext hE6
 refine wl_builtS (ps := [(0, .const (iv 6)), (1, .tmp 12), (2, .const (iv 1))]) (by decide) bld97 rfl rfl ?_
 have hcl:=fun w => lDigest_ok (w := w) (b := 3)
 refine Cl_ cl27 rfl (hcl _) ?_
 clear hcl
 rintro _ w7 ⟨rfl, hE7⟩
 replace hFr:=hFr.ext hE7
 replace q0:=q0.trans hE7
 replace hp:=hp.ext hE7
 refine wl_builtS (ps := [(0, .const (iv 6)), (1, .tmp 14), (2, .const (iv 2))]) (by decide) bld97 rfl rfl ?_
 have hcl:=fun w => lDigest_ok (w := w) (b := 2)
 refine Cl_ cl27 rfl (hcl _) ?_
 clear hcl
 rintro _ w8 ⟨rfl, hE8⟩
 replace hFr:=hFr.ext hE8
 replace q0:=q0.trans hE8
 replace hp:=hp.ext hE8
 refine wl_builtS (ps := [(0, .const (iv 12)), (1, .tmp 16)]) (by decide) bld97 rfl rfl ?_
 refine wl_bsliceR (r := standR) (css := [[iv 5] ++ (digC (dgt 1) ++ ([iv 2])), [iv 6] ++ (digC (dgt 4) ++ ([iv 1])), [iv 6] ++ (digC (dgt 3) ++ ([iv 2])), [iv 12] ++ (digC (dgt 2) ++ ([iv stand0.view]))]) (l := [({ seq := 5, dig := (dgt 1), view := 2 } : Stn), ({ seq := 6, dig := (dgt 4), view := 1 } : Stn), ({ seq := 6, dig := (dgt 3), view := 2 } : Stn), ({ stand0 with seq := 12, dig := (dgt 2) } : Stn)]) (xs := [.tmp 11, .tmp 13, .tmp 15, .tmp 17]) (by decide) sl31 rfl rfl (((RF.one (r := standR) (Fz := Fz4) (cs := [iv 5] ++ (digC (dgt 1) ++ ([iv 2]))) (v := ({ seq := 5, dig := (dgt 1), view := 2 } : Stn)) (⟨(show StnI ({ seq := 5, dig := (dgt 1), view := 2 } : Stn) by unfold StnI i64; (try unfold stand0); (try dsimp only); omega), rfl⟩)).append ((RF.one (r := standR) (Fz := Fz4) (cs := [iv 6] ++ (digC (dgt 4) ++ ([iv 1]))) (v := ({ seq := 6, dig := (dgt 4), view := 1 } : Stn)) (⟨(show StnI ({ seq := 6, dig := (dgt 4), view := 1 } : Stn) by unfold StnI i64; (try unfold stand0); (try dsimp only); omega), rfl⟩)).append ((RF.one (r := standR) (Fz := Fz4) (cs := [iv 6] ++ (digC (dgt 3) ++ ([iv 2]))) (v := ({ seq := 6, dig := (dgt 3), view := 2 } : Stn)) (⟨(show StnI ({ seq := 6, dig := (dgt 3), view := 2 } : Stn) by unfold StnI i64; (try unfold stand0); (try dsimp only); omega), rfl⟩)).append (RF.one (r := standR) (Fz := Fz4) (cs := [iv 12] ++ (digC (dgt 2) ++ ([iv stand0.view]))) (v := ({ stand0 with seq := 12, dig := (dgt 2) } : Stn)) (⟨(show StnI ({ stand0 with seq := 12, dig := (dgt 2) } : Stn) by unfold StnI i64; (try unfold stand0); (try dsimp only); omega), rfl⟩))))) : RF standR Fz4 _ [[iv 5] ++ (digC (dgt 1) ++ ([iv 2])), [iv 6] ++ (digC (dgt 4) ++ ([iv 1])), [iv 6] ++ (digC (dgt 3) ++ ([iv 2])), [iv 12] ++ (digC (dgt 2) ++ ([iv stand0.view]))] [({ seq := 5, dig := (dgt 1), view := 2 } : Stn), ({ seq := 6, dig := (dgt 4), view := 1 } : Stn), ({ seq := 6, dig := (dgt 3), view := 2 } : Stn), ({ stand0 with seq := 12, dig := (dgt 2) } : Stn)]) rfl (by simp) leB_ ?_
 rintro gb9 wb9 hgb9 hs9 hE9
 obtain ⟨Fz9, hp9, hsub9, hnew9, _⟩ := hp.frz hE9
 replace hp:=hp9
 replace hs9:=hs9.mono (fun b hb h => h.elim (fun x => hsub9 b x.1) (fun e => hnew9 b (by rw [e, hgb9]; exact Nat.le_refl _) hb))
 replace hFr:=(hFr.ext hE9).wid hsub9
 have q1:=hs4.tk.ext q0
 replace q1:=(q1.ext hE9).wid hsub9
 refine go ?_
 have hcl:=fun w => lDigest_ok (w := w) (b := 9)
 refine Cl_ cl27 rfl (hcl _) ?_
 clear hcl
 rintro _ w10 ⟨rfl, hE10⟩
 replace hFr:=hFr.ext hE10
 replace q1:=q1.ext hE10
 have q2:=hE10
 replace hp:=hp.ext hE10
 refine wl_builtS (ps := [(0, .const (iv 4)), (1, .tmp 20)]) (by decide) bld95 rfl rfl ?_
 have hcl:=fun w => lDigest_ok (w := w) (b := 8)
 refine Cl_ cl27 rfl (hcl _) ?_
 clear hcl
 rintro _ w11 ⟨rfl, hE11⟩
 replace hFr:=hFr.ext hE11
 replace q1:=q1.ext hE11
 replace q2:=q2.trans hE11
 replace hp:=hp.ext hE11
 refine wl_builtS (ps := [(0, .const (iv 8)), (1, .tmp 22)]) (by decide) bld95 rfl rfl ?_
 refine wl_bsliceR (r := markR) (css := [[iv 4] ++ (digC (dgt 9)), [iv 8] ++ (digC (dgt 8))]) (l := [({ seq := 4, dig := (dgt 9) } : Mrk), ({ seq := 8, dig := (dgt 8) } : Mrk)]) (xs := [.tmp 21, .tmp 23]) (by decide) sl30 rfl rfl (((RF.one (r := markR) (Fz := Fz9) (cs := [iv 4] ++ (digC (dgt 9))) (v := ({ seq := 4, dig := (dgt 9) } : Mrk)) (⟨(show MrkI ({ seq := 4, dig := (dgt 9) } : Mrk) by unfold MrkI i64; (try unfold mark0); (try dsimp only); omega), rfl⟩)).append (RF.one (r := markR) (Fz := Fz9) (cs := [iv 8] ++ (digC (dgt 8))) (v := ({ seq := 8, dig := (dgt 8) } : Mrk)) (⟨(show MrkI ({ seq := 8, dig := (dgt 8) } : Mrk) by unfold MrkI i64; (try unfold mark0); (try dsimp only); omega), rfl⟩))) : RF markR Fz9 _ [[iv 4] ++ (digC (dgt 9)), [iv 8] ++ (digC (dgt 8))] [({ seq := 4, dig := (dgt 9) } : Mrk), ({ seq := 8, dig := (dgt 8) } : Mrk)]) rfl (by simp) leB_ ?_
 rintro gb12 wb12 hgb12 hs12 hE12
 obtain ⟨Fz12, hp12, hsub12, hnew12, _⟩ := hp.frz hE12
 replace hp:=hp12
 replace hs12:=hs12.mono (fun b hb h => h.elim (fun x => hsub12 b x.1) (fun e => hnew12 b (by rw [e, hgb12]; exact Nat.le_refl _) hb))
 replace hFr:=(hFr.ext hE12).wid hsub12
 replace q1:=(q1.ext hE12).wid hsub12
 have q3:=hs9.tk.ext q2
 replace q3:=(q3.ext hE12).wid hsub12
 refine go ?_
 refine wl_builtS (ps := [(0, .tmp 19), (1, .const (iv 3)), (2, .const (iv 4)), (3, .tmp 24), (4, .tmp 25), (5, .tmp 26)]) (by decide) bld33 rfl rfl ?_
 refine wl_hstore (i := 0) rfl rfl hp rfl sz33 leB_ (List.all_eq_true.1 rfl) ?_
 rintro w13 hp13 hC13
 replace hFr:=hFr.fz hC13
 replace q1:=q1.fz hC13
 replace q3:=q3.fz hC13
 have q4:=hs12.tk.fz hC13
 replace hp:=hp13
 refine go ?_
 refine wk_postR (rs := [.cell 2 33]) (.inl rfl) results35 ⟨_, _, _, rfl, rfl, loadVar_agg ag33 (hp.blkAt (i := 0) rfl).at0 rfl, rfl⟩ ?_
 exact ⟨_, rfl, _, _, rfl, hp.tail, hFr, ⟨(by unfold ChnI i64 chgN; (try dsimp only); omega), _, _, _, _, _, _, rfl, (hs12.fr q4), (hs4.fr q1), (hs9.fr q3)⟩⟩
theorem ones5 {S : Nat → Prop} {w : World} {cs : List Value} {n : Nte} (h : noteR.rd S w cs n) : ∀ u ∈ cs, u.oneCell' = true := by
 obtain ⟨_, _, _, _, _, _, _, _, _, _, _, _, _, _, _, _, _, _, _, _, _, _, _, rfl, _⟩ := h
 exact List.all_eq_true.1 rfl
theorem t0_lChapter_ok {p : Prop} (h : p := by exact ⟨(by unfold NteI i64 note0 change0 ans0; (try unfold chgN); dsimp only; omega), _, _, _, _, _, _, _, _, _, _, _, _, _, _, _, _, _, _, _, _, _, _, rfl, (hw.fr q3), gsn, gsn, gsn, gsn, gsn, gsn, gsn, gsn, gsn, gsn⟩) : p := h
theorem t1_lChapter_ok {p : Prop} (h : p := by exact ⟨(by unfold NteI i64 note0 change0 ans0; (try unfold chgN); dsimp only; omega), _, _, _, _, _, _, _, _, _, _, _, _, _, _, _, _, _, _, _, _, _, _, rfl, gsn, gsn, gsn, gsn, gsn, gsn, gsn, gsn, gsn, gsn, gsn⟩) : p := h
set_option maxHeartbeats 40000000 in
theorem lChapter_ok (hp : HP w0 M0 Fz w H) : Ret prog 26 #[] w (fun v w2 => ∃ F2 A c, v = .slice A (chapL 16).length c ∧ HP w0 M0 F2 w2 H ∧ Frz Fz F2 w w2 ∧ GS noteR F2 w2 A c (chapL 16)) := by
 have hFr:=Frz.start Fz w
 refine ret_of_wk func26 rfl ntmps26 leB_ ?_
 refine go ?_
 have hcl:=lWishes_ok hp
 refine Cl_ cl28 rfl hcl ?_
 clear hcl
 rintro _ w1 ⟨F1, A1, c1, rfl, hp1, hF1, hs1⟩
 replace hFr:=hFr.fr hF1
 replace hp:=hp1
 refine go ?_
 refine wl_builtS (ps := [(1, .const (iv 3)), (2, .const (iv 1)), (3, .const (iv 2))]) (by decide) bld38 rfl rfl ?_
 refine wl_halloc (z := .agg #[iv 0, iv 0, iv 0, iv 0, iv 0, iv 0, .int .u8 0, .int .u8 0, .int .u8 0, .int .u8 0, .int .u8 0, .int .u8 0, .int .u8 0, .int .u8 0, .int .u8 0, .int .u8 0, .int .u8 0, .int .u8 0, .int .u8 0, .int .u8 0, .int .u8 0, .int .u8 0, .int .u8 0, .int .u8 0, .int .u8 0, .int .u8 0, .int .u8 0, .int .u8 0, .int .u8 0, .int .u8 0, .int .u8 0, .int .u8 0, .int .u8 0, .int .u8 0, .int .u8 0, .int .u8 0, .int .u8 0, .int .u8 0, s0, iv 0, s0, iv 0, s0, iv 0, iv 0, iv 0, iv 0, iv 0, s0, s0, s0, s0, s0, iv 0, iv 0, s0, s0, s0]) (by decide) (by kernel_rfl) hp ?_
 rintro gs2 w2 hp2 hE2
 replace hFr:=hFr.ext hE2
 have q0:=hE2
 replace hp:=hp2
 refine wl_hstore (i := 0) rfl rfl hp rfl sz38 leB_ (List.all_eq_true.1 rfl) ?_
 rintro w3 hp3 hC3
 replace hFr:=hFr.fz hC3
 have q1:=hs1.tk.ext q0
 replace q1:=q1.fz hC3
 replace hp:=hp3
 refine go ?_
 replace hp:=hp.noRow 38 58
 refine go ?_
 refine wc_loop (fun L' w' mes => ∃ (k : Nat), ∃ (F : Nat → Prop), ∃ (A3 : Option Addr), ∃ (c3 : Nat), ∃ (rows : List (List Value)), L' = [(1, .slice A1 ([wshA, wshB]).length c1), (2, pt gs2 0), (3, .slice A3 k c3), (4, iv ((k : Int) + 1))] ∧ (k ≤ 16) ∧ (Frz Fz F w w') ∧ (GS wishR F w' A1 c1 [wshA, wshB]) ∧ (RF noteR F w' rows (chapL k)) ∧ (HP w0 M0 F w' (itR 38 58 A3 k c3 rows.flatten :: itB gs2 38 ([iv note0.kind, iv 3, iv 1, iv 2, iv note0.view, iv note0.seq] ++ (digC note0.dig ++ ([s0, iv note0.ans.err, s0, iv note0.ans.epoch, s0, iv note0.stamp, iv note0.node, iv note0.change.node, iv note0.change.view, iv note0.change.low, s0, s0, s0, s0, s0, iv note0.level, iv note0.place, s0, s0, s0]))) :: H)) ∧ 16 - k = mes) [(1, .slice A1 ([wshA, wshB]).length c1), (2, pt gs2 0), (3, s0), (4, iv ((0 : Int) + 1))] (16 - 0) (by
     refine ⟨0, F1, none, 0, [], rfl, ?_, ?_, ?_, ?_, ?_, rfl⟩
     · omega
     · exact hFr
     · exact (hs1.fr q1)
     · exact RF.nil _ _ _
     · exact hp) ⟨rfl, rfl, rfl, rfl, trivial⟩ ?_
 rintro _ wr _ ⟨k, F, A3, c3, rows, rfl, hk, hFr, hw, hR, hp, rfl⟩ KL1 hKL1
 refine go ?_
 refine Lq_ rfl rfl (go ?_)
 refine Cd (fun hk16 => ?_) fun hk16 => ?_
 refine go ?_
 refine Hx_ ([iv note0.kind, iv 3, iv 1, iv 2, iv note0.view, iv note0.seq] ++ (digC note0.dig ++ ([s0, iv note0.ans.err, s0, iv note0.ans.epoch, s0, iv note0.stamp, iv note0.node, iv note0.change.node, iv note0.change.view, iv note0.change.low, s0, s0, s0, s0, s0, iv note0.level, iv note0.place, s0, s0, s0]))) 1 ag38 rfl hp rfl rfl rfl ?_
 refine wl_halloc (z := .agg #[iv 0, iv 0, iv 0, iv 0, iv 0, iv 0, .int .u8 0, .int .u8 0, .int .u8 0, .int .u8 0, .int .u8 0, .int .u8 0, .int .u8 0, .int .u8 0, .int .u8 0, .int .u8 0, .int .u8 0, .int .u8 0, .int .u8 0, .int .u8 0, .int .u8 0, .int .u8 0, .int .u8 0, .int .u8 0, .int .u8 0, .int .u8 0, .int .u8 0, .int .u8 0, .int .u8 0, .int .u8 0, .int .u8 0, .int .u8 0, .int .u8 0, .int .u8 0, .int .u8 0, .int .u8 0, .int .u8 0, .int .u8 0, s0, iv 0, s0, iv 0, s0, iv 0, iv 0, iv 0, iv 0, iv 0, s0, s0, s0, s0, s0, iv 0, iv 0, s0, s0, s0]) (by decide) (by kernel_rfl) hp ?_
 rintro gs5 w4 hp4 hE4
 replace hFr:=hFr.ext hE4
 have q2:=hE4
 replace hp:=hp4
 refine wl_hstore (i := 0) rfl rfl hp rfl sz38 leB_ (List.all_eq_true.1 rfl) ?_
 rintro w5 hp5 hC5
 replace hFr:=hFr.fz hC5
 have q3:=hw.tk.ext q2
 replace q3:=q3.fz hC5
 replace hp:=hp5
 refine go ?_
 refine Fd_ 0 fld38_0 rfl rfl ?_
 refine wl_hstore1 (i := 0) rfl rfl hp rfl sz3 (Nat.lt_of_lt_of_le (Nat.lt_succ_self _) leB_) rfl ?_
 rintro w6 hp6 hC6
 replace hFr:=hFr.fz hC6
 replace q3:=q3.fz hC6
 replace hp:=hp6
 refine gl ?_
 refine wc_seq_cut (fun L' w' => ∃ (F5 : Nat → Prop), ∃ (cs5 : List Value), L' = [(1, .slice A1 ([wshA, wshB]).length c1), (2, pt gs2 0), (3, .slice A3 k c3), (4, iv ((k : Int) + 1)), (5, pt gs5 0)] ∧ (Frz Fz F5 w w') ∧ (GS wishR F5 w' A1 c1 [wshA, wshB]) ∧ (RF noteR F5 w' rows (chapL k)) ∧ (noteR.rd F5 w' cs5 (chapN ((k : Int) + 1))) ∧ (HP w0 M0 F5 w' (itB gs5 38 cs5 :: itR 38 58 A3 k c3 rows.flatten :: itB gs2 38 ([iv note0.kind, iv 3, iv 1, iv 2, iv note0.view, iv note0.seq] ++ (digC note0.dig ++ ([s0, iv note0.ans.err, s0, iv note0.ans.epoch, s0, iv note0.stamp, iv note0.node, iv note0.change.node, iv note0.change.view, iv note0.change.low, s0, s0, s0, s0, s0, iv note0.level, iv note0.place, s0, s0, s0]))) :: H))) (fun K hK => ?_) ?_
 refine go ?_
 refine Eq_ rfl rfl (go ?_)
 refine Cd (fun hc2 => ?_) fun hc2 => ?_
 refine go ?_
 refine Cd (fun hc3 => ?_) fun hc3 => ?_
 refine go ?_
 refine Fd_ 1 fld38_1 rfl rfl ?_
 refine wl_hstore1 (i := 0) rfl rfl hp rfl sz3 (Nat.lt_of_lt_of_le (Nat.lt_succ_self _) leB_) rfl ?_
 rintro w7 hp7 hC7
 replace hFr:=hFr.fz hC7
 replace q3:=q3.fz hC7
 replace hp:=hp7
 refine go ?_
 refine wl_to (r := wishR) (by decide) sl24 rfl rfl (hw.fr q3) 1 rfl (by decide) ?_
 intro hs8
 refine Fd_ 38 fld38_7 rfl rfl ?_
 refine wl_hstore1 (i := 0) rfl rfl hp rfl sz24 (Nat.lt_of_lt_of_le (Nat.lt_succ_self _) leB_) rfl ?_
 rintro w9 hp9 hC9
 replace hFr:=hFr.fz hC9
 replace q3:=q3.fz hC9
 have q4:=hs8.tk.fz hC9
 replace hp:=hp9
 refine gl ?_
 refine wk_drop [(1, .slice A1 ([wshA, wshB]).length c1), (2, pt gs2 0), (3, .slice A3 k c3), (4, iv ((k : Int) + 1)), (5, pt gs5 0)] ⟨rfl, rfl, rfl, rfl, rfl, trivial⟩ (hK _ _ ?_)
 refine ⟨F, [iv ((k : Int) + 1), iv 31, iv 1, iv 2, iv note0.view, iv note0.seq] ++ (digC note0.dig ++ ([.slice A1 (([wshA, wshB]).take 1).length c1, iv note0.ans.err, s0, iv note0.ans.epoch, s0, iv note0.stamp, iv note0.node, iv note0.change.node, iv note0.change.view, iv note0.change.low, s0, s0, s0, s0, s0, iv note0.level, iv note0.place, s0, s0, s0])), rfl, ?_, ?_, ?_, ?_, ?_⟩
 exact hFr
 exact (hw.fr q3)
 exact (hR.fr q3)
 ·rw [show chapN ((k : Int) + 1) = ({ ({ note0 with from_ := 3, group := 1, epoch := 2 } : Nte) with kind := ((k : Int) + 1), from_ := 31, batch := (([wshA, wshB]).take 1) } : Nte) from by
    unfold chapN headN
    repeat (first | rw [if_pos (by omega)] | rw [if_neg (by omega)])
    all_goals first | rfl | (simp [note0, ans0]; done)]
  exact ⟨(by unfold NteI i64 note0 change0 ans0; (try unfold chgN); dsimp only; omega), _, _, _, _, _, _, _, _, _, _, _, _, _, _, _, _, _, _, _, _, _, _, rfl, (hs8.fr q4), gsn, gsn, gsn, gsn, gsn, gsn, gsn, gsn, gsn, gsn⟩
 exact hp
 exact absurd hc2 hc3
 refine go ?_
 refine Eq_ rfl rfl (go ?_)
 refine Cd (fun hc4 => ?_) fun hc4 => ?_
 refine go ?_
 refine Fd_ 1 fld38_1 rfl rfl ?_
 refine wl_hstore1 (i := 0) rfl rfl hp rfl sz3 (Nat.lt_of_lt_of_le (Nat.lt_succ_self _) leB_) rfl ?_
 rintro w10 hp10 hC10
 replace hFr:=hFr.fz hC10
 replace q3:=q3.fz hC10
 replace hp:=hp10
 refine go ?_
 refine wl_to (r := wishR) (by decide) sl24 rfl rfl (hw.fr q3) 1 rfl (by decide) ?_
 intro hs11
 refine Fd_ 38 fld38_7 rfl rfl ?_
 refine wl_hstore1 (i := 0) rfl rfl hp rfl sz24 (Nat.lt_of_lt_of_le (Nat.lt_succ_self _) leB_) rfl ?_
 rintro w12 hp12 hC12
 replace hFr:=hFr.fz hC12
 replace q3:=q3.fz hC12
 have q5:=hs11.tk.fz hC12
 replace hp:=hp12
 refine gl ?_
 refine wk_drop [(1, .slice A1 ([wshA, wshB]).length c1), (2, pt gs2 0), (3, .slice A3 k c3), (4, iv ((k : Int) + 1)), (5, pt gs5 0)] ⟨rfl, rfl, rfl, rfl, rfl, trivial⟩ (hK _ _ ?_)
 refine ⟨F, [iv ((k : Int) + 1), iv 31, iv 1, iv 2, iv note0.view, iv note0.seq] ++ (digC note0.dig ++ ([.slice A1 (([wshA, wshB]).take 1).length c1, iv note0.ans.err, s0, iv note0.ans.epoch, s0, iv note0.stamp, iv note0.node, iv note0.change.node, iv note0.change.view, iv note0.change.low, s0, s0, s0, s0, s0, iv note0.level, iv note0.place, s0, s0, s0])), rfl, ?_, ?_, ?_, ?_, ?_⟩
 exact hFr
 exact (hw.fr q3)
 exact (hR.fr q3)
 ·rw [show chapN ((k : Int) + 1) = ({ ({ note0 with from_ := 3, group := 1, epoch := 2 } : Nte) with kind := ((k : Int) + 1), from_ := 31, batch := (([wshA, wshB]).take 1) } : Nte) from by
    unfold chapN headN
    repeat (first | rw [if_pos (by omega)] | rw [if_neg (by omega)])
    all_goals first | rfl | (simp [note0, ans0]; done)]
  exact ⟨(by unfold NteI i64 note0 change0 ans0; (try unfold chgN); dsimp only; omega), _, _, _, _, _, _, _, _, _, _, _, _, _, _, _, _, _, _, _, _, _, _, rfl, (hs11.fr q5), gsn, gsn, gsn, gsn, gsn, gsn, gsn, gsn, gsn, gsn⟩
 exact hp
 refine go ?_
 refine Eq_ rfl rfl (go ?_)
 refine Cd (fun hc5 => ?_) fun hc5 => ?_
 refine go ?_
 refine Fd_ 44 fld38_10 rfl rfl ?_
 refine wl_hstore1 (i := 0) rfl rfl hp rfl sz3 (Nat.lt_of_lt_of_le (Nat.lt_succ_self _) leB_) rfl ?_
 rintro w13 hp13 hC13
 replace hFr:=hFr.fz hC13
 replace q3:=q3.fz hC13
 replace hp:=hp13
 refine go ?_
 refine Fd_ 43 fld38_9 rfl rfl ?_
 refine wl_hstore1 (i := 0) rfl rfl hp rfl sz3 (Nat.lt_of_lt_of_le (Nat.lt_succ_self _) leB_) rfl ?_
 rintro w14 hp14 hC14
 replace hFr:=hFr.fz hC14
 replace q3:=q3.fz hC14
 replace hp:=hp14
 refine go ?_
 refine wl_bytesLit (xs := [.const (.int .u8 48), .const (.int .u8 49), .const (.int .u8 50), .const (.int .u8 51), .const (.int .u8 52), .const (.int .u8 53), .const (.int .u8 54), .const (.int .u8 55), .const (.int .u8 56), .const (.int .u8 57), .const (.int .u8 97), .const (.int .u8 98), .const (.int .u8 99), .const (.int .u8 100), .const (.int .u8 101), .const (.int .u8 102)]) (bs := [48, 49, 50, 51, 52, 53, 54, 55, 56, 57, 97, 98, 99, 100, 101, 102]) (by decide) (by decide) sl26 underlying5 rfl rfl rfl leB_ ?_
 rintro gb15 wb15 _ hs15 hE15
 have hsz16:=hp.chg.size
 obtain ⟨Fz16, hp16, hsub16, hnew16, hup16⟩ := hp.frz hE15
 replace hp:=hp16
 replace hFr:=(hFr.ext hE15).wid hsub16
 replace q3:=(q3.ext hE15).wid hsub16
 replace hs15:=hs15.frz hnew16
 refine wl_bsliceN (xs := [.const (iv 5), .const (iv 6), .const (iv 7), .const (iv 9)]) (l := [5, 6, 7, 9]) (by decide) sl27 rfl rfl rfl leB_ ?_
 rintro gb17 wb17 _ hs17 hE17
 have hsz18:=hp.chg.size
 obtain ⟨Fz18, hp18, hsub18, hnew18, hup18⟩ := hp.frz hE17
 replace hp:=hp18
 replace hFr:=(hFr.ext hE17).wid hsub18
 replace q3:=(q3.ext hE17).wid hsub18
 have q6:=(hs15.tk.ext hE17).wid hsub18
 replace hs17:=hs17.frz hnew18
 refine wl_builtS (ps := [(0, .const (iv 171)), (1, .tmp 31), (2, .const (iv 3)), (3, .tmp 32)]) (by decide) bld29 rfl rfl ?_
 refine Fd_ 39 fld38_8 rfl rfl ?_
 refine wl_hstore (i := 0) rfl rfl hp rfl sz29 leB_ (List.all_eq_true.1 rfl) ?_
 rintro w19 hp19 hC19
 replace hFr:=hFr.fz hC19
 replace q3:=q3.fz hC19
 replace q6:=q6.fz hC19
 have q7:=hs17.tk.fz hC19
 replace hp:=hp19
 refine gl ?_
 refine wk_drop [(1, .slice A1 ([wshA, wshB]).length c1), (2, pt gs2 0), (3, .slice A3 k c3), (4, iv ((k : Int) + 1)), (5, pt gs5 0)] ⟨rfl, rfl, rfl, rfl, rfl, trivial⟩ (hK _ _ ?_)
 refine ⟨Fz18, [iv ((k : Int) + 1), iv 3, iv 1, iv 2, iv note0.view, iv note0.seq] ++ (digC note0.dig ++ ([s0, iv 171, .slice (some ⟨gb15, 0, none⟩) ([48, 49, 50, 51, 52, 53, 54, 55, 56, 57, 97, 98, 99, 100, 101, 102] : List UInt8).length 16, iv 3, .slice (some ⟨gb17, 0, none⟩) ([5, 6, 7, 9] : List Int).length 4, iv 5, iv 31, iv note0.change.node, iv note0.change.view, iv note0.change.low, s0, s0, s0, s0, s0, iv note0.level, iv note0.place, s0, s0, s0])), rfl, ?_, ?_, ?_, ?_, ?_⟩
 exact hFr
 exact (hw.fr q3)
 exact (hR.fr q3)
 ·rw [show chapN ((k : Int) + 1) = ({ ({ note0 with from_ := 3, group := 1, epoch := 2 } : Nte) with kind := ((k : Int) + 1), ans.err := ({ err := 171, data := [48, 49, 50, 51, 52, 53, 54, 55, 56, 57, 97, 98, 99, 100, 101, 102], epoch := 3, nodes := [5, 6, 7, 9] } : Ans).err, ans.data := ({ err := 171, data := [48, 49, 50, 51, 52, 53, 54, 55, 56, 57, 97, 98, 99, 100, 101, 102], epoch := 3, nodes := [5, 6, 7, 9] } : Ans).data, ans.epoch := ({ err := 171, data := [48, 49, 50, 51, 52, 53, 54, 55, 56, 57, 97, 98, 99, 100, 101, 102], epoch := 3, nodes := [5, 6, 7, 9] } : Ans).epoch, ans.nodes := ({ err := 171, data := [48, 49, 50, 51, 52, 53, 54, 55, 56, 57, 97, 98, 99, 100, 101, 102], epoch := 3, nodes := [5, 6, 7, 9] } : Ans).nodes, stamp := 5, node := 31 } : Nte) from by
    unfold chapN headN
    repeat (first | rw [if_pos (by omega)] | rw [if_neg (by omega)])
    all_goals first | rfl | (simp [note0, ans0]; done)]
  exact ⟨(by unfold NteI i64 note0 change0 ans0; (try unfold chgN); dsimp only; omega), _, _, _, _, _, _, _, _, _, _, _, _, _, _, _, _, _, _, _, _, _, _, rfl, gsn, (hs15.fr q6), (hs17.fr q7), gsn, gsn, gsn, gsn, gsn, gsn, gsn, gsn⟩
 exact hp
 refine go ?_
 refine Eq_ rfl rfl (go ?_)
 refine Cd (fun hc6 => ?_) fun hc6 => ?_
 refine go ?_
 refine Fd_ 4 fld38_4 rfl rfl ?_
 refine wl_hstore1 (i := 0) rfl rfl hp rfl sz3 (Nat.lt_of_lt_of_le (Nat.lt_succ_self _) leB_) rfl ?_
 rintro w20 hp20 hC20
 replace hFr:=hFr.fz hC20
 replace q3:=q3.fz hC20
 replace hp:=hp20
 refine go ?_
 refine Fd_ 5 fld38_5 rfl rfl ?_
 refine wl_hstore1 (i := 0) rfl rfl hp rfl sz3 (Nat.lt_of_lt_of_le (Nat.lt_succ_self _) leB_) rfl ?_
 rintro w21 hp21 hC21
 replace hFr:=hFr.fz hC21
 replace q3:=q3.fz hC21
 replace hp:=hp21
 refine go ?_
 refine Fd_ 38 fld38_7 rfl rfl ?_
 refine wl_hstore1 (i := 0) rfl rfl hp rfl sz24 (Nat.lt_of_lt_of_le (Nat.lt_succ_self _) leB_) rfl ?_
 rintro w22 hp22 hC22
 replace hFr:=hFr.fz hC22
 replace q3:=q3.fz hC22
 replace hp:=hp22
 refine gl ?_
 refine wk_drop [(1, .slice A1 ([wshA, wshB]).length c1), (2, pt gs2 0), (3, .slice A3 k c3), (4, iv ((k : Int) + 1)), (5, pt gs5 0)] ⟨rfl, rfl, rfl, rfl, rfl, trivial⟩ (hK _ _ ?_)
 refine ⟨F, [iv ((k : Int) + 1), iv 3, iv 1, iv 2, iv 1, iv 300] ++ (digC note0.dig ++ ([.slice A1 ([wshA, wshB]).length c1, iv note0.ans.err, s0, iv note0.ans.epoch, s0, iv note0.stamp, iv note0.node, iv note0.change.node, iv note0.change.view, iv note0.change.low, s0, s0, s0, s0, s0, iv note0.level, iv note0.place, s0, s0, s0])), rfl, ?_, ?_, ?_, ?_, ?_⟩
 exact hFr
 exact (hw.fr q3)
 exact (hR.fr q3)
 ·rw [show chapN ((k : Int) + 1) = ({ ({ note0 with from_ := 3, group := 1, epoch := 2 } : Nte) with kind := ((k : Int) + 1), view := 1, seq := 300, batch := [wshA, wshB] } : Nte) from by
    unfold chapN headN
    repeat (first | rw [if_pos (by omega)] | rw [if_neg (by omega)])
    all_goals first | rfl | (simp [note0, ans0]; done)]
  exact t0_lChapter_ok
 exact hp
 refine go ?_
 refine Eq_ rfl rfl (go ?_)
 refine Cd (fun hc7 => ?_) fun hc7 => ?_
 refine go ?_
 refine Cd (fun hc8 => ?_) fun hc8 => ?_
 refine go ?_
 refine Fd_ 5 fld38_5 rfl rfl ?_
 refine wl_hstore1 (i := 0) rfl rfl hp rfl sz3 (Nat.lt_of_lt_of_le (Nat.lt_succ_self _) leB_) rfl ?_
 rintro w23 hp23 hC23
 replace hFr:=hFr.fz hC23
 replace q3:=q3.fz hC23
 replace hp:=hp23
 refine go ?_
 have hcl:=fun w => lDigest_ok (w := w) (b := 1)
 refine Cl_ cl27 rfl (hcl _) ?_
 clear hcl
 rintro _ w24 ⟨rfl, hE24⟩
 replace hFr:=hFr.ext hE24
 replace q3:=q3.ext hE24
 replace hp:=hp.ext hE24
 refine Fd_ 6 fld38_6 rfl rfl ?_
 refine wl_hstore (i := 0) rfl rfl hp rfl sz23 leB_ (List.all_eq_true.1 rfl) ?_
 rintro w25 hp25 hC25
 replace hFr:=hFr.fz hC25
 replace q3:=q3.fz hC25
 replace hp:=hp25
 refine gl ?_
 refine wk_drop [(1, .slice A1 ([wshA, wshB]).length c1), (2, pt gs2 0), (3, .slice A3 k c3), (4, iv ((k : Int) + 1)), (5, pt gs5 0)] ⟨rfl, rfl, rfl, rfl, rfl, trivial⟩ (hK _ _ ?_)
 refine ⟨F, [iv ((k : Int) + 1), iv 3, iv 1, iv 2, iv note0.view, iv 7] ++ (digC (dgt 1) ++ ([s0, iv note0.ans.err, s0, iv note0.ans.epoch, s0, iv note0.stamp, iv note0.node, iv note0.change.node, iv note0.change.view, iv note0.change.low, s0, s0, s0, s0, s0, iv note0.level, iv note0.place, s0, s0, s0])), rfl, ?_, ?_, ?_, ?_, ?_⟩
 exact hFr
 exact (hw.fr q3)
 exact (hR.fr q3)
 ·rw [show chapN ((k : Int) + 1) = ({ ({ note0 with from_ := 3, group := 1, epoch := 2 } : Nte) with kind := ((k : Int) + 1), seq := 7, dig := (dgt 1) } : Nte) from by
    unfold chapN headN
    repeat (first | rw [if_pos (by omega)] | rw [if_neg (by omega)])
    all_goals first | rfl | (simp [note0, ans0]; done)]
  exact t1_lChapter_ok
 exact hp
 exact absurd hc7 hc8
 refine go ?_
 refine Eq_ rfl rfl (go ?_)
 refine Cd (fun hc9 => ?_) fun hc9 => ?_
 refine go ?_
 refine Fd_ 5 fld38_5 rfl rfl ?_
 refine wl_hstore1 (i := 0) rfl rfl hp rfl sz3 (Nat.lt_of_lt_of_le (Nat.lt_succ_self _) leB_) rfl ?_
 rintro w26 hp26 hC26
 replace hFr:=hFr.fz hC26
 replace q3:=q3.fz hC26
 replace hp:=hp26
 refine go ?_
 have hcl:=fun w => lDigest_ok (w := w) (b := 1)
 refine Cl_ cl27 rfl (hcl _) ?_
 clear hcl
 rintro _ w27 ⟨rfl, hE27⟩
 replace hFr:=hFr.ext hE27
 replace q3:=q3.ext hE27
 replace hp:=hp.ext hE27
 refine Fd_ 6 fld38_6 rfl rfl ?_
 refine wl_hstore (i := 0) rfl rfl hp rfl sz23 leB_ (List.all_eq_true.1 rfl) ?_
 rintro w28 hp28 hC28
 replace hFr:=hFr.fz hC28
 replace q3:=q3.fz hC28
 replace hp:=hp28
 refine gl ?_
 refine wk_drop [(1, .slice A1 ([wshA, wshB]).length c1), (2, pt gs2 0), (3, .slice A3 k c3), (4, iv ((k : Int) + 1)), (5, pt gs5 0)] ⟨rfl, rfl, rfl, rfl, rfl, trivial⟩ (hK _ _ ?_)
 refine ⟨F, [iv ((k : Int) + 1), iv 3, iv 1, iv 2, iv note0.view, iv 7] ++ (digC (dgt 1) ++ ([s0, iv note0.ans.err, s0, iv note0.ans.epoch, s0, iv note0.stamp, iv note0.node, iv note0.change.node, iv note0.change.view, iv note0.change.low, s0, s0, s0, s0, s0, iv note0.level, iv note0.place, s0, s0, s0])), rfl, ?_, ?_, ?_, ?_, ?_⟩
 exact hFr
 exact (hw.fr q3)
 exact (hR.fr q3)
 ·rw [show chapN ((k : Int) + 1) = ({ ({ note0 with from_ := 3, group := 1, epoch := 2 } : Nte) with kind := ((k : Int) + 1), seq := 7, dig := (dgt 1) } : Nte) from by
    unfold chapN headN
    repeat (first | rw [if_pos (by omega)] | rw [if_neg (by omega)])
    all_goals first | rfl | (simp [note0, ans0]; done)]
  exact t1_lChapter_ok
 exact hp
 refine go ?_
 refine Eq_ rfl rfl (go ?_)
 refine Cd (fun hc10 => ?_) fun hc10 => ?_
 refine go ?_
 refine Cd (fun hc11 => ?_) fun hc11 => ?_
 refine go ?_
 refine Fd_ 5 fld38_5 rfl rfl ?_
 refine wl_hstore1 (i := 0) rfl rfl hp rfl sz3 (Nat.lt_of_lt_of_le (Nat.lt_succ_self _) leB_) rfl ?_
 rintro w29 hp29 hC29
 replace hFr:=hFr.fz hC29
 replace q3:=q3.fz hC29
 replace hp:=hp29
 refine go ?_
 have hcl:=fun w => lDigest_ok (w := w) (b := 2)
 refine Cl_ cl27 rfl (hcl _) ?_
 clear hcl
 rintro _ w30 ⟨rfl, hE30⟩
 replace hFr:=hFr.ext hE30
 replace q3:=q3.ext hE30
 replace hp:=hp.ext hE30
 refine Fd_ 6 fld38_6 rfl rfl ?_
 refine wl_hstore (i := 0) rfl rfl hp rfl sz23 leB_ (List.all_eq_true.1 rfl) ?_
 rintro w31 hp31 hC31
 replace hFr:=hFr.fz hC31
 replace q3:=q3.fz hC31
 replace hp:=hp31
 refine gl ?_
 refine wk_drop [(1, .slice A1 ([wshA, wshB]).length c1), (2, pt gs2 0), (3, .slice A3 k c3), (4, iv ((k : Int) + 1)), (5, pt gs5 0)] ⟨rfl, rfl, rfl, rfl, rfl, trivial⟩ (hK _ _ ?_)
 refine ⟨F, [iv ((k : Int) + 1), iv 3, iv 1, iv 2, iv note0.view, iv 8] ++ (digC (dgt 2) ++ ([s0, iv note0.ans.err, s0, iv note0.ans.epoch, s0, iv note0.stamp, iv note0.node, iv note0.change.node, iv note0.change.view, iv note0.change.low, s0, s0, s0, s0, s0, iv note0.level, iv note0.place, s0, s0, s0])), rfl, ?_, ?_, ?_, ?_, ?_⟩
 exact hFr
 exact (hw.fr q3)
 exact (hR.fr q3)
 ·rw [show chapN ((k : Int) + 1) = ({ ({ note0 with from_ := 3, group := 1, epoch := 2 } : Nte) with kind := ((k : Int) + 1), seq := 8, dig := (dgt 2) } : Nte) from by
    unfold chapN headN
    repeat (first | rw [if_pos (by omega)] | rw [if_neg (by omega)])
    all_goals first | rfl | (simp [note0, ans0]; done)]
  exact t1_lChapter_ok
 exact hp
 exact absurd hc10 hc11
 refine go ?_
 refine Eq_ rfl rfl (go ?_)
 refine Cd (fun hc12 => ?_) fun hc12 => ?_
 refine go ?_
 refine Fd_ 5 fld38_5 rfl rfl ?_
 refine wl_hstore1 (i := 0) rfl rfl hp rfl sz3 (Nat.lt_of_lt_of_le (Nat.lt_succ_self _) leB_) rfl ?_
 rintro w32 hp32 hC32
 replace hFr:=hFr.fz hC32
 replace q3:=q3.fz hC32
 replace hp:=hp32
 refine go ?_
 have hcl:=fun w => lDigest_ok (w := w) (b := 2)
 refine Cl_ cl27 rfl (hcl _) ?_
 clear hcl
 rintro _ w33 ⟨rfl, hE33⟩
 replace hFr:=hFr.ext hE33
 replace q3:=q3.ext hE33
 replace hp:=hp.ext hE33
 refine Fd_ 6 fld38_6 rfl rfl ?_
 refine wl_hstore (i := 0) rfl rfl hp rfl sz23 leB_ (List.all_eq_true.1 rfl) ?_
 rintro w34 hp34 hC34
 replace hFr:=hFr.fz hC34
 replace q3:=q3.fz hC34
 replace hp:=hp34
 refine gl ?_
 refine wk_drop [(1, .slice A1 ([wshA, wshB]).length c1), (2, pt gs2 0), (3, .slice A3 k c3), (4, iv ((k : Int) + 1)), (5, pt gs5 0)] ⟨rfl, rfl, rfl, rfl, rfl, trivial⟩ (hK _ _ ?_)
 refine ⟨F, [iv ((k : Int) + 1), iv 3, iv 1, iv 2, iv note0.view, iv 8] ++ (digC (dgt 2) ++ ([s0, iv note0.ans.err, s0, iv note0.ans.epoch, s0, iv note0.stamp, iv note0.node, iv note0.change.node, iv note0.change.view, iv note0.change.low, s0, s0, s0, s0, s0, iv note0.level, iv note0.place, s0, s0, s0])), rfl, ?_, ?_, ?_, ?_, ?_⟩
 exact hFr
 exact (hw.fr q3)
 exact (hR.fr q3)
 ·rw [show chapN ((k : Int) + 1) = ({ ({ note0 with from_ := 3, group := 1, epoch := 2 } : Nte) with kind := ((k : Int) + 1), seq := 8, dig := (dgt 2) } : Nte) from by
    unfold chapN headN
    repeat (first | rw [if_pos (by omega)] | rw [if_neg (by omega)])
    all_goals first | rfl | (simp [note0, ans0]; done)]
  exact t1_lChapter_ok
 exact hp
 refine go ?_
 refine Eq_ rfl rfl (go ?_)
 refine Cd (fun hc13 => ?_) fun hc13 => ?_
 refine go ?_
 have hcl:=lChange_ok hp (node := 3) (by unfold i64; omega)
 refine Cl_ cl35 rfl hcl ?_
 clear hcl
 rintro _ w35 ⟨F35, cs35, rfl, hp35, hF35, hrd35⟩
 obtain ⟨hI35, A35_0, c35_0, A35_1, c35_1, A35_2, c35_2, rfl, hr35_0, hr35_1, hr35_2⟩ := hrd35
 replace hFr:=hFr.fr hF35
 replace q3:=q3.fr hF35
 replace hp:=hp35
 refine Fd_ 45 fld38_11 rfl rfl ?_
 refine wl_hstore (i := 0) rfl rfl hp rfl sz33 leB_ (List.all_eq_true.1 rfl) ?_
 rintro w36 hp36 hC36
 replace hFr:=hFr.fz hC36
 replace q3:=q3.fz hC36
 have q8:=hr35_0.tk.fz hC36
 replace hp:=hp36
 refine gl ?_
 refine wk_drop [(1, .slice A1 ([wshA, wshB]).length c1), (2, pt gs2 0), (3, .slice A3 k c3), (4, iv ((k : Int) + 1)), (5, pt gs5 0)] ⟨rfl, rfl, rfl, rfl, rfl, trivial⟩ (hK _ _ ?_)
 refine ⟨F35, [iv ((k : Int) + 1), iv 3, iv 1, iv 2, iv note0.view, iv note0.seq] ++ (digC note0.dig ++ ([s0, iv note0.ans.err, s0, iv note0.ans.epoch, s0, iv note0.stamp, iv note0.node, iv ((chgN 3).node), iv ((chgN 3).view), iv ((chgN 3).low), .slice A35_0 ((chgN 3).marks).length c35_0, .slice A35_1 ((chgN 3).p).length c35_1, .slice A35_2 ((chgN 3).q).length c35_2, s0, s0, iv note0.level, iv note0.place, s0, s0, s0])), rfl, ?_, ?_, ?_, ?_, ?_⟩
 exact hFr
 exact (hw.fr q3)
 exact (hR.fr q3)
 ·rw [show chapN ((k : Int) + 1) = ({ ({ note0 with from_ := 3, group := 1, epoch := 2 } : Nte) with kind := ((k : Int) + 1), change.node := (chgN 3).node, change.view := (chgN 3).view, change.low := (chgN 3).low, change.marks := (chgN 3).marks, change.p := (chgN 3).p, change.q := (chgN 3).q } : Nte) from by
    unfold chapN headN
    repeat (first | rw [if_pos (by omega)] | rw [if_neg (by omega)])
    all_goals first | rfl | (simp [note0, ans0]; done)]
  exact ⟨(by unfold NteI i64 note0 change0 ans0; (try unfold chgN); dsimp only; omega), _, _, _, _, _, _, _, _, _, _, _, _, _, _, _, _, _, _, _, _, _, _, rfl, gsn, gsn, gsn, (hr35_0.fr q8), (hr35_1.fr q8), (hr35_2.fr q8), gsn, gsn, gsn, gsn, gsn⟩
 exact hp
 refine go ?_
 refine Eq_ rfl rfl (go ?_)
 refine Cd (fun hc14 => ?_) fun hc14 => ?_
 refine go ?_
 refine Fd_ 4 fld38_4 rfl rfl ?_
 refine wl_hstore1 (i := 0) rfl rfl hp rfl sz3 (Nat.lt_of_lt_of_le (Nat.lt_succ_self _) leB_) rfl ?_
 rintro w37 hp37 hC37
 replace hFr:=hFr.fz hC37
 replace q3:=q3.fz hC37
 replace hp:=hp37
 refine go ?_
 refine Fd_ 44 fld38_10 rfl rfl ?_
 refine wl_hstore1 (i := 0) rfl rfl hp rfl sz3 (Nat.lt_of_lt_of_le (Nat.lt_succ_self _) leB_) rfl ?_
 rintro w38 hp38 hC38
 replace hFr:=hFr.fz hC38
 replace q3:=q3.fz hC38
 replace hp:=hp38
 refine go ?_
 have hcl:=fun w => lDigest_ok (w := w) (b := 3)
 refine Cl_ cl27 rfl (hcl _) ?_
 clear hcl
 rintro _ w39 ⟨rfl, hE39⟩
 replace hFr:=hFr.ext hE39
 replace q3:=q3.ext hE39
 replace hp:=hp.ext hE39
 refine Fd_ 6 fld38_6 rfl rfl ?_
 refine wl_hstore (i := 0) rfl rfl hp rfl sz23 leB_ (List.all_eq_true.1 rfl) ?_
 rintro w40 hp40 hC40
 replace hFr:=hFr.fz hC40
 replace q3:=q3.fz hC40
 replace hp:=hp40
 refine gl ?_
 refine wk_drop [(1, .slice A1 ([wshA, wshB]).length c1), (2, pt gs2 0), (3, .slice A3 k c3), (4, iv ((k : Int) + 1)), (5, pt gs5 0)] ⟨rfl, rfl, rfl, rfl, rfl, trivial⟩ (hK _ _ ?_)
 refine ⟨F, [iv ((k : Int) + 1), iv 3, iv 1, iv 2, iv 3, iv note0.seq] ++ (digC (dgt 3) ++ ([s0, iv note0.ans.err, s0, iv note0.ans.epoch, s0, iv note0.stamp, iv 4, iv note0.change.node, iv note0.change.view, iv note0.change.low, s0, s0, s0, s0, s0, iv note0.level, iv note0.place, s0, s0, s0])), rfl, ?_, ?_, ?_, ?_, ?_⟩
 exact hFr
 exact (hw.fr q3)
 exact (hR.fr q3)
 ·rw [show chapN ((k : Int) + 1) = ({ ({ note0 with from_ := 3, group := 1, epoch := 2 } : Nte) with kind := ((k : Int) + 1), view := 3, dig := (dgt 3), node := 4 } : Nte) from by
    unfold chapN headN
    repeat (first | rw [if_pos (by omega)] | rw [if_neg (by omega)])
    all_goals first | rfl | (simp [note0, ans0]; done)]
  exact t1_lChapter_ok
 exact hp
 refine go ?_
 refine Eq_ rfl rfl (go ?_)
 refine Cd (fun hc15 => ?_) fun hc15 => ?_
 refine go ?_
 refine Fd_ 4 fld38_4 rfl rfl ?_
 refine wl_hstore1 (i := 0) rfl rfl hp rfl sz3 (Nat.lt_of_lt_of_le (Nat.lt_succ_self _) leB_) rfl ?_
 rintro w41 hp41 hC41
 replace hFr:=hFr.fz hC41
 replace q3:=q3.fz hC41
 replace hp:=hp41
 refine go ?_
 have hcl:=lChange_ok hp (node := 1) (by unfold i64; omega)
 refine Cl_ cl35 rfl hcl ?_
 clear hcl
 rintro _ w42 ⟨F42, cs42, rfl, hp42, hF42, hrd42⟩
 obtain ⟨hI42, A42_0, c42_0, A42_1, c42_1, A42_2, c42_2, rfl, hr42_0, hr42_1, hr42_2⟩ := hrd42
 replace hFr:=hFr.fr hF42
 replace q3:=q3.fr hF42
 replace hp:=hp42
 have hcl:=lChange_ok hp (node := 3) (by unfold i64; omega)
 refine Cl_ cl35 rfl hcl ?_
 clear hcl
 rintro _ w43 ⟨F43, cs43, rfl, hp43, hF43, hrd43⟩
 obtain ⟨hI43, A43_0, c43_0, A43_1, c43_1, A43_2, c43_2, rfl, hr43_0, hr43_1, hr43_2⟩ := hrd43
 replace hFr:=hFr.fr hF43
 replace q3:=q3.fr hF43
 have q9:=hr42_0.tk.fr hF43
 replace hp:=hp43
 have hcl:=lChange_ok hp (node := 4) (by unfold i64; omega)
 refine Cl_ cl35 rfl hcl ?_
 clear hcl
 rintro _ w44 ⟨F44, cs44, rfl, hp44, hF44, hrd44⟩
 obtain ⟨hI44, A44_0, c44_0, A44_1, c44_1, A44_2, c44_2, rfl, hr44_0, hr44_1, hr44_2⟩ := hrd44
 replace hFr:=hFr.fr hF44
 replace q3:=q3.fr hF44
 replace q9:=q9.fr hF44
 have q10:=hr43_0.tk.fr hF44
 replace hp:=hp44
 refine wl_bsliceR (r := changeR) (css := [[iv ((chgN 1).node), iv ((chgN 1).view), iv ((chgN 1).low), .slice A42_0 ((chgN 1).marks).length c42_0, .slice A42_1 ((chgN 1).p).length c42_1, .slice A42_2 ((chgN 1).q).length c42_2], [iv ((chgN 3).node), iv ((chgN 3).view), iv ((chgN 3).low), .slice A43_0 ((chgN 3).marks).length c43_0, .slice A43_1 ((chgN 3).p).length c43_1, .slice A43_2 ((chgN 3).q).length c43_2], [iv ((chgN 4).node), iv ((chgN 4).view), iv ((chgN 4).low), .slice A44_0 ((chgN 4).marks).length c44_0, .slice A44_1 ((chgN 4).p).length c44_1, .slice A44_2 ((chgN 4).q).length c44_2]]) (l := [(chgN 1), (chgN 3), (chgN 4)]) (xs := [.tmp 66, .tmp 67, .tmp 68]) (by decide) sl34 rfl rfl (((RF.one (r := changeR) (Fz := F44) (cs := [iv ((chgN 1).node), iv ((chgN 1).view), iv ((chgN 1).low), .slice A42_0 ((chgN 1).marks).length c42_0, .slice A42_1 ((chgN 1).p).length c42_1, .slice A42_2 ((chgN 1).q).length c42_2]) (v := (chgN 1)) (⟨hI42, _, _, _, _, _, _, rfl, (hr42_0.fr q9), (hr42_1.fr q9), (hr42_2.fr q9)⟩)).append ((RF.one (r := changeR) (Fz := F44) (cs := [iv ((chgN 3).node), iv ((chgN 3).view), iv ((chgN 3).low), .slice A43_0 ((chgN 3).marks).length c43_0, .slice A43_1 ((chgN 3).p).length c43_1, .slice A43_2 ((chgN 3).q).length c43_2]) (v := (chgN 3)) (⟨hI43, _, _, _, _, _, _, rfl, (hr43_0.fr q10), (hr43_1.fr q10), (hr43_2.fr q10)⟩)).append (RF.one (r := changeR) (Fz := F44) (cs := [iv ((chgN 4).node), iv ((chgN 4).view), iv ((chgN 4).low), .slice A44_0 ((chgN 4).marks).length c44_0, .slice A44_1 ((chgN 4).p).length c44_1, .slice A44_2 ((chgN 4).q).length c44_2]) (v := (chgN 4)) (⟨hI44, _, _, _, _, _, _, rfl, hr44_0, hr44_1, hr44_2⟩)))) : RF changeR F44 _ [[iv ((chgN 1).node), iv ((chgN 1).view), iv ((chgN 1).low), .slice A42_0 ((chgN 1).marks).length c42_0, .slice A42_1 ((chgN 1).p).length c42_1, .slice A42_2 ((chgN 1).q).length c42_2], [iv ((chgN 3).node), iv ((chgN 3).view), iv ((chgN 3).low), .slice A43_0 ((chgN 3).marks).length c43_0, .slice A43_1 ((chgN 3).p).length c43_1, .slice A43_2 ((chgN 3).q).length c43_2], [iv ((chgN 4).node), iv ((chgN 4).view), iv ((chgN 4).low), .slice A44_0 ((chgN 4).marks).length c44_0, .slice A44_1 ((chgN 4).p).length c44_1, .slice A44_2 ((chgN 4).q).length c44_2]] [(chgN 1), (chgN 3), (chgN 4)]) rfl (by simp) leB_ ?_
 rintro gb45 wb45 hgb45 hs45 hE45
 obtain ⟨Fz45, hp45, hsub45, hnew45, _⟩ := hp.frz hE45
 replace hp:=hp45
 replace hs45:=hs45.mono (fun b hb h => h.elim (fun x => hsub45 b x.1) (fun e => hnew45 b (by rw [e, hgb45]; exact Nat.le_refl _) hb))
 replace hFr:=(hFr.ext hE45).wid hsub45
 replace q3:=(q3.ext hE45).wid hsub45
 refine Fd_ 51 fld38_12 rfl rfl ?_
 refine wl_hstore1 (i := 0) rfl rfl hp rfl sz34 (Nat.lt_of_lt_of_le (Nat.lt_succ_self _) leB_) rfl ?_
 rintro w46 hp46 hC46
 replace hFr:=hFr.fz hC46
 replace q3:=q3.fz hC46
 have q11:=hs45.tk.fz hC46
 replace hp:=hp46
 refine go ?_
 refine wl_builtS (ps := [(0, .const (iv 5))]) (by decide) bld66 rfl rfl ?_
 have hcl:=fun w => lDigest_ok (w := w) (b := 3)
 refine Cl_ cl27 rfl (hcl _) ?_
 clear hcl
 rintro _ w47 ⟨rfl, hE47⟩
 replace hFr:=hFr.ext hE47
 replace q3:=q3.ext hE47
 replace q11:=q11.ext hE47
 replace hp:=hp.ext hE47
 refine go ?_
 refine wl_builtS (ps := [(0, .const (iv 6)), (1, .tmp 72), (2, .tmp 73)]) (by decide) bld66 rfl rfl ?_
 refine wl_bsliceR (r := pickR) (css := [[iv 5] ++ (digC pick0.dig ++ ([s0])), [iv 6] ++ (digC (dgt 3) ++ ([.slice A1 ([wshA, wshB]).length c1]))]) (l := [({ pick0 with seq := 5 } : Pck), ({ seq := 6, dig := (dgt 3), batch := [wshA, wshB] } : Pck)]) (xs := [.tmp 71, .tmp 74]) (by decide) sl35 rfl rfl (((RF.one (r := pickR) (Fz := Fz45) (cs := [iv 5] ++ (digC pick0.dig ++ ([s0]))) (v := ({ pick0 with seq := 5 } : Pck)) (⟨(show PckI ({ pick0 with seq := 5 } : Pck) by unfold PckI i64; (try unfold pick0); (try dsimp only); omega), _, _, rfl, gsn⟩)).append (RF.one (r := pickR) (Fz := Fz45) (cs := [iv 6] ++ (digC (dgt 3) ++ ([.slice A1 ([wshA, wshB]).length c1]))) (v := ({ seq := 6, dig := (dgt 3), batch := [wshA, wshB] } : Pck)) (⟨(show PckI ({ seq := 6, dig := (dgt 3), batch := [wshA, wshB] } : Pck) by unfold PckI i64; (try unfold pick0); (try dsimp only); omega), _, _, rfl, (hw.fr q3)⟩))) : RF pickR Fz45 _ [[iv 5] ++ (digC pick0.dig ++ ([s0])), [iv 6] ++ (digC (dgt 3) ++ ([.slice A1 ([wshA, wshB]).length c1]))] [({ pick0 with seq := 5 } : Pck), ({ seq := 6, dig := (dgt 3), batch := [wshA, wshB] } : Pck)]) rfl (by simp) leB_ ?_
 rintro gb48 wb48 hgb48 hs48 hE48
 obtain ⟨Fz48, hp48, hsub48, hnew48, _⟩ := hp.frz hE48
 replace hp:=hp48
 replace hs48:=hs48.mono (fun b hb h => h.elim (fun x => hsub48 b x.1) (fun e => hnew48 b (by rw [e, hgb48]; exact Nat.le_refl _) hb))
 replace hFr:=(hFr.ext hE48).wid hsub48
 replace q3:=(q3.ext hE48).wid hsub48
 replace q11:=(q11.ext hE48).wid hsub48
 refine Fd_ 52 fld38_13 rfl rfl ?_
 refine wl_hstore1 (i := 0) rfl rfl hp rfl sz35 (Nat.lt_of_lt_of_le (Nat.lt_succ_self _) leB_) rfl ?_
 rintro w49 hp49 hC49
 replace hFr:=hFr.fz hC49
 replace q3:=q3.fz hC49
 replace q11:=q11.fz hC49
 have q12:=hs48.tk.fz hC49
 replace hp:=hp49
 refine gl ?_
 refine wk_drop [(1, .slice A1 ([wshA, wshB]).length c1), (2, pt gs2 0), (3, .slice A3 k c3), (4, iv ((k : Int) + 1)), (5, pt gs5 0)] ⟨rfl, rfl, rfl, rfl, rfl, trivial⟩ (hK _ _ ?_)
 refine ⟨Fz48, [iv ((k : Int) + 1), iv 3, iv 1, iv 2, iv 3, iv note0.seq] ++ (digC note0.dig ++ ([s0, iv note0.ans.err, s0, iv note0.ans.epoch, s0, iv note0.stamp, iv note0.node, iv note0.change.node, iv note0.change.view, iv note0.change.low, s0, s0, s0, .slice (some ⟨gb45, 0, none⟩) ([(chgN 1), (chgN 3), (chgN 4)] : List Chn).length 3, .slice (some ⟨gb48, 0, none⟩) ([({ pick0 with seq := 5 } : Pck), ({ seq := 6, dig := (dgt 3), batch := [wshA, wshB] } : Pck)] : List Pck).length 2, iv note0.level, iv note0.place, s0, s0, s0])), rfl, ?_, ?_, ?_, ?_, ?_⟩
 exact hFr
 exact (hw.fr q3)
 exact (hR.fr q3)
 ·rw [show chapN ((k : Int) + 1) = ({ ({ note0 with from_ := 3, group := 1, epoch := 2 } : Nte) with kind := ((k : Int) + 1), view := 3, changes := [(chgN 1), (chgN 3), (chgN 4)], picks := [({ pick0 with seq := 5 } : Pck), ({ seq := 6, dig := (dgt 3), batch := [wshA, wshB] } : Pck)] } : Nte) from by
    unfold chapN headN
    repeat (first | rw [if_pos (by omega)] | rw [if_neg (by omega)])
    all_goals first | rfl | (simp [note0, ans0]; done)]
  exact ⟨(by unfold NteI i64 note0 change0 ans0; (try unfold chgN); dsimp only; omega), _, _, _, _, _, _, _, _, _, _, _, _, _, _, _, _, _, _, _, _, _, _, rfl, gsn, gsn, gsn, gsn, gsn, gsn, (hs45.fr q11), (hs48.fr q12), gsn, gsn, gsn⟩
 exact hp
 refine go ?_
 refine Eq_ rfl rfl (go ?_)
 refine Cd (fun hc16 => ?_) fun hc16 => ?_
 refine go ?_
 refine Fd_ 5 fld38_5 rfl rfl ?_
 refine wl_hstore1 (i := 0) rfl rfl hp rfl sz3 (Nat.lt_of_lt_of_le (Nat.lt_succ_self _) leB_) rfl ?_
 rintro w50 hp50 hC50
 replace hFr:=hFr.fz hC50
 replace q3:=q3.fz hC50
 replace hp:=hp50
 refine go ?_
 have hcl:=fun w => lDigest_ok (w := w) (b := 2)
 refine Cl_ cl27 rfl (hcl _) ?_
 clear hcl
 rintro _ w51 ⟨rfl, hE51⟩
 replace hFr:=hFr.ext hE51
 replace q3:=q3.ext hE51
 replace hp:=hp.ext hE51
 refine Fd_ 6 fld38_6 rfl rfl ?_
 refine wl_hstore (i := 0) rfl rfl hp rfl sz23 leB_ (List.all_eq_true.1 rfl) ?_
 rintro w52 hp52 hC52
 replace hFr:=hFr.fz hC52
 replace q3:=q3.fz hC52
 replace hp:=hp52
 refine go ?_
 refine Fd_ 53 fld38_14 rfl rfl ?_
 refine wl_hstore1 (i := 0) rfl rfl hp rfl sz3 (Nat.lt_of_lt_of_le (Nat.lt_succ_self _) leB_) rfl ?_
 rintro w53 hp53 hC53
 replace hFr:=hFr.fz hC53
 replace q3:=q3.fz hC53
 replace hp:=hp53
 refine go ?_
 refine Fd_ 54 fld38_15 rfl rfl ?_
 refine wl_hstore1 (i := 0) rfl rfl hp rfl sz3 (Nat.lt_of_lt_of_le (Nat.lt_succ_self _) leB_) rfl ?_
 rintro w54 hp54 hC54
 replace hFr:=hFr.fz hC54
 replace q3:=q3.fz hC54
 replace hp:=hp54
 refine gl ?_
 refine wk_drop [(1, .slice A1 ([wshA, wshB]).length c1), (2, pt gs2 0), (3, .slice A3 k c3), (4, iv ((k : Int) + 1)), (5, pt gs5 0)] ⟨rfl, rfl, rfl, rfl, rfl, trivial⟩ (hK _ _ ?_)
 refine ⟨F, [iv ((k : Int) + 1), iv 3, iv 1, iv 2, iv note0.view, iv 8] ++ (digC (dgt 2) ++ ([s0, iv note0.ans.err, s0, iv note0.ans.epoch, s0, iv note0.stamp, iv note0.node, iv note0.change.node, iv note0.change.view, iv note0.change.low, s0, s0, s0, s0, s0, iv 1, iv 2, s0, s0, s0])), rfl, ?_, ?_, ?_, ?_, ?_⟩
 exact hFr
 exact (hw.fr q3)
 exact (hR.fr q3)
 ·rw [show chapN ((k : Int) + 1) = ({ ({ note0 with from_ := 3, group := 1, epoch := 2 } : Nte) with kind := ((k : Int) + 1), seq := 8, dig := (dgt 2), level := 1, place := 2 } : Nte) from by
    unfold chapN headN
    repeat (first | rw [if_pos (by omega)] | rw [if_neg (by omega)])
    all_goals first | rfl | (simp [note0, ans0]; done)]
  exact t1_lChapter_ok
 exact hp
 refine go ?_
 refine Eq_ rfl rfl (go ?_)
 refine Cd (fun hc17 => ?_) fun hc17 => ?_
 refine go ?_
 refine Fd_ 5 fld38_5 rfl rfl ?_
 refine wl_hstore1 (i := 0) rfl rfl hp rfl sz3 (Nat.lt_of_lt_of_le (Nat.lt_succ_self _) leB_) rfl ?_
 rintro w55 hp55 hC55
 replace hFr:=hFr.fz hC55
 replace q3:=q3.fz hC55
 replace hp:=hp55
 refine go ?_
 have hcl:=fun w => lDigest_ok (w := w) (b := 2)
 refine Cl_ cl27 rfl (hcl _) ?_
 clear hcl
 rintro _ w56 ⟨rfl, hE56⟩
 replace hFr:=hFr.ext hE56
 replace q3:=q3.ext hE56
 replace hp:=hp.ext hE56
 refine Fd_ 6 fld38_6 rfl rfl ?_
 refine wl_hstore (i := 0) rfl rfl hp rfl sz23 leB_ (List.all_eq_true.1 rfl) ?_
 rintro w57 hp57 hC57
 replace hFr:=hFr.fz hC57
 replace q3:=q3.fz hC57
 replace hp:=hp57
 refine go ?_
 have hcl:=fun w => lDigest_ok (w := w) (b := 5)
 refine Cl_ cl27 rfl (hcl _) ?_
 clear hcl
 rintro _ w58 ⟨rfl, hE58⟩
 replace hFr:=hFr.ext hE58
 replace q3:=q3.ext hE58
 replace hp:=hp.ext hE58
 have hcl:=fun w => lDigest_ok (w := w) (b := 6)
 refine Cl_ cl27 rfl (hcl _) ?_
 clear hcl
 rintro _ w59 ⟨rfl, hE59⟩
 replace hFr:=hFr.ext hE59
 replace q3:=q3.ext hE59
 replace hp:=hp.ext hE59
 refine wl_bsliceR (r := digR) (css := [digC (dgt 5), digC (dgt 6)]) (l := [(dgt 5), (dgt 6)]) (xs := [.tmp 89, .tmp 90]) (by decide) sl36 rfl rfl (((RF.one (r := digR) (Fz := F) (cs := digC (dgt 5)) (v := (dgt 5)) (rfl)).append (RF.one (r := digR) (Fz := F) (cs := digC (dgt 6)) (v := (dgt 6)) (rfl))) : RF digR F _ [digC (dgt 5), digC (dgt 6)] [(dgt 5), (dgt 6)]) rfl (by simp) leB_ ?_
 rintro gb60 wb60 hgb60 hs60 hE60
 obtain ⟨Fz60, hp60, hsub60, hnew60, _⟩ := hp.frz hE60
 replace hp:=hp60
 replace hs60:=hs60.mono (fun b hb h => h.elim (fun x => hsub60 b x.1) (fun e => hnew60 b (by rw [e, hgb60]; exact Nat.le_refl _) hb))
 replace hFr:=(hFr.ext hE60).wid hsub60
 replace q3:=(q3.ext hE60).wid hsub60
 refine Fd_ 55 fld38_16 rfl rfl ?_
 refine wl_hstore1 (i := 0) rfl rfl hp rfl sz36 (Nat.lt_of_lt_of_le (Nat.lt_succ_self _) leB_) rfl ?_
 rintro w61 hp61 hC61
 replace hFr:=hFr.fz hC61
 replace q3:=q3.fz hC61
 have q13:=hs60.tk.fz hC61
 replace hp:=hp61
 refine go ?_
 refine wl_bytesLit (xs := [.const (.int .u8 108), .const (.int .u8 101), .const (.int .u8 97), .const (.int .u8 102)]) (bs := [108, 101, 97, 102]) (by decide) (by decide) sl26 underlying5 rfl rfl rfl leB_ ?_
 rintro gb62 wb62 _ hs62 hE62
 have hsz63:=hp.chg.size
 obtain ⟨Fz63, hp63, hsub63, hnew63, hup63⟩ := hp.frz hE62
 replace hp:=hp63
 replace hFr:=(hFr.ext hE62).wid hsub63
 replace q3:=(q3.ext hE62).wid hsub63
 replace q13:=(q13.ext hE62).wid hsub63
 replace hs62:=hs62.frz hnew63
 refine Fd_ 56 fld38_17 rfl rfl ?_
 refine wl_hstore1 (i := 0) rfl rfl hp rfl sz26 (Nat.lt_of_lt_of_le (Nat.lt_succ_self _) leB_) rfl ?_
 rintro w64 hp64 hC64
 replace hFr:=hFr.fz hC64
 replace q3:=q3.fz hC64
 replace q13:=q13.fz hC64
 have q14:=hs62.tk.fz hC64
 replace hp:=hp64
 refine gl ?_
 refine wk_drop [(1, .slice A1 ([wshA, wshB]).length c1), (2, pt gs2 0), (3, .slice A3 k c3), (4, iv ((k : Int) + 1)), (5, pt gs5 0)] ⟨rfl, rfl, rfl, rfl, rfl, trivial⟩ (hK _ _ ?_)
 refine ⟨Fz63, [iv ((k : Int) + 1), iv 3, iv 1, iv 2, iv note0.view, iv 8] ++ (digC (dgt 2) ++ ([s0, iv note0.ans.err, s0, iv note0.ans.epoch, s0, iv note0.stamp, iv note0.node, iv note0.change.node, iv note0.change.view, iv note0.change.low, s0, s0, s0, s0, s0, iv note0.level, iv note0.place, .slice (some ⟨gb60, 0, none⟩) ([(dgt 5), (dgt 6)] : List Dig).length 2, .slice (some ⟨gb62, 0, none⟩) ([108, 101, 97, 102] : List UInt8).length 4, s0])), rfl, ?_, ?_, ?_, ?_, ?_⟩
 exact hFr
 exact (hw.fr q3)
 exact (hR.fr q3)
 ·rw [show chapN ((k : Int) + 1) = ({ ({ note0 with from_ := 3, group := 1, epoch := 2 } : Nte) with kind := ((k : Int) + 1), seq := 8, dig := (dgt 2), digs := [(dgt 5), (dgt 6)], data := [108, 101, 97, 102] } : Nte) from by
    unfold chapN headN
    repeat (first | rw [if_pos (by omega)] | rw [if_neg (by omega)])
    all_goals first | rfl | (simp [note0, ans0]; done)]
  exact ⟨(by unfold NteI i64 note0 change0 ans0; (try unfold chgN); dsimp only; omega), _, _, _, _, _, _, _, _, _, _, _, _, _, _, _, _, _, _, _, _, _, _, rfl, gsn, gsn, gsn, gsn, gsn, gsn, gsn, gsn, (hs60.fr q13), (hs62.fr q14), gsn⟩
 exact hp
 refine go ?_
 refine Eq_ rfl rfl (go ?_)
 refine Cd (fun hc18 => ?_) fun hc18 => ?_
 refine go ?_
 refine wl_bsliceN (xs := [.const (iv 5), .const (iv 6), .const (iv 7), .const (iv 9)]) (l := [5, 6, 7, 9]) (by decide) sl27 rfl rfl rfl leB_ ?_
 rintro gb65 wb65 _ hs65 hE65
 have hsz66:=hp.chg.size
 obtain ⟨Fz66, hp66, hsub66, hnew66, hup66⟩ := hp.frz hE65
 replace hp:=hp66
 replace hFr:=(hFr.ext hE65).wid hsub66
 replace q3:=(q3.ext hE65).wid hsub66
 replace hs65:=hs65.frz hnew66
 refine Fd_ 57 fld38_18 rfl rfl ?_
 refine wl_hstore1 (i := 0) rfl rfl hp rfl sz27 (Nat.lt_of_lt_of_le (Nat.lt_succ_self _) leB_) rfl ?_
 rintro w67 hp67 hC67
 replace hFr:=hFr.fz hC67
 replace q3:=q3.fz hC67
 have q15:=hs65.tk.fz hC67
 replace hp:=hp67
 refine gl ?_
 refine wk_drop [(1, .slice A1 ([wshA, wshB]).length c1), (2, pt gs2 0), (3, .slice A3 k c3), (4, iv ((k : Int) + 1)), (5, pt gs5 0)] ⟨rfl, rfl, rfl, rfl, rfl, trivial⟩ (hK _ _ ?_)
 refine ⟨Fz66, [iv ((k : Int) + 1), iv 3, iv 1, iv 2, iv note0.view, iv note0.seq] ++ (digC note0.dig ++ ([s0, iv note0.ans.err, s0, iv note0.ans.epoch, s0, iv note0.stamp, iv note0.node, iv note0.change.node, iv note0.change.view, iv note0.change.low, s0, s0, s0, s0, s0, iv note0.level, iv note0.place, s0, s0, .slice (some ⟨gb65, 0, none⟩) ([5, 6, 7, 9] : List Int).length 4])), rfl, ?_, ?_, ?_, ?_, ?_⟩
 exact hFr
 exact (hw.fr q3)
 exact (hR.fr q3)
 ·rw [show chapN ((k : Int) + 1) = ({ ({ note0 with from_ := 3, group := 1, epoch := 2 } : Nte) with kind := ((k : Int) + 1), nodes := [5, 6, 7, 9] } : Nte) from by
    unfold chapN headN
    repeat (first | rw [if_pos (by omega)] | rw [if_neg (by omega)])
    all_goals first | rfl | (simp [note0, ans0]; done)]
  exact ⟨(by unfold NteI i64 note0 change0 ans0; (try unfold chgN); dsimp only; omega), _, _, _, _, _, _, _, _, _, _, _, _, _, _, _, _, _, _, _, _, _, _, rfl, gsn, gsn, gsn, gsn, gsn, gsn, gsn, gsn, gsn, gsn, (hs65.fr q15)⟩
 exact hp
 refine go ?_
 refine Eq_ rfl rfl (go ?_)
 refine Cd (fun hc19 => ?_) fun hc19 => ?_
 refine go ?_
 refine Fd_ 38 fld38_7 rfl rfl ?_
 refine wl_hstore1 (i := 0) rfl rfl hp rfl sz24 (Nat.lt_of_lt_of_le (Nat.lt_succ_self _) leB_) rfl ?_
 rintro w68 hp68 hC68
 replace hFr:=hFr.fz hC68
 replace q3:=q3.fz hC68
 replace hp:=hp68
 refine gl ?_
 refine wk_drop [(1, .slice A1 ([wshA, wshB]).length c1), (2, pt gs2 0), (3, .slice A3 k c3), (4, iv ((k : Int) + 1)), (5, pt gs5 0)] ⟨rfl, rfl, rfl, rfl, rfl, trivial⟩ (hK _ _ ?_)
 refine ⟨F, [iv ((k : Int) + 1), iv 3, iv 1, iv 2, iv note0.view, iv note0.seq] ++ (digC note0.dig ++ ([.slice A1 ([wshA, wshB]).length c1, iv note0.ans.err, s0, iv note0.ans.epoch, s0, iv note0.stamp, iv note0.node, iv note0.change.node, iv note0.change.view, iv note0.change.low, s0, s0, s0, s0, s0, iv note0.level, iv note0.place, s0, s0, s0])), rfl, ?_, ?_, ?_, ?_, ?_⟩
 exact hFr
 exact (hw.fr q3)
 exact (hR.fr q3)
 ·rw [show chapN ((k : Int) + 1) = ({ ({ note0 with from_ := 3, group := 1, epoch := 2 } : Nte) with kind := ((k : Int) + 1), batch := [wshA, wshB] } : Nte) from by
    unfold chapN headN
    repeat (first | rw [if_pos (by omega)] | rw [if_neg (by omega)])
    all_goals first | rfl | (simp [note0, ans0]; done)]
  exact t0_lChapter_ok
 exact hp
 refine go ?_
 refine Fd_ 5 fld38_5 rfl rfl ?_
 refine wl_hstore1 (i := 0) rfl rfl hp rfl sz3 (Nat.lt_of_lt_of_le (Nat.lt_succ_self _) leB_) rfl ?_
 rintro w69 hp69 hC69
 replace hFr:=hFr.fz hC69
 replace q3:=q3.fz hC69
 replace hp:=hp69
 refine go ?_
 refine Fd_ 38 fld38_7 rfl rfl ?_
 refine wl_hstore1 (i := 0) rfl rfl hp rfl sz24 (Nat.lt_of_lt_of_le (Nat.lt_succ_self _) leB_) rfl ?_
 rintro w70 hp70 hC70
 replace hFr:=hFr.fz hC70
 replace q3:=q3.fz hC70
 replace hp:=hp70
 refine gl ?_
 refine wk_drop [(1, .slice A1 ([wshA, wshB]).length c1), (2, pt gs2 0), (3, .slice A3 k c3), (4, iv ((k : Int) + 1)), (5, pt gs5 0)] ⟨rfl, rfl, rfl, rfl, rfl, trivial⟩ (hK _ _ ?_)
 refine ⟨F, [iv ((k : Int) + 1), iv 3, iv 1, iv 2, iv note0.view, iv 6] ++ (digC note0.dig ++ ([.slice A1 ([wshA, wshB]).length c1, iv note0.ans.err, s0, iv note0.ans.epoch, s0, iv note0.stamp, iv note0.node, iv note0.change.node, iv note0.change.view, iv note0.change.low, s0, s0, s0, s0, s0, iv note0.level, iv note0.place, s0, s0, s0])), rfl, ?_, ?_, ?_, ?_, ?_⟩
 exact hFr
 exact (hw.fr q3)
 exact (hR.fr q3)
 ·rw [show chapN ((k : Int) + 1) = ({ ({ note0 with from_ := 3, group := 1, epoch := 2 } : Nte) with kind := ((k : Int) + 1), seq := 6, batch := [wshA, wshB] } : Nte) from by
    unfold chapN headN
    repeat (first | rw [if_pos (by omega)] | rw [if_neg (by omega)])
    all_goals first | rfl | (simp [note0, ans0]; done)]
  exact t0_lChapter_ok
 exact hp
 rintro _ wn ⟨F5, cs5, rfl, hFr, hw, hR, hn, hp⟩
 refine go ?_
 have hl5 : cs5.length = 58 := noteR.len hn
 have ho5:=ones5 hn
 replace hn:=RF.one (r := noteR) (Fz := F5) hn
 refine wl_hloadX cs5 (i := 0) (by decide) ag38 rfl hp rfl hl5 (by rw [List.drop_zero, List.take_of_length_le (Nat.le_of_eq hl5)]) ?_
 refine wl_oneOf (by decide) sl54 rfl rfl (by show cs5.toArray.size = 58; simpa using hl5) leB_ ?_
 rintro _ wo hOn hEo
 replace hFr:=hFr.ext hEo
 have q16:=hEo
 replace hp:=hp.ext hEo
 obtain ⟨gt, rfl, hat9⟩ := hOn
 refine wl_happend (i := 1) (m := 1) (size := 58) (news := cs5) (by decide) sl54 rfl rfl hp rfl (by rw [hl5]) (fun b hb => by cases hb; exact hat9) (by simp) ho5 (by omega) ?_
 rintro A9 c9 w9 hp9 hC9
 replace hFr:=hFr.fz hC9
 have q17:=hw.tk.ext q16
 replace q17:=q17.fz hC9
 replace hp:=hp9
 refine go ?_
 refine wl_add (by decide) rfl rfl (w64 (by omega) (by omega)) (gl ?_)
 refine wk_drop [(1, .slice A1 ([wshA, wshB]).length c1), (2, pt gs2 0), (3, .slice A9 (k + 1) c9), (4, iv (((k + 1) : Int) + 1))] ⟨rfl, rfl, rfl, rfl, trivial⟩ (hKL1 _ _ (m2 := 16 - (k + 1)) ?_ ?_)
 refine ⟨(k + 1), F5, A9, c9, (rows ++ [cs5]), rfl, ?_, ?_, ?_, ?_, ?_, rfl⟩
 omega
 exact hFr
 exact (hw.fr q17)
 rw [chapL_succ]; exact (hR.fr q17).append (hn.fr q17)
 rw [flat_snoc, List.append_nil]; exact hp.tail
 omega
 obtain rfl : k = 16 := by omega
 refine go ?_
 refine P1 results26 ?_
 obtain ⟨F8, hp8, hs8, hb8⟩ := hp.frzRow
 have hgs : GS noteR F8 _ A3 c3 (chapL 16) := OwnRow.gsRF (r := noteR) (hp.rowAt (i := 0) rfl) (hR.wid hs8) hb8
 exact ⟨_, rfl, F8, A3, c3, rfl, hp8.tail, hFr.wid hs8, hgs⟩
theorem chapL_getD {i : Nat} (h : i < 16) : (chapL 16).getD i note0 = chapN ((i : Int) + 1) := by
 rw [List.getD_eq_getElem?_getD, chapL_get h]; rfl
theorem chapL_pm {i : Nat} (h : i < 16) : PackMay ((chapL 16).getD i note0) := by
 rw [chapL_getD h]
 exact chapN_may _ (by omega) (by omega)
theorem packS_pm {n : Nte} (h : PackMay n) : packS n = (noteE n, 0) := if_pos h
theorem packS_no {n : Nte} (h : ¬ PackMay n) : packS n = ([], 2) := if_neg h
theorem unpack_pm {n : Nte} (h : PackMay n) : unpackS (packS n).1 = (n, 0) := by
 rw [packS_pm h]
 exact unpack_pack h
theorem pm_of {n : Nte} (h : (packS n).2 = 0) : PackMay n := Decidable.byContradiction fun hn => by
 rw [packS_no hn] at h
 exact absurd h (by decide)
theorem pm_few {n : Nte} (h : PackMay n) : n.changes.length * 96 ≤ 140737488355328 := by
 have h1 := read_own (may_fine h.1).1
 have h2 := changes_few h1
 rw [h.2] at h2
 omega
def awN : Nte := { note0 with kind := 12, from_ := 2, group := 1, epoch := 5, nodes := [5, 6, 7, 9] }
theorem aw_len : (packS ((chapL 16).getD 3 note0)).1.length = 43 := by decide +kernel
theorem aw_a : (packS ((chapL 16).getD 3 note0)).1.take 11 = [1, 4, 1, 3, 1, 1, 1, 2, 0, 1, 7] := by decide +kernel
theorem aw_c : (packS awN).1 = [1, 12, 1, 2, 1, 1, 1, 5, 1, 4, 1, 5, 1, 6, 1, 7, 1, 9] := by decide +kernel
set_option maxHeartbeats 40000000 in
theorem lAwake_ok   : Ret prog 19 #[] w (fun v w' => v = .bool true ∧ Ext w w') := by
 refine ret_of_wk func19 rfl ntmps19 leB_ ?_
 have hp:=HP.begin_ w
 refine go ?_
 have hcl:=lChapter_ok hp
 refine Cl_ cl26 rfl hcl ?_
 clear hcl
 rintro _ w1 ⟨F1, A1, c1, rfl, hp1, hF1, hs1⟩
 replace hp:=hp1
 refine go ?_
 refine wc_loop (fun L' w' mes => ∃ (i : Nat), ∃ (F : Nat → Prop), L' = [(1, .slice A1 (chapL 16).length c1), (2, iv (i : Int))] ∧ (i ≤ 16) ∧ (GS noteR F w' A1 c1 (chapL 16)) ∧ (HP w (fun _ => False) F w' []) ∧ 16 - i = mes) [(1, .slice A1 (chapL 16).length c1), (2, iv (0 : Int))] (16 - 0) (by
     refine ⟨0, F1, rfl, ?_, ?_, ?_, rfl⟩
     · omega
     · exact hs1
     · exact hp) ⟨rfl, rfl, trivial⟩ ?_
 rintro _ wr _ ⟨i, F, rfl, hi, hw, hp, rfl⟩ KL1 hKL1
 refine go ?_
 refine Ln_ underlying54 rfl ?_
 refine Ls_ rfl rfl (go ?_)
 refine Cd (fun hlt => ?_) fun hlt => ?_
 have hj : i < 16 := by rw [chapL_len] at hlt; omega
 have hpm:=chapL_pm hj
 refine go ?_
 obtain ⟨ae2, pe2_0, qe2_0, pe2_1, qe2_1, pe2_2, qe2_2, pe2_3, qe2_3, pe2_4, qe2_4, pe2_5, qe2_5, pe2_6, qe2_6, pe2_7, qe2_7, pe2_8, qe2_8, pe2_9, qe2_9, pe2_10, qe2_10, hAe2, hate2, hIe2, he2_0, he2_1, he2_2, he2_3, he2_4, he2_5, he2_6, he2_7, he2_8, he2_9, he2_10⟩ := noteR_el hw i (by rw [chapL_len]; exact hj)
 refine wl_idx0 (by decide) sl54 rfl rfl hAe2 i rfl (by rw [chapL_len]; exact hj) ?_
 refine wl_loadA (by decide) ag38 rfl hate2.at_ rfl ?_
 have hcl:=nPack_ok ⟨hIe2, _, _, _, _, _, _, _, _, _, _, _, _, _, _, _, _, _, _, _, _, _, _, rfl, he2_0, he2_1, he2_2, he2_3, he2_4, he2_5, he2_6, he2_7, he2_8, he2_9, he2_10⟩ (pm_few hpm)
 refine Cl_ cl14 rfl hcl ?_
 clear hcl
 rintro _ w3 ⟨A3, c3, rfl, ho3, hE3⟩
 replace ho3:=ho3.bs
 have hsz4:=hp.chg.size
 obtain ⟨Fz4, hp4, hsub4, hnew4, hup4⟩ := hp.frz hE3
 replace hp:=hp4
 have q0:=(hw.tk.ext hE3).wid hsub4
 replace ho3:=ho3.frz hnew4
 refine go ?_
 have hcl:=nUnpack_ok hp ho3
 refine Cl_ cl21 rfl hcl ?_
 clear hcl
 rintro _ wu28 ⟨Fu28, csu28, xu28, eu28, rfl, hpu28, hFu28, hrdu28, huu28⟩
 obtain ⟨hIu28, Au28_0, cu28_0, Au28_1, cu28_1, Au28_2, cu28_2, Au28_3, cu28_3, Au28_4, cu28_4, Au28_5, cu28_5, Au28_6, cu28_6, Au28_7, cu28_7, Au28_8, cu28_8, Au28_9, cu28_9, Au28_10, cu28_10, rfl, hru28_0, hru28_1, hru28_2, hru28_3, hru28_4, hru28_5, hru28_6, hru28_7, hru28_8, hru28_9, hru28_10⟩ := hrdu28
 replace q0:=q0.fr hFu28
 replace hp:=hpu28
 have hux : xu28 = ((chapL 16).getD i note0) := congrArg Prod.fst (huu28.trans (unpack_pm hpm))
 have hue : eu28 = 0 := congrArg Prod.snd (huu28.trans (unpack_pm hpm))
 refine go ?_
 refine wl_halloc (z := .agg #[iv 0, iv 0, iv 0, iv 0, iv 0, iv 0, .int .u8 0, .int .u8 0, .int .u8 0, .int .u8 0, .int .u8 0, .int .u8 0, .int .u8 0, .int .u8 0, .int .u8 0, .int .u8 0, .int .u8 0, .int .u8 0, .int .u8 0, .int .u8 0, .int .u8 0, .int .u8 0, .int .u8 0, .int .u8 0, .int .u8 0, .int .u8 0, .int .u8 0, .int .u8 0, .int .u8 0, .int .u8 0, .int .u8 0, .int .u8 0, .int .u8 0, .int .u8 0, .int .u8 0, .int .u8 0, .int .u8 0, .int .u8 0, s0, iv 0, s0, iv 0, s0, iv 0, iv 0, iv 0, iv 0, iv 0, s0, s0, s0, s0, s0, iv 0, iv 0, s0, s0, s0]) (by decide) (by kernel_rfl) hp ?_
 rintro gs5 w5 hp5 hE5
 replace q0:=q0.ext hE5
 have q1:=hE5
 replace hp:=hp5
 refine wl_hstore (i := 0) rfl rfl hp rfl sz38 leB_ (List.all_eq_true.1 rfl) ?_
 rintro w6 hp6 hC6
 replace q0:=q0.fz hC6
 have q2:=hru28_0.tk.ext q1
 replace q2:=q2.fz hC6
 replace hp:=hp6
 refine go ?_
 by_cases hq1 : (packS ((chapL 16).getD i note0)).2 ≠ 0
 exact absurd (congrArg Prod.snd (packS_pm hpm)) hq1
 by_cases hq2 : eu28 ≠ 0
 exact absurd hue hq2
 obtain ⟨aw10, pw10_0, qw10_0, pw10_1, qw10_1, pw10_2, qw10_2, pw10_3, qw10_3, pw10_4, qw10_4, pw10_5, qw10_5, pw10_6, qw10_6, pw10_7, qw10_7, pw10_8, qw10_8, pw10_9, qw10_9, pw10_10, qw10_10, hAw10, hatw10, hIw10, hw10_0, hw10_1, hw10_2, hw10_3, hw10_4, hw10_5, hw10_6, hw10_7, hw10_8, hw10_9, hw10_10⟩ := noteR_el (hw.fr q0) i (by rw [chapL_len]; exact hj)
 apply wdL [.eq _,.eq (.bool false),.eq (.bool false),.eq _,.eq (.bool false),.eq (.bool false),.eq (.bool false),.eq _,.eq _,.eq _,.eq _,.eq _,.eq _,.eq _,.eq _]
 refine ⟨?_,?_,?_,?_,?_,?_,?_,?_,?_,?_,?_,?_,?_,?_,?_,trivial⟩<;>intro F wF hER hk
 exact dm (hk.qi 4)
 have e31:=hk.qe 0
 refine Ne_ e31 rfl ?_
 exact wl_re (k := 32) (v := .bool false) rfl (congrArg Value.bool (decide_eq_false (by first | exact hq1 | omega | simpa using hq1))) qy
 exact dm (hk.qe 1)
 have e6:=hk.qi 6
 have e33:=hk.qe 2
 refine wl_gyes rfl e33 ?_
 exact Mv_ e6 qz
 have e34:=hk.qe 3
 have e33:=hk.qe 2
 refine wl_gyes rfl e33 ?_
 refine Ne_ e34 rfl ?_
 exact wl_re (k := 35) (v := .bool false) rfl (congrArg Value.bool (decide_eq_false (by first | exact hq2 | omega | simpa using hq2))) qy
 have e33:=hk.qe 2
 have e35:=hk.qe 4
 exact Pk_ e33 e35 qz
 exact dm (hk.qe 5)
 have e5:=hk.qi 5
 have e37:=hk.qe 6
 refine wl_gyes rfl e37 ?_
 exact Hx_ ([iv xu28.kind, iv xu28.from_, iv xu28.group, iv xu28.epoch, iv xu28.view, iv xu28.seq] ++ (digC xu28.dig ++ ([.slice Au28_0 xu28.batch.length cu28_0, iv xu28.ans.err, .slice Au28_1 xu28.ans.data.length cu28_1, iv xu28.ans.epoch, .slice Au28_2 xu28.ans.nodes.length cu28_2, iv xu28.stamp, iv xu28.node, iv xu28.change.node, iv xu28.change.view, iv xu28.change.low, .slice Au28_3 xu28.change.marks.length cu28_3, .slice Au28_4 xu28.change.p.length cu28_4, .slice Au28_5 xu28.change.q.length cu28_5, .slice Au28_6 xu28.changes.length cu28_6, .slice Au28_7 xu28.picks.length cu28_7, iv xu28.level, iv xu28.place, .slice Au28_8 xu28.digs.length cu28_8, .slice Au28_9 xu28.data.length cu28_9, .slice Au28_10 xu28.nodes.length cu28_10]))) 0 ag38 e5 (hp.ext hER) rfl rfl rfl qz
 have e1:=hk.qi 1
 have e37:=hk.qe 6
 refine wl_gyes rfl e37 ?_
 exact Mv_ e1 qz
 have e2:=hk.qi 2
 have e37:=hk.qe 6
 refine wl_gyes rfl e37 ?_
 exact Mv_ e2 qz
 have e39:=hk.qe 8
 have e40:=hk.qe 9
 have e37:=hk.qe 6
 refine wl_gyes rfl e37 ?_
 exact wl_idx0 (by decide) sl54 e39 e40 hAw10 i rfl (by rw [chapL_len]; exact hj) qz
 have e41:=hk.qe 10
 have e37:=hk.qe 6
 refine wl_gyes rfl e37 ?_
 exact wl_loadA (by decide) ag38 e41 (hatw10.ext hER).at_ rfl qz
 have e38:=hk.qe 7
 have e42:=hk.qe 11
 have e37:=hk.qe 6
 refine wl_gyes rfl e37 ?_
 have hcl:=rSame_ok ⟨hIu28, _, _, _, _, _, _, _, _, _, _, _, _, _, _, _, _, _, _, _, _, _, _, rfl, ((hru28_0.fr q2).ext hER), ((hru28_1.fr q2).ext hER), ((hru28_2.fr q2).ext hER), ((hru28_3.fr q2).ext hER), ((hru28_4.fr q2).ext hER), ((hru28_5.fr q2).ext hER), ((hru28_6.fr q2).ext hER), ((hru28_7.fr q2).ext hER), ((hru28_8.fr q2).ext hER), ((hru28_9.fr q2).ext hER), ((hru28_10.fr q2).ext hER)⟩ ⟨hIw10, _, _, _, _, _, _, _, _, _, _, _, _, _, _, _, _, _, _, _, _, _, _, rfl, (hw10_0.ext hER), (hw10_1.ext hER), (hw10_2.ext hER), (hw10_3.ext hER), (hw10_4.ext hER), (hw10_5.ext hER), (hw10_6.ext hER), (hw10_7.ext hER), (hw10_8.ext hER), (hw10_9.ext hER), (hw10_10.ext hER)⟩
 refine Cl_ cl17 (by simp only [evs, ev, e38, e42]; first | done | rfl) hcl ?_
 clear hcl
 rintro _ w7 ⟨rfl, hE7⟩
 exact qz ⟨hE7, rfl⟩
 have e43:=hk.qe 12
 have e37:=hk.qe 6
 refine wl_gyes rfl e37 ?_
 first | exact Nd_ e43 qz | exact Nn_ e43 qz
 have e37:=hk.qe 6
 have e44:=hk.qe 13
 exact Pk_ e37 e44 qz
 intro F wD hED hini hdo
 refine wk_drop [(1, _), (2, _), (45, _)] ⟨di hini 1, di hini 2, dq hdo 14, trivial⟩ ?_
 clear hini hdo
 replace q0:=q0.ext hED
 replace hp:=hp.ext hED
 refine go ?_
 refine Cd (fun hq3 => ?_) fun hq3 => ?_
 exact absurd hux hq3
 refine go ?_
 refine wl_add (by decide) rfl rfl (w64 (by omega) (by omega)) (gl ?_)
 refine wk_drop [(1, .slice A1 (chapL 16).length c1), (2, iv ((i + 1) : Int))] ⟨rfl, rfl, trivial⟩ (hKL1 _ _ (m2 := 16 - (i + 1)) ?_ ?_)
 refine ⟨(i + 1), Fu28, rfl, ?_, ?_, ?_, rfl⟩
 omega
 exact (hw.fr q0)
 exact hp.tail
 omega
 refine go ?_
 obtain ⟨ae7, pe7_0, qe7_0, pe7_1, qe7_1, pe7_2, qe7_2, pe7_3, qe7_3, pe7_4, qe7_4, pe7_5, qe7_5, pe7_6, qe7_6, pe7_7, qe7_7, pe7_8, qe7_8, pe7_9, qe7_9, pe7_10, qe7_10, hAe7, hate7, hIe7, he7_0, he7_1, he7_2, he7_3, he7_4, he7_5, he7_6, he7_7, he7_8, he7_9, he7_10⟩ := noteR_el hw 3 (by rw [chapL_len]; decide)
 refine wl_idx0 (by decide) sl54 rfl rfl hAe7 3 rfl (by rw [chapL_len]; decide) ?_
 refine wl_loadA (by decide) ag38 rfl hate7.at_ rfl ?_
 have hcl:=nPack_ok ⟨hIe7, _, _, _, _, _, _, _, _, _, _, _, _, _, _, _, _, _, _, _, _, _, _, rfl, he7_0, he7_1, he7_2, he7_3, he7_4, he7_5, he7_6, he7_7, he7_8, he7_9, he7_10⟩ (pm_few (chapL_pm (by decide)))
 refine Cl_ cl14 rfl hcl ?_
 clear hcl
 rintro _ w8 ⟨A8, c8, rfl, ho8, hE8⟩
 replace ho8:=ho8.bs
 have hsz9:=hp.chg.size
 obtain ⟨Fz9, hp9, hsub9, hnew9, hup9⟩ := hp.frz hE8
 replace hp:=hp9
 replace ho8:=ho8.frz hnew9
 refine go ?_
 refine wl_bsliceN (xs := [.const (iv 5), .const (iv 6), .const (iv 7), .const (iv 9)]) (l := [5, 6, 7, 9]) (by decide) sl27 rfl rfl rfl leB_ ?_
 rintro gb10 wb10 _ hs10 hE10
 have hsz11:=hp.chg.size
 obtain ⟨Fz11, hp11, hsub11, hnew11, hup11⟩ := hp.frz hE10
 replace hp:=hp11
 have q3:=(ho8.tk.ext hE10).wid hsub11
 replace hs10:=hs10.frz hnew11
 refine wl_builtS (ps := [(0, .const (iv 12)), (1, .const (iv 2)), (2, .const (iv 1)), (3, .const (iv 5)), (18, .tmp 54)]) (by decide) bld38 rfl rfl ?_
 have hcl:=nPack_ok ⟨(show NteI ({ note0 with kind := 12, from_ := 2, group := 1, epoch := 5, nodes := [5, 6, 7, 9] } : Nte) by unfold NteI i64; first | omega | (simp only [note0, ans0, change0]; omega)), _, _, _, _, _, _, _, _, _, _, _, _, _, _, _, _, _, _, _, _, _, _, rfl, (GS.nil _ _ _ none 0), (GS.nil _ _ _ none 0), (GS.nil _ _ _ none 0), (GS.nil _ _ _ none 0), (GS.nil _ _ _ none 0), (GS.nil _ _ _ none 0), (GS.nil _ _ _ none 0), (GS.nil _ _ _ none 0), (GS.nil _ _ _ none 0), (GS.nil _ _ _ none 0), hs10⟩ (by decide)
 refine Cl_ cl14 rfl hcl ?_
 clear hcl
 rintro _ w12 ⟨A12, c12, rfl, ho12, hE12⟩
 replace ho12:=ho12.bs
 have hsz13:=hp.chg.size
 obtain ⟨Fz13, hp13, hsub13, hnew13, hup13⟩ := hp.frz hE12
 replace hp:=hp13
 replace q3:=(q3.ext hE12).wid hsub13
 replace ho12:=ho12.frz hnew13
 refine go ?_
 refine Ln_ underlying26 rfl ?_
 refine Eq_ rfl rfl ?_
 refine wl_re (k := 61) (v := .bool true) rfl (congrArg Value.bool (decide_eq_true (by have := aw_len; omega))) (go ?_)
 refine wl_to (r := byteR) (by decide) sl26 rfl rfl (ho8.fr q3) 11 rfl (by rw [aw_len]; decide) ?_
 intro hs14
 refine go ?_
 refine wl_bsliceB (xs := [.const (.int .u8 1), .const (.int .u8 4), .const (.int .u8 1), .const (.int .u8 3), .const (.int .u8 1), .const (.int .u8 1), .const (.int .u8 1), .const (.int .u8 2), .const (.int .u8 0), .const (.int .u8 1), .const (.int .u8 7)]) (bs := ([1, 4, 1, 3, 1, 1, 1, 2, 0, 1, 7] : List UInt8)) (by decide) sl26 rfl rfl rfl leB_ _ (Nat.le_refl _) ?_
 rintro gb15 wb15 hgb15 hs15 hE15
 replace hs15:=hs15.bs
 have hsz16:=hp.chg.size
 obtain ⟨Fz16, hp16, hsub16, hnew16, hup16⟩ := hp.frz hE15
 replace hp:=hp16
 have q4:=(ho12.tk.ext hE15).wid hsub16
 replace hs15:=hs15.frz hnew16
 refine go ?_
 have hcl:=eqBytes_ok (hs14.fr q4) hs15
 refine Cl_ cl16 rfl hcl ?_
 clear hcl
 rintro _ w17 ⟨rfl, hE17⟩
 replace q4:=q4.ext hE17
 replace hp:=hp.ext hE17
 refine wl_re (k := 66) (v := .bool true) rfl (congrArg Value.bool (decide_eq_true (by exact aw_a))) (go ?_)
 refine wl_bsliceB (xs := [.const (.int .u8 1), .const (.int .u8 12), .const (.int .u8 1), .const (.int .u8 2), .const (.int .u8 1), .const (.int .u8 1), .const (.int .u8 1), .const (.int .u8 5), .const (.int .u8 1), .const (.int .u8 4), .const (.int .u8 1), .const (.int .u8 5), .const (.int .u8 1), .const (.int .u8 6), .const (.int .u8 1), .const (.int .u8 7), .const (.int .u8 1), .const (.int .u8 9)]) (bs := ([1, 12, 1, 2, 1, 1, 1, 5, 1, 4, 1, 5, 1, 6, 1, 7, 1, 9] : List UInt8)) (by decide) sl26 rfl rfl rfl leB_ _ (Nat.le_refl _) ?_
 rintro gb18 wb18 hgb18 hs18 hE18
 replace hs18:=hs18.bs
 have hsz19:=hp.chg.size
 obtain ⟨Fz19, hp19, hsub19, hnew19, hup19⟩ := hp.frz hE18
 replace hp:=hp19
 replace q4:=(q4.ext hE18).wid hsub19
 replace hs18:=hs18.frz hnew19
 refine go ?_
 have hcl:=eqBytes_ok (ho12.fr q4) hs18
 refine Cl_ cl16 rfl hcl ?_
 clear hcl
 rintro _ w20 ⟨rfl, hE20⟩
 replace hp:=hp.ext hE20
 refine wl_re (k := 71) (v := .bool true) rfl (congrArg Value.bool (decide_eq_true (by exact aw_c))) (go ?_)
 refine P1 results19 ?_
 exact ⟨_, rfl, rfl, hp.chg⟩
theorem unlike_eq {n m : Nte} (h1 : ¬ (packS n).2 ≠ 0) (h2 : ¬ (packS m).2 ≠ 0) : decide ((packS n).1 = (packS m).1) = decide (n = m) := by
 have p1 := unpack_pm (pm_of (Decidable.not_not.1 h1))
 have p2 := unpack_pm (pm_of (Decidable.not_not.1 h2))
 refine decide_eq_decide.2 ⟨fun h => ?_, fun h => by rw [h]⟩
 rw [h] at p1
 exact (congrArg Prod.fst (p1.symm.trans p2))
set_option maxHeartbeats 40000000 in
theorem noteUnlike_ok {csn : List Value} {n : Nte} {Sn : Nat → Prop} {csm : List Value} {m : Nte} {Sm : Nat → Prop} (hn : noteR.rd Sn w csn n) (hm : noteR.rd Sm w csm m) (hch : n.changes.length * 96 ≤ 140737488355328) (hcm : m.changes.length * 96 ≤ 140737488355328) : Ret prog 6 #[.agg csn.toArray, .agg csm.toArray] w (fun v w' => v = .bool true ∧ Ext w w') := by
 obtain ⟨hIn, An0, cn0, An1, cn1, An2, cn2, An3, cn3, An4, cn4, An5, cn5, An6, cn6, An7, cn7, An8, cn8, An9, cn9, An10, cn10, rfl, hn0, hn1, hn2, hn3, hn4, hn5, hn6, hn7, hn8, hn9, hn10⟩ := hn
 obtain ⟨hIm, Am0, cm0, Am1, cm1, Am2, cm2, Am3, cm3, Am4, cm4, Am5, cm5, Am6, cm6, Am7, cm7, Am8, cm8, Am9, cm9, Am10, cm10, rfl, hm0, hm1, hm2, hm3, hm4, hm5, hm6, hm7, hm8, hm9, hm10⟩ := hm
 have mhn0:=hn0.mx
 have mhn1:=hn1.mx
 have mhn2:=hn2.mx
 have mhn3:=hn3.mx
 have mhn4:=hn4.mx
 have mhn5:=hn5.mx
 have mhn6:=hn6.mx
 have mhn7:=hn7.mx
 have mhn8:=hn8.mx
 have mhn9:=hn9.mx
 have mhn10:=hn10.mx
 have mhm0:=hm0.mx
 have mhm1:=hm1.mx
 have mhm2:=hm2.mx
 have mhm3:=hm3.mx
 have mhm4:=hm4.mx
 have mhm5:=hm5.mx
 have mhm6:=hm6.mx
 have mhm7:=hm7.mx
 have mhm8:=hm8.mx
 have mhm9:=hm9.mx
 have mhm10:=hm10.mx
 refine ret_of_wk func6 rfl ntmps6 leB_ ?_
 have hp:=HP.begin_ w
 replace hn0:=hn0.now
 replace hn1:=hn1.now
 replace hn2:=hn2.now
 replace hn3:=hn3.now
 replace hn4:=hn4.now
 replace hn5:=hn5.now
 replace hn6:=hn6.now
 replace hn7:=hn7.now
 replace hn8:=hn8.now
 replace hn9:=hn9.now
 replace hn10:=hn10.now
 replace hm0:=hm0.now
 replace hm1:=hm1.now
 replace hm2:=hm2.now
 replace hm3:=hm3.now
 replace hm4:=hm4.now
 replace hm5:=hm5.now
 replace hm6:=hm6.now
 replace hm7:=hm7.now
 replace hm8:=hm8.now
 replace hm9:=hm9.now
 replace hm10:=hm10.now
 refine go ?_
 refine wl_hbox (by decide) rfl hp ?_
 rintro gs2 w1 hp1 hE1
 have q0:=hE1
 replace hp:=hp1
 refine wl_hbox (by decide) rfl hp ?_
 rintro gs3 w2 hp2 hE2
 replace q0:=q0.trans hE2
 replace hp:=hp2
 refine go ?_
 refine Hx_ ([iv n.kind, iv n.from_, iv n.group, iv n.epoch, iv n.view, iv n.seq] ++ (digC n.dig ++ ([.slice An0 n.batch.length cn0, iv n.ans.err, .slice An1 n.ans.data.length cn1, iv n.ans.epoch, .slice An2 n.ans.nodes.length cn2, iv n.stamp, iv n.node, iv n.change.node, iv n.change.view, iv n.change.low, .slice An3 n.change.marks.length cn3, .slice An4 n.change.p.length cn4, .slice An5 n.change.q.length cn5, .slice An6 n.changes.length cn6, .slice An7 n.picks.length cn7, iv n.level, iv n.place, .slice An8 n.digs.length cn8, .slice An9 n.data.length cn9, .slice An10 n.nodes.length cn10]))) 1 ag38 rfl hp rfl rfl rfl ?_
 have hcl:=nPack_ok ⟨hIn, _, _, _, _, _, _, _, _, _, _, _, _, _, _, _, _, _, _, _, _, _, _, rfl, (hn0.ext q0), (hn1.ext q0), (hn2.ext q0), (hn3.ext q0), (hn4.ext q0), (hn5.ext q0), (hn6.ext q0), (hn7.ext q0), (hn8.ext q0), (hn9.ext q0), (hn10.ext q0)⟩ (by omega)
 refine Cl_ cl14 rfl hcl ?_
 clear hcl
 rintro _ w3 ⟨A3, c3, rfl, ho3, hE3⟩
 replace ho3:=ho3.bs
 have hsz4:=hp.chg.size
 obtain ⟨Fz4, hp4, hsub4, hnew4, hup4⟩ := hp.frz hE3
 replace hp:=hp4
 have q1:=hn0.tk.ext q0
 replace q1:=(q1.ext hE3).wid hsub4
 replace ho3:=ho3.frz hnew4
 refine go ?_
 refine Hx_ ([iv m.kind, iv m.from_, iv m.group, iv m.epoch, iv m.view, iv m.seq] ++ (digC m.dig ++ ([.slice Am0 m.batch.length cm0, iv m.ans.err, .slice Am1 m.ans.data.length cm1, iv m.ans.epoch, .slice Am2 m.ans.nodes.length cm2, iv m.stamp, iv m.node, iv m.change.node, iv m.change.view, iv m.change.low, .slice Am3 m.change.marks.length cm3, .slice Am4 m.change.p.length cm4, .slice Am5 m.change.q.length cm5, .slice Am6 m.changes.length cm6, .slice Am7 m.picks.length cm7, iv m.level, iv m.place, .slice Am8 m.digs.length cm8, .slice Am9 m.data.length cm9, .slice Am10 m.nodes.length cm10]))) 0 ag38 rfl hp rfl rfl rfl ?_
 have hcl:=nPack_ok ⟨hIm, _, _, _, _, _, _, _, _, _, _, _, _, _, _, _, _, _, _, _, _, _, _, rfl, (hm0.fr q1), (hm1.fr q1), (hm2.fr q1), (hm3.fr q1), (hm4.fr q1), (hm5.fr q1), (hm6.fr q1), (hm7.fr q1), (hm8.fr q1), (hm9.fr q1), (hm10.fr q1)⟩ (by omega)
 refine Cl_ cl14 rfl hcl ?_
 clear hcl
 rintro _ w5 ⟨A5, c5, rfl, ho5, hE5⟩
 replace ho5:=ho5.bs
 have hsz6:=hp.chg.size
 obtain ⟨Fz6, hp6, hsub6, hnew6, hup6⟩ := hp.frz hE5
 replace hp:=hp6
 replace q1:=(q1.ext hE5).wid hsub6
 have q2:=(ho3.tk.ext hE5).wid hsub6
 replace ho5:=ho5.frz hnew6
 refine go ?_
 refine Ne_ rfl rfl (go ?_)
 refine Gs 21 (fun hg1 => ?_) fun hg1 => ?_
 refine go ?_
 refine wc_cond_t rfl (go ?_)
 refine Cl_ cl19 rfl (lAwake_ok) ?_
 rintro _ w7 ⟨rfl, hE7⟩
 replace hp:=hp.ext hE7
 refine go ?_
 refine P1 results6 ?_
 exact ⟨_, rfl, rfl, hp.chg⟩
 refine go ?_
 refine Ne_ rfl rfl (go ?_)
 refine Cd (fun hg2 => ?_) fun hg2 => ?_
 refine go ?_
 refine Cl_ cl19 rfl (lAwake_ok) ?_
 rintro _ w8 ⟨rfl, hE8⟩
 replace hp:=hp.ext hE8
 refine go ?_
 refine P1 results6 ?_
 exact ⟨_, rfl, rfl, hp.chg⟩
 refine go ?_
 by_cases hq : True
 apply wdL [.eq _,.eq _,.eq _,.eq _,.eq _,.eq _,.eq (.bool true),.eq (.bool true),.eq _,.eq _,.eq _]
 refine ⟨?_,?_,?_,?_,?_,?_,?_,?_,?_,?_,?_,trivial⟩<;>intro F wF hER hk
 exact dm (hk.qi 5)
 exact dm (hk.qi 7)
 have e26:=hk.qe 0
 have e27:=hk.qe 1
 have hcl:=eqBytes_ok ((ho3.fr q2).ext hER) (ho5.ext hER)
 refine Cl_ cl16 (by simp only [evs, ev, e26, e27]; first | done | rfl) hcl ?_
 clear hcl
 rintro _ w7 ⟨rfl, hE7⟩
 exact qz ⟨hE7, rfl⟩
 exact Hx_ ([iv n.kind, iv n.from_, iv n.group, iv n.epoch, iv n.view, iv n.seq] ++ (digC n.dig ++ ([.slice An0 n.batch.length cn0, iv n.ans.err, .slice An1 n.ans.data.length cn1, iv n.ans.epoch, .slice An2 n.ans.nodes.length cn2, iv n.stamp, iv n.node, iv n.change.node, iv n.change.view, iv n.change.low, .slice An3 n.change.marks.length cn3, .slice An4 n.change.p.length cn4, .slice An5 n.change.q.length cn5, .slice An6 n.changes.length cn6, .slice An7 n.picks.length cn7, iv n.level, iv n.place, .slice An8 n.digs.length cn8, .slice An9 n.data.length cn9, .slice An10 n.nodes.length cn10]))) 1 ag38 (hk.qi 2) (hp.ext hER) rfl rfl rfl qz
 exact Hx_ ([iv m.kind, iv m.from_, iv m.group, iv m.epoch, iv m.view, iv m.seq] ++ (digC m.dig ++ ([.slice Am0 m.batch.length cm0, iv m.ans.err, .slice Am1 m.ans.data.length cm1, iv m.ans.epoch, .slice Am2 m.ans.nodes.length cm2, iv m.stamp, iv m.node, iv m.change.node, iv m.change.view, iv m.change.low, .slice Am3 m.change.marks.length cm3, .slice Am4 m.change.p.length cm4, .slice Am5 m.change.q.length cm5, .slice Am6 m.changes.length cm6, .slice Am7 m.picks.length cm7, iv m.level, iv m.place, .slice Am8 m.digs.length cm8, .slice Am9 m.data.length cm9, .slice Am10 m.nodes.length cm10]))) 0 ag38 (hk.qi 3) (hp.ext hER) rfl rfl rfl qz
 have e29:=hk.qe 3
 have e30:=hk.qe 4
 have hcl:=rSame_ok ⟨hIn, _, _, _, _, _, _, _, _, _, _, _, _, _, _, _, _, _, _, _, _, _, _, rfl, ((hn0.fr q1).ext hER), ((hn1.fr q1).ext hER), ((hn2.fr q1).ext hER), ((hn3.fr q1).ext hER), ((hn4.fr q1).ext hER), ((hn5.fr q1).ext hER), ((hn6.fr q1).ext hER), ((hn7.fr q1).ext hER), ((hn8.fr q1).ext hER), ((hn9.fr q1).ext hER), ((hn10.fr q1).ext hER)⟩ ⟨hIm, _, _, _, _, _, _, _, _, _, _, _, _, _, _, _, _, _, _, _, _, _, _, rfl, ((hm0.fr q1).ext hER), ((hm1.fr q1).ext hER), ((hm2.fr q1).ext hER), ((hm3.fr q1).ext hER), ((hm4.fr q1).ext hER), ((hm5.fr q1).ext hER), ((hm6.fr q1).ext hER), ((hm7.fr q1).ext hER), ((hm8.fr q1).ext hER), ((hm9.fr q1).ext hER), ((hm10.fr q1).ext hER)⟩
 refine Cl_ cl17 (by simp only [evs, ev, e29, e30]; first | done | rfl) hcl ?_
 clear hcl
 rintro _ w7 ⟨rfl, hE7⟩
 exact qz ⟨hE7, rfl⟩
 have e28:=hk.qe 2
 have e31:=hk.qe 5
 refine wl_eqlb (by decide) bo4 e28 e31 ?_
 exact wl_re (k := 32) (v := .bool true) rfl (congrArg Value.bool (decide_eq_true (by exact unlike_eq hg1 hg2))) qy
 exact dm (hk.qe 6)
 have e33:=hk.qe 7
 refine wl_gyes rfl e33 ?_
 refine Cl_ cl19 (by simp only [evs]; first | done | rfl) (lAwake_ok) ?_
 rintro _ w7 ⟨rfl, hE7⟩
 exact qz ⟨hE7, rfl⟩
 have e33:=hk.qe 7
 have e34:=hk.qe 8
 exact Pk_ e33 e34 qz
 exact wl_assign (by decide) (hk.qe 9) qz
 intro F wD hED hini hdo
 refine wk_drop [(4, _)] ⟨dq hdo 10, trivial⟩ ?_
 clear hini hdo
 replace hp:=hp.ext hED
 refine go ?_
 refine P1 results6 ?_
 exact ⟨_, rfl, rfl, hp.chg⟩
 exact absurd trivial hq
end Go.Proofs.YtkdoomglflikkaaGreat
namespace Go.Proofs.YtkdoomglflikkaaGreat
open Go.ChangeShapes Go.WideShapes Go.ChangeAt Go.RowKit Go.Eng _root_.Go.Proofs.Tryz
set_option maxRecDepth 100000
variable {w0 w : World} {M0 Fz : Nat → Prop} {H : List It} {A : Option Addr} {c : Nat}
set_option maxRecDepth 100000 in
theorem noteUnlike_lifted (os : Os) (started : os.Started) (H : Type) (enc : TypeId × Value → H) :
    ReturnsInHanded {} Tryz.checked os 6 .any (Rows.noteUnlikeSpec.pre6 enc Tryz.prog Tryz.f6 Rows.noteUnlikeRow.domain false) (Rows.noteUnlikeSpec.post enc Tryz.prog Tryz.f6 false true false false) := by
  refine law_lifted (C := Tryz.checked) Tryz.own started (by kernel_rfl) Tryz.func6
    (ChangeSpec.witness6 (enc := enc) (C := Tryz.checked) false ⟨#[], #[.agg #[.int .i64 0, .int .i64 0, .int .i64 0, .int .i64 0, .int .i64 0, .int .i64 0, .int .u8 0, .int .u8 0, .int .u8 0, .int .u8 0, .int .u8 0, .int .u8 0, .int .u8 0, .int .u8 0, .int .u8 0, .int .u8 0, .int .u8 0, .int .u8 0, .int .u8 0, .int .u8 0, .int .u8 0, .int .u8 0, .int .u8 0, .int .u8 0, .int .u8 0, .int .u8 0, .int .u8 0, .int .u8 0, .int .u8 0, .int .u8 0, .int .u8 0, .int .u8 0, .int .u8 0, .int .u8 0, .int .u8 0, .int .u8 0, .int .u8 0, .int .u8 0, .slice none 0 0, .int .i64 0, .slice none 0 0, .int .i64 0, .slice none 0 0, .int .i64 0, .int .i64 0, .int .i64 0, .int .i64 0, .int .i64 0, .slice none 0 0, .slice none 0 0, .slice none 0 0, .slice none 0 0, .slice none 0 0, .int .i64 0, .int .i64 0, .slice none 0 0, .slice none 0 0, .slice none 0 0], .agg #[.int .i64 0, .int .i64 0, .int .i64 0, .int .i64 0, .int .i64 0, .int .i64 0, .int .u8 0, .int .u8 0, .int .u8 0, .int .u8 0, .int .u8 0, .int .u8 0, .int .u8 0, .int .u8 0, .int .u8 0, .int .u8 0, .int .u8 0, .int .u8 0, .int .u8 0, .int .u8 0, .int .u8 0, .int .u8 0, .int .u8 0, .int .u8 0, .int .u8 0, .int .u8 0, .int .u8 0, .int .u8 0, .int .u8 0, .int .u8 0, .int .u8 0, .int .u8 0, .int .u8 0, .int .u8 0, .int .u8 0, .int .u8 0, .int .u8 0, .int .u8 0, .slice none 0 0, .int .i64 0, .slice none 0 0, .int .i64 0, .slice none 0 0, .int .i64 0, .int .i64 0, .int .i64 0, .int .i64 0, .int .i64 0, .slice none 0 0, .slice none 0 0, .slice none 0 0, .slice none 0 0, .slice none 0 0, .int .i64 0, .int .i64 0, .slice none 0 0, .slice none 0 0, .slice none 0 0]], []⟩ 8 (by kernel_rfl) (by kernel_rfl) (by kernel_rfl) (by kernel_rfl))
    Tryz.laidOut (by kernel_rfl) rfl rfl Tryz.underlying4 ?_ ?_
  · intro ds hq
    obtain ⟨d0, t0, e0, q0⟩ := spec_len (show ds.length = 2 from hq)
    obtain ⟨d1, t1, e1, q1⟩ := spec_len (show t0.length = 1 from q0)
    have en := List.eq_nil_of_length_eq_zero (show t1.length = 0 from q1)
    subst en
    subst e1
    subst e0
    rfl
  · intro W base args ds h
    obtain ⟨l⟩ := args
    rw [Tryz.params6] at h
    obtain ⟨v0, l0, d0, ds0, rfl, h0, h⟩ := args_cons h
    obtain ⟨v1, l1, d1, ds1, rfl, h1, h⟩ := args_cons h
    obtain rfl := args_nil h
    clear h
    obtain ⟨cs0, x0, rfl, hn, hg0⟩ := arg_struct Tryz.underlying38 reads_Nte h0
    obtain ⟨cs1, x1, rfl, hm, hg1⟩ := arg_struct Tryz.underlying38 reads_Nte h1
    exact noteUnlike_ok hn hm hg0 hg1
theorem noteUnlike_holds : Rows.NoteUnlikeSaid :=
 OpenClaim.holds_of_wide 6 Tryz.f6 rfl rfl rfl rfl rfl rfl rfl ⟨rfl, rfl, rfl, rfl, rfl⟩ rfl rfl rfl rfl rfl (by kernel_rfl) Tryz.func6 (by kernel_rfl)
  (of_decide_eq_true (by kernel_rfl)) (by unfold Func.isWrapper; first | (rw [if_pos (by decide +kernel)]; kernel_rfl) | (rw [if_neg (by decide +kernel)]; exact ⟨rfl, rfl⟩))
  (fun os started H enc _ => noteUnlike_lifted os started H enc)
end Go.Proofs.YtkdoomglflikkaaGreat
