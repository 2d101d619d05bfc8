/- What each of these functions computes, for every argument that its theorem names; a part of what the proof of NotePacks stands on. -/
import Derived.Test.YtkdoomglflikkaaGreatQac
import Derived.Test.YtkdoomglflikkaaGreatQad
import Derived.Test.YtkdoomglflikkaaGreatQaj
import Derived.Test.YtkdoomglflikkaaGreatQak
import Derived.Test.YtkdoomglflikkaaGreatQat
import Derived.Test.YtkdoomglflikkaaGreatQau
import Derived.Test.YtkdoomglflikkaaGreatQbe
namespace Go.Proofs.YtkdoomglflikkaaGreat
open Go.RowKit Go.Eng Go.Eng _root_.Go.Proofs.Tryz
set_option maxRecDepth 100000
variable {w0 w : World} {M0 Fz : Nat → Prop} {H : List It} {A : Option Addr} {c : Nat}
set_option maxHeartbeats 40000000 in
theorem same1_ok {csp : List Value} {p : Pck} {Sp : Nat → Prop} {csq : List Value} {q : Pck} {Sq : Nat → Prop} (hp : pickR.rd Sp w csp p) (hq : pickR.rd Sq w csq q) : Ret prog 68 #[.agg csp.toArray, .agg csq.toArray] w (fun v w' => v = .bool (decide (p = q)) ∧ Ext w w') := by
 obtain ⟨hIp, Ap0, cp0, rfl, hp0⟩ := hp
 obtain ⟨hIq, Aq0, cq0, rfl, hq0⟩ := hq
 refine ret_of_wk func68 rfl ntmps68 leB_ ?_
 have hp:=HP.begin_ w
 refine so ?_
 refine Bx hp (h := fun gs2 w1 hp hE1 => ?_)
 replace hp:=hp.ay (itB gs2 66 ([iv p.seq] ++ (digC p.dig ++ ([.slice Ap0 p.batch.length cp0]))) :: _)
 refine Bx hp (h := fun gs3 w2 hp hE2 => ?_)
 replace hp:=hp.ay (itB gs3 66 ([iv q.seq] ++ (digC q.dig ++ ([.slice Aq0 q.batch.length cq0]))) :: _)
 refine so ?_
 refine Gs 10 ?_ ?_<;>intro hg1<;>refine so ?_
 refine wl_eqlK (m := 6) (p.dig = q.dig) (by decide) key23 eg23 rfl rfl (digC_fit _) (digC_fit _) digC_inj ?_
 refine so ?_
 refine Gs 17 ?_ ?_<;>intro hg2<;>refine so ?_
 refine Cx hp (sameBatch_ok hp0.tn hq0.tn) fun w3 hp hE3 => so ?_
 refine Pt ?_
 exact ⟨_, rfl, congrArg Value.bool (decide_eq_decide.2 (by rw [Pck_eq]; simp_all)), hp.chg⟩
 refine Pt ?_
 exact ⟨_, rfl, bool_f (by rw [Pck_eq]; simp_all), hp.chg⟩
 refine Pt ?_
 exact ⟨_, rfl, bool_f (by rw [Pck_eq]; simp_all), hp.chg⟩
theorem t0_gPick_ok {p : Prop} (h : p := by simp only [pickE, digE, List.length_append] at hlen ⊢; omega) : p := h
set_option maxHeartbeats 40000000 in
theorem gPick_ok {gw : Nat} {out : List UInt8} {pa : Addr} {pc : Addr} {cs : List Value} {x : Pck} (hp : HP w0 M0 Fz w (itB gw 89 [.slice A out.length c] :: itR 5 1 A out.length c (out.map bv) :: H)) (hatx : AtF Fz w pa cs) (hrd : pickR.rd Fz w cs x) (hok : pickOk x) (hlen : out.length + (pickE x).length ≤ 1000000) (hcap : AtF Fz w pc [.iface 87 (.pointer (some ⟨gw, 0, none⟩))]) : Ret prog 112 #[.pointer (some pa), .pointer (some pc)] w (WrP 5 89 gw w0 M0 Fz w H (out ++ pickE x)) := by
 obtain ⟨hIx, B0, d0, rfl, hx0⟩ := hrd
 refine ret_of_wk func112 rfl ntmps112 leB_ ?_
 refine so ?_
 refine wP 7 hp (h := fun wD hp hED => ?_)
 refine Ci rfl (gNum_ok hp (hatx.to.sub 0 1) hok.1 t0_gPick_ok) ?_
 rintro _ w1 ⟨A1, c1, hp, hF1⟩
 refine so ?_
 refine wP 7 hp (h := fun wD hp hED => ?_)
 refine Ci rfl (gDig_ok hp (hatx.to.sub 1 32) t0_gPick_ok) ?_
 rintro _ w2 ⟨A2, c2, hp, hF2⟩
 refine so ?_
 refine wP 7 hp (h := fun wD hp hED => ?_)
 refine Ci rfl (gBatch_ok hp (hatx.to.sub 33 1) hx0.to hok.2.2 t0_gPick_ok) ?_
 rintro _ w3 ⟨A3, c3, hp, hF3⟩
 refine so ?_
 refine wk_post0 (.inr rfl) results112  ?_
 rw [show out ++ pickE x = (((out ++ numE x.seq) ++ x.dig.l) ++ batchE x.batch) from by simp only [pickE, digE, ← List.append_assoc]]
 have hFr:=mv (S := Fz) (w := w) (w' := w3)
 exact ⟨_, rfl, _, _, hp.less hFr.sub, hFr.chg, fun _ h => h⟩
set_option maxHeartbeats 40000000 in
theorem rPick_ok {gr : Nat} {l : List UInt8} {bad : Bool} {X : List Value → It} {pX pc : Addr} (hp : HP w0 M0 Fz w (itB gr 103 [.slice A l.length c, .bool bad] :: X ([.int .i64 0] ++ (digC dig0 ++ ([.slice none 0 0]))) :: H)) (hS : Slot X pX 34) (hl : GS byteR Fz w A c l) (hcap : AtF Fz w pc [.iface 101 (.pointer (some ⟨gr, 0, none⟩))]) : Ret prog 112 #[.pointer (some pX), .pointer (some pc)] w (RdP 103 gr w0 M0 Fz w H X pickR pickP bad l) := by
 refine ret_of_wk func112 rfl ntmps112 leB_ ?_
 refine so ?_
 apply wdT 7 [.eq _,.eq _,.eq _,.eq _,.eq _,.eq _,.eq _]
 refine ⟨?_,?_,?_,?_,?_,?_,?_,trivial⟩<;>intro F wF hER hk
 exact Ld_ sc123 (hk.qi 1) (hcap.ext hER).head qz
 exact dm (hk.qi 0)
 exact Nc_ (hk.qe 1) qz
 have e5:=hk.qe 2
 refine Fe_ fld66_0 e5 ?_
 rw [add_zero']
 exact qz
 have e3:=hk.qe 0
 exact wl_makeFunc (first := [.tmp 3]) (cap := []) (by decide) (by simp only [evs, ev, e3]; rfl) rfl qz
 exact wl_nilCheckM (t := 101) (by decide) mt188 (hk.qe 4) qz
 exact dm (hk.qe 0)
 intro F wD hED hini hdo
 refine wl_drop [(0, _), (1, _), (6, _), (9, _)] ⟨di hini 0, di hini 1, dr hdo 3, dr hdo 6, trivial⟩ ?_
 clear hini hdo
 replace hp:=hp.ext hED
 refine Ci rfl (nNum_ok (X := (fun cs => X (([]) ++ (cs ++ (digC dig0 ++ ([s0])))))) (pX := pX) (v0 := 0) hp (hS.sub ([]) (digC dig0 ++ ([s0])) rfl) hl.to (by unfold i64; omega)) ?_
 rintro _ w1 ⟨F1, A1, c1, l1, b1, cs1, x1, hp, hF1, hl1, hrd1, hst1⟩
 obtain ⟨hI1, rfl⟩ := hrd1
 refine so ?_
 refine wP 7 hp (h := fun wD hp hED => ?_)
 refine Ci rfl (nDigest_ok (X := (fun cs => X (([iv x1]) ++ (cs ++ ([s0]))))) (pX := (pX.add 1)) (d0 := dig0) hp (hS.sub ([iv x1]) ([s0]) rfl) hl1.to) ?_
 rintro _ w2 ⟨F2, A2, c2, l2, b2, cs2, x2, hp, hF2, hl2, hrd2, hst2⟩
 obtain rfl := hrd2
 refine so ?_
 refine wP 7 hp (h := fun wD hp hED => ?_)
 refine Ci rfl (nBatch_ok (X := (fun cs => X (([iv x1] ++ (digC x2)) ++ (cs ++ ([]))))) (pX := (pX.add 33)) hp (hS.sub ([iv x1] ++ (digC x2)) ([]) rfl) hl2.to) ?_
 rintro _ w3 ⟨F3, A3, c3, l3, b3, cs3, x3, hp, hF3, hl3, hrd3, hst3⟩
 obtain ⟨B3, d3, rfl, hg3⟩ := hrd3
 refine so ?_
 refine wk_post0 (.inr rfl) results112  ?_
 exact ⟨_, rfl, _, A3, c3, l3, b3, _, ({ seq := x1, dig := x2, batch := x3 } : Pck), ((hp.up 1 rfl).up 1 rfl), mv, hl3, ⟨hI1, _, _, rfl, hg3⟩, StepP.bind hst1 (StepP.bind hst2 (StepP.bind hst3 (StepP.pure _ _)))⟩
theorem chapL_pm {i : Nat} (h : i < 16) : PackMay ((chapL 16).getD i note0) := by
 rw [chapL_getD h]
 exact chapN_may _ (by omega) (by omega)
end Go.Proofs.YtkdoomglflikkaaGreat
