/- What each of these functions computes, for every argument that its theorem names; a part of what the proof of NotePacks stands on. -/
import Derived.Test.YtkdoomglflikkaaGreatQac
import Derived.Test.YtkdoomglflikkaaGreatQad
import Derived.Test.YtkdoomglflikkaaGreatQae
import Derived.Test.YtkdoomglflikkaaGreatQag
import Derived.Test.YtkdoomglflikkaaGreatQah
import Derived.Test.YtkdoomglflikkaaGreatQaj
import Derived.Test.YtkdoomglflikkaaGreatQak
import Derived.Test.YtkdoomglflikkaaGreatQan
import Derived.Test.YtkdoomglflikkaaGreatQao
import Derived.Test.YtkdoomglflikkaaGreatQap
import Derived.Test.YtkdoomglflikkaaGreatQas
import Derived.Test.YtkdoomglflikkaaGreatQat
import Derived.Test.YtkdoomglflikkaaGreatQau
namespace Go.Proofs.YtkdoomglflikkaaGreat
open Go.RowKit Go.Eng Go.Eng _root_.Go.Proofs.Tryz
set_option maxRecDepth 100000
variable {w0 w : World} {M0 Fz : Nat → Prop} {H : List It} {A : Option Addr} {c : Nat}
set_option maxHeartbeats 40000000 in
theorem efC_ok {Aa : Option Addr} {ca : Nat} {a : List Chn} {Sa : Nat → Prop} {Ab : Option Addr} {cb : Nat} {b : List Chn} {Sb : Nat → Prop} (ha : GS changeR Sa w Aa ca a) (hb : GS changeR Sb w Ab cb b) : Ret prog 70 #[.slice Aa a.length ca, .slice Ab b.length cb, .func (.func 71) #[] #[]] w (fun v w' => v = .bool (decide (a = b)) ∧ Ext w w') := by
 have mha:=ha.mx
 have mhb:=hb.mx
 refine ret_of_wk func70 rfl ntmps70 leB_ ?_
 have hp:=HP.begin_ w
 refine so ?_
 refine Cd ?_ ?_<;>intro hne
 refine so ?_
 refine Pt ?_
 exact ⟨_, rfl, bool_f (fun e => hne (by rw [e])), hp.chg⟩
 have hll : a.length = b.length := by omega
 refine so ?_
 refine Lp [1, 2, 15, 16, 17] (fun L' w' mes => ∃ (k : Nat), L' = [(1, .slice Ab b.length cb), (2, .func (.func 71) #[] #[]), (15, .slice Aa a.length ca), (16, iv (a.length : Int)), (17, iv (k : Int))] ∧ (k ≤ a.length) ∧ (a.take k = b.take k) ∧ (GS changeR (fun b => b < w.heap.size) w' Aa ca a) ∧ (GS changeR (fun b => b < w.heap.size) w' Ab cb b) ∧ (HP w (fun _ => False) (fun b => b < w.heap.size) w' ([])) ∧ a.length - k = mes) (a.length - 0) ⟨0, rfl, by omega, by simp, ha.tn, hb.tn, hp, rfl⟩ ?_
 rintro _ wr _ ⟨k, rfl, hk, htk, ha, hb, hp, rfl⟩ KL1 hKL1
 refine so ?_
 refine Cd ?_ ?_<;>intro hlt
 refine so ?_
 obtain ⟨ae1, pe1_0, qe1_0, pe1_1, qe1_1, pe1_2, qe1_2, hAe1, hate1, hIe1, he1_0, he1_1, he1_2⟩ := changeR_el ha k (by omega)
 refine so ?_
 refine Alo hp (h := fun gs8 w2 hp hE2 => so ?_)
 refine Hs 0 hp (h := fun w3 hp hC3 => so ?_)
 obtain ⟨ae4, pe4_0, qe4_0, pe4_1, qe4_1, pe4_2, qe4_2, hAe4, hate4, hIe4, he4_0, he4_1, he4_2⟩ := changeR_el (hb.to (w' := w3)) k (by omega)
 refine so ?_
 refine Alo hp (h := fun gs9 w5 hp hE5 => ?_)
 refine Hs 0 hp (h := fun w6 hp hC6 => so ?_)
 have hcl:=nSameChange_ok ⟨hIe1, _, _, _, _, _, _, rfl, (he1_0.to (w' := w6)), (he1_1.to (w' := w6)), (he1_2.to (w' := w6))⟩ ⟨hIe4, _, _, _, _, _, _, rfl, (he4_0.to (w' := w6)), (he4_1.to (w' := w6)), (he4_2.to (w' := w6))⟩
 refine wl_callv (f := 71) (first := []) (cap := []) (by decide) cl71 rfl rfl hcl ?_
 clear hcl
 rintro _ w7 ⟨rfl, hE7⟩
 replace hp:=hp.ext hE7
 refine so ?_
 refine Cd ?_ ?_<;>intro hne2
 refine so ?_
 refine Pt ?_
 exact ⟨_, rfl, bool_f (fun e => hne2 (by rw [e])), hp.chg⟩
 replace hne2:=Decidable.not_not.1 hne2
 refine so ?_
 refine Kl [1, 2, 15, 16, 17] hKL1 (a.length - (k + 1)) ⟨(k + 1), rfl, by omega, ?_, ha.to, hb.to, hp.tail.tail, rfl⟩ (by omega)
 rw [take_snoc change0 (by omega : k < a.length), take_snoc change0 (by omega : k < b.length), htk, hne2]
 have hkl : k = a.length := by omega
 refine so ?_
 refine Pt ?_
 exact ⟨_, rfl, bool_t (by rw [hkl, List.take_length, hll, List.take_length] at htk; exact htk), hp.chg⟩
set_option maxHeartbeats 40000000 in
theorem rChange_ok {gr : Nat} {l : List UInt8} {bad : Bool} {X : List Value → It} {pX : Addr} (hp : HP w0 M0 Fz w (itB gr 103 [.slice A l.length c, .bool bad] :: X ([.int .i64 0, .int .i64 0, .int .i64 0, .slice none 0 0, .slice none 0 0, .slice none 0 0]) :: H)) (hS : Slot X pX 6) (hl : GS byteR Fz w A c l) : Ret prog 57 #[.iface 101 (.pointer (some ⟨gr, 0, none⟩)), .pointer (some pX)] w (RdP 103 gr w0 M0 Fz w H X changeR changeP bad l) := by
 refine ret_of_wk func57 rfl ntmps57 leB_ ?_
 refine so ?_
 refine Bx hp (h := fun gs2 wc1 hpc1 hEc1 => ?_)
 replace hp:=hpc1
 obtain ⟨Fzc, hpc2, hsc2, hcap⟩ := (hp.as_ (H' := itB gs2 123 [.iface 101 (pt gr 0)] :: _) rfl).frzBlk
 replace hp:=hpc2
 refine so ?_
 apply wdT 7 [.eq _,.eq _,.eq _,.eq _,.eq _,.eq _,.eq _]
 refine ⟨?_,?_,?_,?_,?_,?_,?_,trivial⟩<;>intro F wF hER hk
 exact Ld_ sc123 (hk.qi 2) (hcap.ext hER).head qz
 exact dm (hk.qi 1)
 exact Nc_ (hk.qe 1) qz
 have e6:=hk.qe 2
 refine Fe_ fld33_0 e6 ?_
 rw [add_zero']
 exact qz
 have e4:=hk.qe 0
 exact wl_makeFunc (first := [.tmp 4]) (cap := []) (by decide) (by simp only [evs, ev, e4]; rfl) rfl qz
 exact wl_nilCheckM (t := 101) (by decide) mt188 (hk.qe 4) qz
 exact dm (hk.qe 0)
 intro F wD hED hini hdo
 refine wl_drop [(1, _), (2, _), (7, _), (10, _)] ⟨di hini 1, di hini 2, dr hdo 3, dr hdo 6, trivial⟩ ?_
 clear hini hdo
 replace hp:=hp.ext hED
 refine Ci rfl (nNum_ok (X := (fun cs => X (([]) ++ (cs ++ ([iv 0, iv 0, s0, s0, s0]))))) (pX := pX) (v0 := 0) hp (hS.sub ([]) ([iv 0, iv 0, s0, s0, s0]) rfl) hl.to (by unfold i64; omega)) ?_
 rintro _ w1 ⟨F1, A1, c1, l1, b1, cs1, x1, hp, hF1, hl1, hrd1, hst1⟩
 obtain ⟨hI1, rfl⟩ := hrd1
 refine so ?_
 refine wP 7 hp (h := fun wD hp hED => ?_)
 refine Ci rfl (nNum_ok (X := (fun cs => X (([iv x1]) ++ (cs ++ ([iv 0, s0, s0, s0]))))) (pX := (pX.add 1)) (v0 := 0) hp (hS.sub ([iv x1]) ([iv 0, s0, s0, s0]) rfl) hl1.to (by unfold i64; omega)) ?_
 rintro _ w2 ⟨F2, A2, c2, l2, b2, cs2, x2, hp, hF2, hl2, hrd2, hst2⟩
 obtain ⟨hI2, rfl⟩ := hrd2
 refine so ?_
 refine wP 7 hp (h := fun wD hp hED => ?_)
 refine Ci rfl (nNum_ok (X := (fun cs => X (([iv x1, iv x2]) ++ (cs ++ ([s0, s0, s0]))))) (pX := (pX.add 2)) (v0 := 0) hp (hS.sub ([iv x1, iv x2]) ([s0, s0, s0]) rfl) hl2.to (by unfold i64; omega)) ?_
 rintro _ w3 ⟨F3, A3, c3, l3, b3, cs3, x3, hp, hF3, hl3, hrd3, hst3⟩
 obtain ⟨hI3, rfl⟩ := hrd3
 refine so ?_
 refine wP 5 hp (h := fun wD hp hED => ?_)
 refine Ce (rListM_ok (X := (fun cs => X (([iv x1, iv x2, iv x3]) ++ (cs ++ ([s0, s0]))))) (pX := (pX.add 3)) (p := markP) (most := 5) (FV := .func (.func 96) ([] : List Value).toArray [Value.pointer (some ⟨gs2, 0, none⟩)].toArray) hp (hS.sub ([iv x1, iv x2, iv x3]) ([s0, s0]) rfl) hl3.to (fun w1 F1 H1 X pa A c l bad hF hp hS hl => RetV.func (first := []) (cap := [pt gs2 0]) (vs := [.pointer (some pa)]) cl96 (rMark_ok hp hS hl (hcap.to.frz hF))) (by decide)) ?_
 rintro _ w4 ⟨F4, A4, c4, l4, b4, cs4, x4, hp, hF4, hl4, hrd4, hst4⟩
 obtain ⟨B4, d4, rfl, hg4⟩ := hrd4
 refine so ?_
 apply wdT 6 [.eq _,.eq _,.eq _,.eq _,.eq _,SP.clo _ 123 132 [.iface 101 (pt gr 0)]]
 refine ⟨?_,?_,?_,?_,?_,?_,trivial⟩<;>intro F wF hER hk
 exact Ld_ sc123 (hk.qi 2) hcap.to.head qz
 exact dm (hk.qi 1)
 exact Nc_ (hk.qe 1) qz
 exact Fe_ fld33_4 (hk.qe 2) qz
 exact Ld_ sc123 (hk.qi 2) hcap.to.head qz
 have e38:=hk.qe 4
 have hcl:=nStand_ok (w := wF) (t := 101) (v0 := pt gr 0)
 refine Cl_ cl98 (by simp only [evs, ev, e38]; first | done | rfl) hcl ?_
 clear hcl
 rintro _ w7 ⟨g7, rfl, hg7, hb7, hE7⟩
 exact qz ⟨hE7, g7, rfl, Nat.le_trans hER.size hg7, hb7⟩
 intro F wD hED hini hdo
 have e1:=di hini 1
 have e2:=di hini 2
 have e34:=dr hdo 0
 have e37:=dr hdo 3
 obtain ⟨u39, e39, h39⟩ := hdo 5 39 (Nat.lt_of_lt_of_eq (by decide) rfl) rfl
 obtain ⟨g39, rfl, hge39, hb39⟩ := h39
 refine wl_drop [(1, _), (2, _), (34, _), (37, _), (39, _)] ⟨e1, e2, e34, e37, e39, trivial⟩ ?_
 clear e1 e2 e34 e37 e39 hini hdo
 obtain ⟨Fz5, hp5, hsub5, hnew5, hup5⟩ := hp.frz hED
 replace hp:=hp5
 have hBq39 : Blk wD g39 123 [.iface 101 (pt gr 0)] := hb39
 have hcq39 : AtF Fz5 wD ⟨g39, 0, none⟩ [.iface 101 (pt gr 0)] := ⟨hBq39.at0, hnew5 _ hge39 hBq39.lt, hBq39.lt⟩
 refine Ce (rListS_ok (X := (fun cs => X (([iv x1, iv x2, iv x3, .slice B4 x4.length d4]) ++ (cs ++ ([s0]))))) (pX := (pX.add 4)) (p := standP) (most := 8) (FV := .func (.func 132) ([] : List Value).toArray [Value.pointer (some ⟨g39, 0, none⟩)].toArray) hp (hS.sub ([iv x1, iv x2, iv x3, .slice B4 x4.length d4]) ([s0]) rfl) hl4.to (fun w1 F1 H1 X pa A c l bad hF hp hS hl => RetV.func (first := []) (cap := [pt g39 0]) (vs := [.pointer (some pa)]) cl132 (rStand_ok hp hS hl (hcq39.frz hF))) (by decide)) ?_
 rintro _ w6 ⟨F6, A6, c6, l6, b6, cs6, x6, hp, hF6, hl6, hrd6, hst6⟩
 obtain ⟨B6, d6, rfl, hg6⟩ := hrd6
 refine so ?_
 apply wdT 6 [.eq _,.eq _,.eq _,.eq _,.eq _,SP.clo _ 123 132 [.iface 101 (pt gr 0)]]
 refine ⟨?_,?_,?_,?_,?_,?_,trivial⟩<;>intro F wF hER hk
 exact Ld_ sc123 (hk.qi 2) hcap.to.head qz
 exact dm (hk.qi 1)
 exact Nc_ (hk.qe 1) qz
 exact Fe_ fld33_5 (hk.qe 2) qz
 exact Ld_ sc123 (hk.qi 2) hcap.to.head qz
 have e45:=hk.qe 4
 have hcl:=nStand_ok (w := wF) (t := 101) (v0 := pt gr 0)
 refine Cl_ cl98 (by simp only [evs, ev, e45]; first | done | rfl) hcl ?_
 clear hcl
 rintro _ w7 ⟨g7, rfl, hg7, hb7, hE7⟩
 exact qz ⟨hE7, g7, rfl, Nat.le_trans hER.size hg7, hb7⟩
 intro F wD hED hini hdo
 have e41:=dr hdo 0
 have e44:=dr hdo 3
 obtain ⟨u46, e46, h46⟩ := hdo 5 46 (Nat.lt_of_lt_of_eq (by decide) rfl) rfl
 obtain ⟨g46, rfl, hge46, hb46⟩ := h46
 refine wl_drop [(41, _), (44, _), (46, _)] ⟨e41, e44, e46, trivial⟩ ?_
 clear e41 e44 e46 hini hdo
 obtain ⟨Fz7, hp7, hsub7, hnew7, hup7⟩ := hp.frz hED
 replace hp:=hp7
 have hBq46 : Blk wD g46 123 [.iface 101 (pt gr 0)] := hb46
 have hcq46 : AtF Fz7 wD ⟨g46, 0, none⟩ [.iface 101 (pt gr 0)] := ⟨hBq46.at0, hnew7 _ hge46 hBq46.lt, hBq46.lt⟩
 refine Ce (rListS_ok (X := (fun cs => X (([iv x1, iv x2, iv x3, .slice B4 x4.length d4, .slice B6 x6.length d6]) ++ (cs ++ ([]))))) (pX := (pX.add 5)) (p := standP) (most := 32) (FV := .func (.func 132) ([] : List Value).toArray [Value.pointer (some ⟨g46, 0, none⟩)].toArray) hp (hS.sub ([iv x1, iv x2, iv x3, .slice B4 x4.length d4, .slice B6 x6.length d6]) ([]) rfl) hl6.to (fun w1 F1 H1 X pa A c l bad hF hp hS hl => RetV.func (first := []) (cap := [pt g46 0]) (vs := [.pointer (some pa)]) cl132 (rStand_ok hp hS hl (hcq46.frz hF))) (by decide)) ?_
 rintro _ w8 ⟨F8, A8, c8, l8, b8, cs8, x8, hp, hF8, hl8, hrd8, hst8⟩
 obtain ⟨B8, d8, rfl, hg8⟩ := hrd8
 refine so ?_
 refine wk_post0 (.inr rfl) results57  ?_
 exact ⟨_, rfl, _, A8, c8, l8, b8, _, ({ node := x1, view := x2, low := x3, marks := x4, p := x6, q := x8 } : Chn), ((hp.up 1 rfl).up 1 rfl), mv, hl8, ⟨⟨hI1, hI2, hI3⟩, _, _, _, _, _, _, rfl, hg4.to, hg6.to, hg8⟩, StepP.bind hst1 (StepP.bind hst2 (StepP.bind hst3 (StepP.bind hst4 (StepP.bind hst6 (StepP.bind hst8 (StepP.pure _ _))))))⟩
theorem t0_gChange_ok {p : Prop} (h : p := by simp only [changeE, digE, List.length_append] at hlen ⊢; omega) : p := h
set_option maxHeartbeats 40000000 in
theorem gChange_ok {gw : Nat} {out : List UInt8} {pa : Addr} {cs : List Value} {x : Chn} (hp : HP w0 M0 Fz w (itB gw 89 [.slice A out.length c] :: itR 5 1 A out.length c (out.map bv) :: H)) (hatx : AtF Fz w pa cs) (hrd : changeR.rd Fz w cs x) (hok : changeOk x) (hlen : out.length + (changeE x).length ≤ 1000000) : Ret prog 57 #[.iface 87 (.pointer (some ⟨gw, 0, none⟩)), .pointer (some pa)] w (WrP 5 89 gw w0 M0 Fz w H (out ++ changeE x)) := by
 obtain ⟨hIx, B0, d0, B1, d1, B2, d2, rfl, hx0, hx1, hx2⟩ := hrd
 refine ret_of_wk func57 rfl ntmps57 leB_ ?_
 refine so ?_
 refine Bx hp (h := fun gs2 wc1 hpc1 hEc1 => ?_)
 replace hp:=hpc1
 obtain ⟨Fzc, hpc2, hsc2, hcap⟩ := (hp.as_ (H' := itB gs2 123 [.iface 87 (pt gw 0)] :: _) rfl).frzBlk
 replace hp:=hpc2
 refine so ?_
 refine wP 7 hp (h := fun wD hp hED => ?_)
 refine Ci rfl (gNum_ok hp (hatx.to.sub 0 1) hok.1 t0_gChange_ok) ?_
 rintro _ w1 ⟨A1, c1, hp, hF1⟩
 refine so ?_
 refine wP 7 hp (h := fun wD hp hED => ?_)
 refine Ci rfl (gNum_ok hp (hatx.to.sub 1 1) hok.2.1 t0_gChange_ok) ?_
 rintro _ w2 ⟨A2, c2, hp, hF2⟩
 refine so ?_
 refine wP 7 hp (h := fun wD hp hED => ?_)
 refine Ci rfl (gNum_ok hp (hatx.to.sub 2 1) hok.2.2.1 t0_gChange_ok) ?_
 rintro _ w3 ⟨A3, c3, hp, hF3⟩
 refine so ?_
 refine wP 5 hp (h := fun wD hp hED => ?_)
 refine Ce (gListM_ok (E := markE) (ok := markOk) (FV := .func (.func 96) ([] : List Value).toArray [Value.pointer (some ⟨gs2, 0, none⟩)].toArray) (most := 5) hp (hatx.to.sub 3 1) hx0.to (hok.2.2.2.1).2 (fun w1 H1 A c out pa cs x hF hp hat hrd hok hlen => RetV.func (first := []) (cap := [pt gs2 0]) (vs := [.pointer (some pa)]) cl96 (gMark_ok hp hat hrd hok hlen (hcap.to.frz hF))) (by have := (hok.2.2.2.1).1; unfold isNum; omega) t0_gChange_ok) ?_
 rintro _ w4 ⟨A4, c4, hp, hF4⟩
 refine so ?_
 apply wdT 6 [.eq _,.eq _,.eq _,.eq _,.eq _,SP.clo _ 123 132 [.iface 87 (pt gw 0)]]
 refine ⟨?_,?_,?_,?_,?_,?_,trivial⟩<;>intro F wF hER hk
 exact Ld_ sc123 (hk.qi 2) hcap.to.head qz
 exact dm (hk.qi 1)
 exact Nc_ (hk.qe 1) qz
 exact Fe_ fld33_4 (hk.qe 2) qz
 exact Ld_ sc123 (hk.qi 2) hcap.to.head qz
 have e38:=hk.qe 4
 have hcl:=nStand_ok (w := wF) (t := 87) (v0 := pt gw 0)
 refine Cl_ cl98 (by simp only [evs, ev, e38]; first | done | rfl) hcl ?_
 clear hcl
 rintro _ w7 ⟨g7, rfl, hg7, hb7, hE7⟩
 exact qz ⟨hE7, g7, rfl, Nat.le_trans hER.size hg7, hb7⟩
 intro F wD hED hini hdo
 have e1:=di hini 1
 have e2:=di hini 2
 have e34:=dr hdo 0
 have e37:=dr hdo 3
 obtain ⟨u39, e39, h39⟩ := hdo 5 39 (Nat.lt_of_lt_of_eq (by decide) rfl) rfl
 obtain ⟨g39, rfl, hge39, hb39⟩ := h39
 refine wl_drop [(1, _), (2, _), (34, _), (37, _), (39, _)] ⟨e1, e2, e34, e37, e39, trivial⟩ ?_
 clear e1 e2 e34 e37 e39 hini hdo
 obtain ⟨Fz5, hp5, hsub5, hnew5, hup5⟩ := hp.frz hED
 replace hp:=hp5
 have hBq39 : Blk wD g39 123 [.iface 87 (pt gw 0)] := hb39
 have hcq39 : AtF Fz5 wD ⟨g39, 0, none⟩ [.iface 87 (pt gw 0)] := ⟨hBq39.at0, hnew5 _ hge39 hBq39.lt, hBq39.lt⟩
 refine Ce (gListS_ok (E := standE) (ok := standOk) (FV := .func (.func 132) ([] : List Value).toArray [Value.pointer (some ⟨g39, 0, none⟩)].toArray) (most := 8) hp (hatx.to.sub 4 1) hx1.to (hok.2.2.2.2.1).2 (fun w1 H1 A c out pa cs x hF hp hat hrd hok hlen => RetV.func (first := []) (cap := [pt g39 0]) (vs := [.pointer (some pa)]) cl132 (gStand_ok hp hat hrd hok hlen (hcq39.frz hF))) (by have := (hok.2.2.2.2.1).1; unfold isNum; omega) t0_gChange_ok) ?_
 rintro _ w6 ⟨A6, c6, hp, hF6⟩
 refine so ?_
 apply wdT 6 [.eq _,.eq _,.eq _,.eq _,.eq _,SP.clo _ 123 132 [.iface 87 (pt gw 0)]]
 refine ⟨?_,?_,?_,?_,?_,?_,trivial⟩<;>intro F wF hER hk
 exact Ld_ sc123 (hk.qi 2) hcap.to.head qz
 exact dm (hk.qi 1)
 exact Nc_ (hk.qe 1) qz
 exact Fe_ fld33_5 (hk.qe 2) qz
 exact Ld_ sc123 (hk.qi 2) hcap.to.head qz
 have e45:=hk.qe 4
 have hcl:=nStand_ok (w := wF) (t := 87) (v0 := pt gw 0)
 refine Cl_ cl98 (by simp only [evs, ev, e45]; first | done | rfl) hcl ?_
 clear hcl
 rintro _ w7 ⟨g7, rfl, hg7, hb7, hE7⟩
 exact qz ⟨hE7, g7, rfl, Nat.le_trans hER.size hg7, hb7⟩
 intro F wD hED hini hdo
 have e41:=dr hdo 0
 have e44:=dr hdo 3
 obtain ⟨u46, e46, h46⟩ := hdo 5 46 (Nat.lt_of_lt_of_eq (by decide) rfl) rfl
 obtain ⟨g46, rfl, hge46, hb46⟩ := h46
 refine wl_drop [(41, _), (44, _), (46, _)] ⟨e41, e44, e46, trivial⟩ ?_
 clear e41 e44 e46 hini hdo
 obtain ⟨Fz7, hp7, hsub7, hnew7, hup7⟩ := hp.frz hED
 replace hp:=hp7
 have hBq46 : Blk wD g46 123 [.iface 87 (pt gw 0)] := hb46
 have hcq46 : AtF Fz7 wD ⟨g46, 0, none⟩ [.iface 87 (pt gw 0)] := ⟨hBq46.at0, hnew7 _ hge46 hBq46.lt, hBq46.lt⟩
 refine Ce (gListS_ok (E := standE) (ok := standOk) (FV := .func (.func 132) ([] : List Value).toArray [Value.pointer (some ⟨g46, 0, none⟩)].toArray) (most := 32) hp (hatx.to.sub 5 1) hx2.to (hok.2.2.2.2.2).2 (fun w1 H1 A c out pa cs x hF hp hat hrd hok hlen => RetV.func (first := []) (cap := [pt g46 0]) (vs := [.pointer (some pa)]) cl132 (gStand_ok hp hat hrd hok hlen (hcq46.frz hF))) (by have := (hok.2.2.2.2.2).1; unfold isNum; omega) t0_gChange_ok) ?_
 rintro _ w8 ⟨A8, c8, hp, hF8⟩
 refine so ?_
 refine wk_post0 (.inr rfl) results57  ?_
 rw [show out ++ changeE x = ((((((out ++ numE x.node) ++ numE x.view) ++ numE x.low) ++ listE markE x.marks) ++ listE standE x.p) ++ listE standE x.q) from by simp only [changeE, ← List.append_assoc]]
 have hFr:=mv (S := Fz) (w := w) (w' := w8)
 exact ⟨_, rfl, _, _, hp.less hFr.sub, hFr.chg, fun _ h => h⟩
theorem t0_gAnswer_ok {p : Prop} (h : p := by simp only [ansE, digE, List.length_append] at hlen ⊢; omega) : p := h
set_option maxHeartbeats 40000000 in
theorem gAnswer_ok {gw : Nat} {out : List UInt8} {pa : Addr} {cs : List Value} {x : Ans} (hp : HP w0 M0 Fz w (itB gw 89 [.slice A out.length c] :: itR 5 1 A out.length c (out.map bv) :: H)) (hatx : AtF Fz w pa cs) (hrd : ansR.rd Fz w cs x) (hok : ansOk x) (hlen : out.length + (ansE x).length ≤ 1000000) (hmb : MutF Fz w pa.block) : Ret prog 108 #[.iface 87 (.pointer (some ⟨gw, 0, none⟩)), .pointer (some pa)] w (WrP 5 89 gw w0 M0 Fz w H (out ++ ansE x)) := by
 obtain ⟨hIx, B0, d0, B1, d1, rfl, hx0, hx1⟩ := hrd
 refine ret_of_wk func108 rfl ntmps108 leB_ ?_
 refine so ?_
 refine Alo hp (h := fun gs4 w1 hp hE1 => ?_)
 refine H1 0 hp (h := fun w2 hp hC2 => ?_)
 obtain ⟨Fz3, hp3, hs3, hat3⟩ := (hp.as_ (H' := itB gs4 3 [iv x.err] :: _) rfl).frzBlk
 replace hp:=hp3
 refine so ?_
 refine Ci rfl (gNum_ok hp (hat3) hok.1 (by simp only [ansE, List.length_append] at hlen ⊢; omega)) ?_
 rintro _ w4 ⟨A4, c4, hp, hF4⟩
 refine so ?_
 refine wl_sameF rfl rfl (hatx.to.sub 0 1) (by rw [block_add]; exact hmb.to) sz25 rfl rfl ?_
 refine so ?_
 refine wP 7 hp (h := fun wD hp hED => ?_)
 refine Ci rfl (gStr_ok (v9 := iv 16) hp (hatx.to.sub 1 1) hx0.to (by have := hok.2.1; omega) t0_gAnswer_ok) ?_
 rintro _ w5 ⟨A5, c5, hp, hF5⟩
 refine so ?_
 refine wP 7 hp (h := fun wD hp hED => ?_)
 refine Ci rfl (gNum_ok hp (hatx.to.sub 2 1) hok.2.2.1 t0_gAnswer_ok) ?_
 rintro _ w6 ⟨A6, c6, hp, hF6⟩
 refine so ?_
 refine wdP 7 hp (fun wD hp hED => by refine pm ?_; exact .op rfl (wl_nilCheckI (by decide) rfl (wl_nil qp)) pl) fun wD hp hED => ?_
 refine Ce (gListI_ok (E := numE) (ok := isNum) (FV := .func (.method "bastide/note.num") [Value.iface 87 (pt gw 0)].toArray ([] : List Value).toArray) (most := 7) hp (hatx.to.sub 3 1) hx1.to (hok.2.2.2).2 (fun w1 H1 A c out pa cs x hF hp hat hrd hok hlen => by
   obtain rfl : _ = _ := hrd
   exact RetV.meth (vs := [.pointer (some pa)]) mt177 (gNum_ok hp hat hok hlen)) (by have := (hok.2.2.2).1; unfold isNum; omega) t0_gAnswer_ok) ?_
 rintro _ w7 ⟨A7, c7, hp, hF7⟩
 refine so ?_
 refine wk_post0 (.inr rfl) results108  ?_
 rw [show out ++ ansE x = ((((out ++ numE x.err) ++ strE x.data) ++ numE x.epoch) ++ listE numE x.nodes) from by simp only [ansE, ← List.append_assoc]]
 have hFr:=mv (S := Fz) (w := w) (w' := w7)
 exact ⟨_, rfl, _, _, hp.less hFr.sub, hFr.chg, fun _ h => h⟩
theorem t0_wUnb_ok {p : Prop} (h : p := by first | exact .inr (by omega) | exact .inl (decide_eq_true (by assumption)) | exact .inl (by assumption)) : p := h
set_option maxHeartbeats 40000000 in
theorem wUnb_ok {l : List UInt8} (hp : HP w0 M0 Fz w H) (hl : GS byteR Fz w A c l) : Ret prog 190 #[.slice A l.length c] w (fun v w2 => ∃ F2 A' c' xs e, v = .tuple #[.slice A' (xs : List Wsh).length c', .int .i64 e] ∧ HP w0 M0 F2 w2 H ∧ Frz Fz F2 w w2 ∧ GS wishR F2 w2 A' c' xs ∧ UnbR l xs e) := by
 refine ret_of_wk func190 rfl ntmps190 leB_ ?_
 refine so ?_
 refine wl_builtS (ps := [(0, .tmp 10)]) (by decide) bld207 rfl rfl ?_
 refine Bx hp (h := fun gs12 w1 hp hE1 => so ?_)
 refine Ce (wMany_ok (most := 4) hp hl.to (by decide)) ?_
 rintro _ w2 ⟨F2, A2, c2, l2, b2, x2, rfl, hp, hF2, hl2, hst2, hxm2⟩
 refine so ?_
 refine Lp [4, 5, 14, 15] (fun L' w' mes => ∃ (k : Nat), ∃ (Fq : Nat → Prop), ∃ (Aq : Option Addr), ∃ (cq : Nat), ∃ (lq : List UInt8), ∃ (bq : Int), ∃ (AL : Option Addr), ∃ (cL : Nat), ∃ (xs : List Wsh), ∃ (rows : List (List Value)), L' = [(4, pt gs12 0), (5, .slice AL xs.length cL), (14, iv x2), (15, iv (k : Int))] ∧ (k ≤ x2.toNat) ∧ (xs.length = k) ∧ (RF wishR Fq w' rows xs) ∧ (Frz Fz Fq w w') ∧ (GS byteR Fq w' Aq cq lq) ∧ (StepP (repP witemP k) (rst (decide (b2 ≠ 0)) l2) (rst (decide (bq ≠ 0)) lq) xs) ∧ (HP w0 M0 Fq w' (itB gs12 207 [.slice Aq lq.length cq, iv bq] :: itR 68 10 AL xs.length cL rows.flatten :: H)) ∧ x2.toNat - k = mes) (x2.toNat - 0) (by
     refine ⟨0, F2, A2, c2, l2, b2, none, 0, [], [], rfl, Nat.zero_le _, ?_, RF.nil _ _ _, mv, hl2, StepP.pure _ _, ((((hp.noRow 68 10).up 0 rfl).up 1 rfl)).as_ (H' := _ :: _ :: _) rfl, rfl⟩
     rfl) ?_
 rintro _ wr _ ⟨k, Fq, Aq, cq, lq, bq, AL, cL, xs, rows, rfl, hk, hxk, hRF, hFr, hlq, hstL, hp, rfl⟩ KL1 hKL1
 refine so ?_
 refine Cd ?_ ?_<;>intro hc1<;>refine so ?_
 refine Ce (wStr_ok (most := 256) hp hlq) ?_
 rintro v3 w3 ⟨F3, A3, c3, l3, b3, cs3, x3, hv3, hp, hF3, hl3, hrd3, hst3⟩
 obtain ⟨B3, d3, rfl, hg3⟩ := hrd3
 obtain rfl : v3 = .slice B3 x3.length d3 := hv3
 refine so ?_
 refine Cd ?_ ?_<;>intro hc2<;>refine so ?_
 refine wP 6 hp (h := fun wD hp hED => so ?_)
 refine P2 results190 ?_
 have hpE:=hp.tail.tail
 exact ⟨_, rfl, _, none, 0, [], _, rfl, hpE, mv, gsn, .inr ⟨by assumption, unb_fail (StepP.bind hst2 (rep_fail (k := k) (n := x2.toNat) hstL (step_witem_no (x := wish0) (eP := 0) hst3 (.inl (by assumption))) (by omega))), rfl⟩⟩
 refine Ce (wParse_ok hp hg3) ?_
 rintro _ w4 ⟨F4, cs4, x4, e4, rfl, hp, hF4, hrd4, hpr4⟩
 have qhrd4:=hrd4
 obtain ⟨hI4, A4_0, c4_0, A4_1, c4_1, rfl, hr4_0, hr4_1⟩ := hrd4
 refine so ?_
 refine Alo hp (h := fun gs7 w5 hp hE5 => ?_)
 refine Hs 0 hp (h := fun w6 hp hC6 => so ?_)
 refine Cd ?_ ?_<;>intro hc3<;>refine so ?_
 refine P2 results190 ?_
 have hpE:=hp.tail.tail.tail
 exact ⟨_, rfl, _, none, 0, [], _, rfl, hpE, mv, gsn, .inr ⟨by assumption, unb_fail (StepP.bind hst2 (rep_fail (k := k) (n := x2.toNat) hstL (step_witem_no hst3 (.inr ⟨by assumption, hpr4, by assumption⟩)) (by omega))), rfl⟩⟩
 refine wl_oneOf (by decide) sl24 rfl rfl rfl leB_ ?_
 rintro _ wo hOn hEo
 replace hp:=hp.ext hEo
 obtain ⟨gt, rfl, hat9⟩ := hOn
 refine wl_happend (i := 2) (m := 1) (size := 10) (news := [iv x4.client, iv x4.stamp, iv x4.group, iv x4.epoch, iv x4.kind, iv x4.block, .slice A4_0 x4.data.length c4_0, iv x4.old, iv x4.new, .slice A4_1 x4.next.length c4_1]) (by decide) sl24 rfl rfl hp rfl rfl (fun b hb => by cases hb; exact hat9) (by simp) (List.all_eq_true.1 rfl) (by omega) ?_
 rintro Aw cw ww hpw hCw
 replace hp:=hpw
 have hst4:=step_witem hst3 (by assumption) hpr4 (by assumption)
 refine sl ?_
 refine wc_region ?_
 refine sl ?_
 refine wk_drop [(4, pt gs12 0), (5, .slice Aw (xs ++ [x4]).length cw), (14, iv x2), (15, iv ((k + 1) : Int))] ⟨rfl, (by rw [List.length_append]; rfl), rfl, rfl, trivial⟩ (hKL1 _ _ (m2 := x2.toNat - (k + 1)) ?_ ?_)
 refine ⟨(k + 1), F4, A3, c3, l3, b3, Aw, cw, (xs ++ [x4]), (rows ++ [[iv x4.client, iv x4.stamp, iv x4.group, iv x4.epoch, iv x4.kind, iv x4.block, .slice A4_0 x4.data.length c4_0, iv x4.old, iv x4.new, .slice A4_1 x4.next.length c4_1]]), rfl, by omega, ?_, hRF.to.append (RF.one (rdTo qhrd4)), mv, hl3.to, StepP.snoc hstL hst4, ?_, rfl⟩
 rw [List.length_append, hxk]; rfl
 rw [flat_snoc, List.length_append]; exact (((hp.tail.up 1 rfl).up 1 rfl).as_ (H' := _ :: _ :: _) rfl)
 omega
 have hrowA:=hp.rowAt (i := 1) rfl
 obtain ⟨F8, hp8, hs8, hb8⟩ := ((hp.up 1 rfl).as_ (H' := _ :: _ :: _) rfl).frzRow
 have hgs:=OwnRow.gsRF (r := wishR) hrowA (hRF.wid hs8) hb8
 replace hp:=hp8
 refine so ?_
 refine Ce (wEnd_ok hp hlq.to) ?_
 rintro _ w7 ⟨e2, e3, rfl, hen, hp, hF7⟩
 replace hgs:=hgs.fz hF7.chg
 refine so ?_
 refine Cd ?_ ?_<;>intro hc4<;>refine so ?_
 refine P2 results190 ?_
 have hpE:=hp.tail
 exact ⟨_, rfl, _, none, 0, [], _, rfl, hpE, mv, gsn, .inr ⟨by assumption, unb_no (show StepP blistP (some l) _ _ from (StepP.bind hst2 (rep_end hstL hk t0_wUnb_ok))) hen (by assumption), rfl⟩⟩
 refine P2 results190 ?_
 have hpE:=hp.tail
 exact ⟨_, rfl, _, _, _, xs, 0, rfl, hpE, mv, hgs, .inl ⟨rfl, unb_some (show StepP blistP (some l) _ _ from (StepP.bind hst2 (rep_end hstL hk t0_wUnb_ok))) hen (by omega)⟩⟩
end Go.Proofs.YtkdoomglflikkaaGreat
namespace Go.Proofs.YtkdoomglflikkaaGreat
open Go.ChangeShapes Go.WideShapes Go.ChangeAt Go.RowKit Go.Eng Go.Eng _root_.Go.Proofs.Tryz
set_option maxRecDepth 100000
variable {w0 w : World} {M0 Fz : Nat → Prop} {H : List It} {A : Option Addr} {c : Nat}
theorem reads_t35B : ReadsR Tryz.prog 35 (sliceR pickR) (fun l => (∀ x ∈ l, (∀ y ∈ x.batch, y.next.length * 8 ≤ 140737488355328) ∧ x.batch.length * 112 ≤ 140737488355328) ∧ l.length * 64 ≤ 140737488355328) := reads_slice (size := 34) (bytes := 64) Tryz.underlying35 rfl (by decide) Tryz.ce66 Tryz.by66 (by decide) reads_PckB
end Go.Proofs.YtkdoomglflikkaaGreat
namespace Go.Proofs.YtkdoomglflikkaaGreat
open Go.RowKit Go.Eng Go.Eng _root_.Go.Proofs.Tryz
set_option maxRecDepth 100000
variable {w0 w : World} {M0 Fz : Nat → Prop} {H : List It} {A : Option Addr} {c : Nat}
theorem chapL_len (k : Nat) : (chapL k).length = k := by simp [chapL]
theorem aw_a : (packS ((chapL 16).getD 3 note0)).1.take 11 = [1, 4, 1, 3, 1, 1, 1, 2, 0, 1, 7] := by decide +kernel
end Go.Proofs.YtkdoomglflikkaaGreat
