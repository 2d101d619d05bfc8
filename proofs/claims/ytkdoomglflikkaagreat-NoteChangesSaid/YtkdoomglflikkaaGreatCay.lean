/- What each of these functions computes, for every argument that its theorem names; a part of what the proof of NoteChecks stands on. -/
import Derived.Test.YtkdoomglflikkaaGreatCac
import Derived.Test.YtkdoomglflikkaaGreatCad
import Derived.Test.YtkdoomglflikkaaGreatCae
import Derived.Test.YtkdoomglflikkaaGreatCag
import Derived.Test.YtkdoomglflikkaaGreatCah
import Derived.Test.YtkdoomglflikkaaGreatCaj
import Derived.Test.YtkdoomglflikkaaGreatCak
import Derived.Test.YtkdoomglflikkaaGreatCan
import Derived.Test.YtkdoomglflikkaaGreatCao
import Derived.Test.YtkdoomglflikkaaGreatCap
import Derived.Test.YtkdoomglflikkaaGreatCat
import Derived.Test.YtkdoomglflikkaaGreatCau
namespace Go.Proofs.YtkdoomglflikkaaGreat
open Go.RowKit Go.Eng Go.Eng _root_.Go.Proofs.Tryz
set_option maxRecDepth 100000
variable {w0 w : World} {M0 Fz : Nat → Prop} {H : List It} {A : Option Addr} {c : Nat}
set_option maxHeartbeats 40000000 in
theorem efW_ok {Aa : Option Addr} {ca : Nat} {a : List Wsh} {Sa : Nat → Prop} {Ab : Option Addr} {cb : Nat} {b : List Wsh} {Sb : Nat → Prop} (ha : GS wishR Sa w Aa ca a) (hb : GS wishR Sb w Ab cb b) : Ret prog 115 #[.slice Aa a.length ca, .slice Ab b.length cb, .func (.func 116) #[] #[]] w (fun v w' => v = .bool (decide (a = b)) ∧ Ext w w') := by
 have mha:=ha.mx
 have mhb:=hb.mx
 refine ret_of_wk func115 rfl ntmps115 leB_ ?_
 have hp:=HP.begin_ w
 refine so ?_
 refine Cd ?_ ?_<;>intro hne
 refine so ?_
 refine Pt ?_
 exact ⟨_, rfl, bool_f (fun e => hne (by rw [e])), hp.chg⟩
 have hll : a.length = b.length := by omega
 refine so ?_
 refine Lp [1, 2, 15, 16, 17] (fun L' w' mes => ∃ (k : Nat), L' = [(1, .slice Ab b.length cb), (2, .func (.func 116) #[] #[]), (15, .slice Aa a.length ca), (16, iv (a.length : Int)), (17, iv (k : Int))] ∧ (k ≤ a.length) ∧ (a.take k = b.take k) ∧ (GS wishR (fun b => b < w.heap.size) w' Aa ca a) ∧ (GS wishR (fun b => b < w.heap.size) w' Ab cb b) ∧ (HP w (fun _ => False) (fun b => b < w.heap.size) w' ([])) ∧ a.length - k = mes) (a.length - 0) ⟨0, rfl, by omega, by simp, ha.tn, hb.tn, hp, rfl⟩ ?_
 rintro _ wr _ ⟨k, rfl, hk, htk, ha, hb, hp, rfl⟩ KL1 hKL1
 refine so ?_
 refine Cd ?_ ?_<;>intro hlt
 refine so ?_
 obtain ⟨ae1, pe1_0, qe1_0, pe1_1, qe1_1, hAe1, hate1, hIe1, he1_0, he1_1⟩ := wishR_el ha k (by omega)
 refine so ?_
 refine Alo hp (h := fun gs8 w2 hp hE2 => so ?_)
 refine Hs 0 hp (h := fun w3 hp hC3 => so ?_)
 obtain ⟨ae4, pe4_0, qe4_0, pe4_1, qe4_1, hAe4, hate4, hIe4, he4_0, he4_1⟩ := wishR_el (hb.to (w' := w3)) k (by omega)
 refine so ?_
 refine Alo hp (h := fun gs9 w5 hp hE5 => ?_)
 refine Hs 0 hp (h := fun w6 hp hC6 => so ?_)
 have hcl:=wSame_ok ⟨hIe1, _, _, _, _, rfl, (he1_0.to (w' := w6)), (he1_1.to (w' := w6))⟩ ⟨hIe4, _, _, _, _, rfl, (he4_0.to (w' := w6)), (he4_1.to (w' := w6))⟩
 refine wl_callv (f := 116) (first := []) (cap := []) (by decide) cl116 rfl rfl hcl ?_
 clear hcl
 rintro _ w7 ⟨rfl, hE7⟩
 replace hp:=hp.ext hE7
 refine so ?_
 refine Cd ?_ ?_<;>intro hne2
 refine so ?_
 refine Pt ?_
 exact ⟨_, rfl, bool_f (fun e => hne2 (by rw [e])), hp.chg⟩
 replace hne2:=Decidable.not_not.1 hne2
 refine so ?_
 refine Kl [1, 2, 15, 16, 17] hKL1 (a.length - (k + 1)) ⟨(k + 1), rfl, by omega, ?_, ha.to, hb.to, hp.tail.tail, rfl⟩ (by omega)
 rw [take_snoc wish0 (by omega : k < a.length), take_snoc wish0 (by omega : k < b.length), htk, hne2]
 have hkl : k = a.length := by omega
 refine so ?_
 refine Pt ?_
 exact ⟨_, rfl, bool_t (by rw [hkl, List.take_length, hll, List.take_length] at htk; exact htk), hp.chg⟩
set_option maxHeartbeats 40000000 in
theorem efC_ok {Aa : Option Addr} {ca : Nat} {a : List Chn} {Sa : Nat → Prop} {Ab : Option Addr} {cb : Nat} {b : List Chn} {Sb : Nat → Prop} (ha : GS changeR Sa w Aa ca a) (hb : GS changeR Sb w Ab cb b) : Ret prog 70 #[.slice Aa a.length ca, .slice Ab b.length cb, .func (.func 71) #[] #[]] w (fun v w' => v = .bool (decide (a = b)) ∧ Ext w w') := by
 have mha:=ha.mx
 have mhb:=hb.mx
 refine ret_of_wk func70 rfl ntmps70 leB_ ?_
 have hp:=HP.begin_ w
 refine so ?_
 refine Cd ?_ ?_<;>intro hne
 refine so ?_
 refine Pt ?_
 exact ⟨_, rfl, bool_f (fun e => hne (by rw [e])), hp.chg⟩
 have hll : a.length = b.length := by omega
 refine so ?_
 refine Lp [1, 2, 15, 16, 17] (fun L' w' mes => ∃ (k : Nat), L' = [(1, .slice Ab b.length cb), (2, .func (.func 71) #[] #[]), (15, .slice Aa a.length ca), (16, iv (a.length : Int)), (17, iv (k : Int))] ∧ (k ≤ a.length) ∧ (a.take k = b.take k) ∧ (GS changeR (fun b => b < w.heap.size) w' Aa ca a) ∧ (GS changeR (fun b => b < w.heap.size) w' Ab cb b) ∧ (HP w (fun _ => False) (fun b => b < w.heap.size) w' ([])) ∧ a.length - k = mes) (a.length - 0) ⟨0, rfl, by omega, by simp, ha.tn, hb.tn, hp, rfl⟩ ?_
 rintro _ wr _ ⟨k, rfl, hk, htk, ha, hb, hp, rfl⟩ KL1 hKL1
 refine so ?_
 refine Cd ?_ ?_<;>intro hlt
 refine so ?_
 obtain ⟨ae1, pe1_0, qe1_0, pe1_1, qe1_1, pe1_2, qe1_2, hAe1, hate1, hIe1, he1_0, he1_1, he1_2⟩ := changeR_el ha k (by omega)
 refine so ?_
 refine Alo hp (h := fun gs8 w2 hp hE2 => so ?_)
 refine Hs 0 hp (h := fun w3 hp hC3 => so ?_)
 obtain ⟨ae4, pe4_0, qe4_0, pe4_1, qe4_1, pe4_2, qe4_2, hAe4, hate4, hIe4, he4_0, he4_1, he4_2⟩ := changeR_el (hb.to (w' := w3)) k (by omega)
 refine so ?_
 refine Alo hp (h := fun gs9 w5 hp hE5 => ?_)
 refine Hs 0 hp (h := fun w6 hp hC6 => so ?_)
 have hcl:=nSameChange_ok ⟨hIe1, _, _, _, _, _, _, rfl, (he1_0.to (w' := w6)), (he1_1.to (w' := w6)), (he1_2.to (w' := w6))⟩ ⟨hIe4, _, _, _, _, _, _, rfl, (he4_0.to (w' := w6)), (he4_1.to (w' := w6)), (he4_2.to (w' := w6))⟩
 refine wl_callv (f := 71) (first := []) (cap := []) (by decide) cl71 rfl rfl hcl ?_
 clear hcl
 rintro _ w7 ⟨rfl, hE7⟩
 replace hp:=hp.ext hE7
 refine so ?_
 refine Cd ?_ ?_<;>intro hne2
 refine so ?_
 refine Pt ?_
 exact ⟨_, rfl, bool_f (fun e => hne2 (by rw [e])), hp.chg⟩
 replace hne2:=Decidable.not_not.1 hne2
 refine so ?_
 refine Kl [1, 2, 15, 16, 17] hKL1 (a.length - (k + 1)) ⟨(k + 1), rfl, by omega, ?_, ha.to, hb.to, hp.tail.tail, rfl⟩ (by omega)
 rw [take_snoc change0 (by omega : k < a.length), take_snoc change0 (by omega : k < b.length), htk, hne2]
 have hkl : k = a.length := by omega
 refine so ?_
 refine Pt ?_
 exact ⟨_, rfl, bool_t (by rw [hkl, List.take_length, hll, List.take_length] at htk; exact htk), hp.chg⟩
set_option maxHeartbeats 40000000 in
theorem gChange_ok {gw : Nat} {out : List UInt8} {pa : Addr} {cs : List Value} {x : Chn} (hp : HP w0 M0 Fz w (itB gw 89 [.slice A out.length c] :: itR 5 1 A out.length c (out.map bv) :: H)) (hatx : AtF Fz w pa cs) (hrd : changeR.rd Fz w cs x) (hok : changeOk x) (hlen : out.length + (changeE x).length ≤ 1000000) : Ret prog 57 #[.iface 87 (.pointer (some ⟨gw, 0, none⟩)), .pointer (some pa)] w (WrP 5 89 gw w0 M0 Fz w H (out ++ changeE x)) := by
 have hFr:=Frz.start Fz w
 obtain ⟨hIx, B0, d0, B1, d1, B2, d2, rfl, hx0, hx1, hx2⟩ := hrd
 refine ret_of_wk func57 rfl ntmps57 leB_ ?_
 refine go ?_
 refine wl_hbox (by decide) rfl hp ?_
 rintro gs2 wc1 hpc1 hEc1
 replace hFr:=hFr.ext hEc1
 have q0:=hEc1
 replace hp:=hpc1
 obtain ⟨Fzc, hpc2, hsc2, hcap⟩ := (hp.as_ (H' := itB gs2 123 [.iface 87 (pt gw 0)] :: _) rfl).frzBlk
 replace hp:=hpc2
 replace hFr:=hFr.wid hsc2
 have q1:=hatx.tk.ext q0
 replace q1:=q1.wid hsc2
 refine go ?_
 apply wdT 7 [.eq _,.eq _,.eq _,.eq _,.eq _,.eq _,.eq _]
 refine ⟨?_,?_,?_,?_,?_,?_,?_,trivial⟩<;>intro F wF hER hk
 exact Ld_ sc123 (hk.qi 2) (hcap.ext hER).head qz
 exact dm (hk.qi 1)
 exact Nc_ (hk.qe 1) qz
 exact Fe_ fld33_0 (hk.qe 2) qz
 have e4:=hk.qe 0
 exact wl_makeFunc (first := [.tmp 4]) (cap := []) (by decide) (by simp only [evs, ev, e4]; rfl) rfl qz
 exact wl_nilCheckM (t := 87) (by decide) mt177 (hk.qe 4) qz
 exact dm (hk.qe 0)
 intro F wD hED hini hdo
 refine wl_drop [(1, _), (2, _), (7, _), (10, _)] ⟨di hini 1, di hini 2, dr hdo 3, dr hdo 6, trivial⟩ ?_
 clear hini hdo
 replace hFr:=hFr.ext hED
 replace q1:=q1.ext hED
 have q2:=hED
 replace hp:=hp.ext hED
 have hcl:=gNum_ok hp ((hatx.fr q1).sub 0 1) hok.1 (by simp only [changeE, List.length_append] at hlen ⊢; omega)
 refine wl_invoke (t := 87) (name := "bastide/note.num") (f := 177) (by decide) mt177 rfl rfl hcl ?_
 clear hcl
 rintro _ w1 ⟨A1, c1, hp1, hF1⟩
 replace hFr:=hFr.fr hF1
 replace q1:=q1.fr hF1
 have q3:=hcap.tk.ext q2
 replace q3:=q3.fr hF1
 replace hp:=hp1
 refine go ?_
 apply wdT 7 [.eq _,.eq _,.eq _,.eq _,.eq _,.eq _,.eq _]
 refine ⟨?_,?_,?_,?_,?_,?_,?_,trivial⟩<;>intro F wF hER hk
 exact Ld_ sc123 (hk.qi 2) ((hcap.fr q3).ext hER).head qz
 exact dm (hk.qi 1)
 exact Nc_ (hk.qe 1) qz
 exact Fe_ fld33_1 (hk.qe 2) qz
 have e12:=hk.qe 0
 exact wl_makeFunc (first := [.tmp 12]) (cap := []) (by decide) (by simp only [evs, ev, e12]; rfl) rfl qz
 exact wl_nilCheckM (t := 87) (by decide) mt177 (hk.qe 4) qz
 exact dm (hk.qe 0)
 intro F wD hED hini hdo
 refine wl_drop [(1, _), (2, _), (15, _), (18, _)] ⟨di hini 1, di hini 2, dr hdo 3, dr hdo 6, trivial⟩ ?_
 clear hini hdo
 replace hFr:=hFr.ext hED
 replace q1:=q1.ext hED
 replace q3:=q3.ext hED
 replace hp:=hp.ext hED
 have hcl:=gNum_ok hp ((hatx.fr q1).sub 1 1) hok.2.1 (by simp only [changeE, List.length_append] at hlen ⊢; omega)
 refine wl_invoke (t := 87) (name := "bastide/note.num") (f := 177) (by decide) mt177 rfl rfl hcl ?_
 clear hcl
 rintro _ w2 ⟨A2, c2, hp2, hF2⟩
 replace hFr:=hFr.fr hF2
 replace q1:=q1.fr hF2
 replace q3:=q3.fr hF2
 replace hp:=hp2
 refine go ?_
 apply wdT 7 [.eq _,.eq _,.eq _,.eq _,.eq _,.eq _,.eq _]
 refine ⟨?_,?_,?_,?_,?_,?_,?_,trivial⟩<;>intro F wF hER hk
 exact Ld_ sc123 (hk.qi 2) ((hcap.fr q3).ext hER).head qz
 exact dm (hk.qi 1)
 exact Nc_ (hk.qe 1) qz
 exact Fe_ fld33_2 (hk.qe 2) qz
 have e20:=hk.qe 0
 exact wl_makeFunc (first := [.tmp 20]) (cap := []) (by decide) (by simp only [evs, ev, e20]; rfl) rfl qz
 exact wl_nilCheckM (t := 87) (by decide) mt177 (hk.qe 4) qz
 exact dm (hk.qe 0)
 intro F wD hED hini hdo
 refine wl_drop [(1, _), (2, _), (23, _), (26, _)] ⟨di hini 1, di hini 2, dr hdo 3, dr hdo 6, trivial⟩ ?_
 clear hini hdo
 replace hFr:=hFr.ext hED
 replace q1:=q1.ext hED
 replace q3:=q3.ext hED
 replace hp:=hp.ext hED
 have hcl:=gNum_ok hp ((hatx.fr q1).sub 2 1) hok.2.2.1 (by simp only [changeE, List.length_append] at hlen ⊢; omega)
 refine wl_invoke (t := 87) (name := "bastide/note.num") (f := 177) (by decide) mt177 rfl rfl hcl ?_
 clear hcl
 rintro _ w3 ⟨A3, c3, hp3, hF3⟩
 replace hFr:=hFr.fr hF3
 replace q1:=q1.fr hF3
 replace q3:=q3.fr hF3
 replace hp:=hp3
 refine go ?_
 apply wdT 5 [.eq _,.eq _,.eq _,.eq _,.eq _]
 refine ⟨?_,?_,?_,?_,?_,trivial⟩<;>intro F wF hER hk
 exact Ld_ sc123 (hk.qi 2) ((hcap.fr q3).ext hER).head qz
 exact dm (hk.qi 1)
 exact Nc_ (hk.qe 1) qz
 exact Fe_ fld33_3 (hk.qe 2) qz
 have e2:=hk.qi 2
 exact wl_makeFunc (first := []) (cap := [.tmp 2]) (by decide) rfl (by simp only [evs, ev, e2]; rfl) qz
 intro F wD hED hini hdo
 refine wl_drop [(1, _), (2, _), (28, _), (31, _), (32, _)] ⟨di hini 1, di hini 2, dr hdo 0, dr hdo 3, dr hdo 4, trivial⟩ ?_
 clear hini hdo
 replace hFr:=hFr.ext hED
 replace q1:=q1.ext hED
 replace q3:=q3.ext hED
 replace hp:=hp.ext hED
 have hcl:=gListM_ok (E := markE) (ok := markOk) (FV := .func (.func 96) ([] : List Value).toArray [Value.pointer (some ⟨gs2, 0, none⟩)].toArray) (most := 5) hp ((hatx.fr q1).sub 3 1) (hx0.fr q1) (hok.2.2.2.1).2 (fun w1 H1 A c out pa cs x hF hp hat hrd hok hlen => RetV.func (first := []) (cap := [pt gs2 0]) (vs := [.pointer (some pa)]) cl96 (gMark_ok hp hat hrd hok hlen ((hcap.fr q3).frz hF))) (by have := (hok.2.2.2.1).1; unfold isNum; omega) (by simp only [changeE, List.length_append] at hlen ⊢; omega)
 refine Cl_ cl95 rfl hcl ?_
 clear hcl
 rintro _ w4 ⟨A4, c4, hp4, hF4⟩
 replace hFr:=hFr.fr hF4
 replace q1:=q1.fr hF4
 replace q3:=q3.fr hF4
 replace hp:=hp4
 refine go ?_
 apply wdT 6 [.eq _,.eq _,.eq _,.eq _,.eq _,SP.clo _ 123 132 [.iface 87 (pt gw 0)]]
 refine ⟨?_,?_,?_,?_,?_,?_,trivial⟩<;>intro F wF hER hk
 exact Ld_ sc123 (hk.qi 2) ((hcap.fr q3).ext hER).head qz
 exact dm (hk.qi 1)
 exact Nc_ (hk.qe 1) qz
 exact Fe_ fld33_4 (hk.qe 2) qz
 exact Ld_ sc123 (hk.qi 2) ((hcap.fr q3).ext hER).head qz
 have e38:=hk.qe 4
 have hcl:=nStand_ok (w := wF) (t := 87) (v0 := pt gw 0)
 refine Cl_ cl98 (by simp only [evs, ev, e38]; first | done | rfl) hcl ?_
 clear hcl
 rintro _ w7 ⟨g7, rfl, hg7, hb7, hE7⟩
 exact qz ⟨hE7, g7, rfl, Nat.le_trans hER.size hg7, hb7⟩
 intro F wD hED hini hdo
 have e1:=di hini 1
 have e2:=di hini 2
 have e34:=dr hdo 0
 have e37:=dr hdo 3
 obtain ⟨u39, e39, h39⟩ := hdo 5 39 (Nat.lt_of_lt_of_eq (by decide) rfl) rfl
 obtain ⟨g39, rfl, hge39, hb39⟩ := h39
 refine wl_drop [(1, _), (2, _), (34, _), (37, _), (39, _)] ⟨e1, e2, e34, e37, e39, trivial⟩ ?_
 clear e1 e2 e34 e37 e39 hini hdo
 obtain ⟨Fz5, hp5, hsub5, hnew5, hup5⟩ := hp.frz hED
 replace hp:=hp5
 replace hFr:=(hFr.ext hED).wid hsub5
 replace q1:=(q1.ext hED).wid hsub5
 replace q3:=(q3.ext hED).wid hsub5
 have hBq39 : Blk wD g39 123 [.iface 87 (pt gw 0)] := hb39
 have hcq39 : AtF Fz5 wD ⟨g39, 0, none⟩ [.iface 87 (pt gw 0)] := ⟨hBq39.at0, hnew5 _ hge39 hBq39.lt, hBq39.lt⟩
 have hcl:=gListS_ok (E := standE) (ok := standOk) (FV := .func (.func 132) ([] : List Value).toArray [Value.pointer (some ⟨g39, 0, none⟩)].toArray) (most := 8) hp ((hatx.fr q1).sub 4 1) (hx1.fr q1) (hok.2.2.2.2.1).2 (fun w1 H1 A c out pa cs x hF hp hat hrd hok hlen => RetV.func (first := []) (cap := [pt g39 0]) (vs := [.pointer (some pa)]) cl132 (gStand_ok hp hat hrd hok hlen (hcq39.frz hF))) (by have := (hok.2.2.2.2.1).1; unfold isNum; omega) (by simp only [changeE, List.length_append] at hlen ⊢; omega)
 refine Cl_ cl97 rfl hcl ?_
 clear hcl
 rintro _ w6 ⟨A6, c6, hp6, hF6⟩
 replace hFr:=hFr.fr hF6
 replace q1:=q1.fr hF6
 replace q3:=q3.fr hF6
 replace hp:=hp6
 refine go ?_
 apply wdT 6 [.eq _,.eq _,.eq _,.eq _,.eq _,SP.clo _ 123 132 [.iface 87 (pt gw 0)]]
 refine ⟨?_,?_,?_,?_,?_,?_,trivial⟩<;>intro F wF hER hk
 exact Ld_ sc123 (hk.qi 2) ((hcap.fr q3).ext hER).head qz
 exact dm (hk.qi 1)
 exact Nc_ (hk.qe 1) qz
 exact Fe_ fld33_5 (hk.qe 2) qz
 exact Ld_ sc123 (hk.qi 2) ((hcap.fr q3).ext hER).head qz
 have e45:=hk.qe 4
 have hcl:=nStand_ok (w := wF) (t := 87) (v0 := pt gw 0)
 refine Cl_ cl98 (by simp only [evs, ev, e45]; first | done | rfl) hcl ?_
 clear hcl
 rintro _ w7 ⟨g7, rfl, hg7, hb7, hE7⟩
 exact qz ⟨hE7, g7, rfl, Nat.le_trans hER.size hg7, hb7⟩
 intro F wD hED hini hdo
 have e41:=dr hdo 0
 have e44:=dr hdo 3
 obtain ⟨u46, e46, h46⟩ := hdo 5 46 (Nat.lt_of_lt_of_eq (by decide) rfl) rfl
 obtain ⟨g46, rfl, hge46, hb46⟩ := h46
 refine wl_drop [(41, _), (44, _), (46, _)] ⟨e41, e44, e46, trivial⟩ ?_
 clear e41 e44 e46 hini hdo
 obtain ⟨Fz7, hp7, hsub7, hnew7, hup7⟩ := hp.frz hED
 replace hp:=hp7
 replace hFr:=(hFr.ext hED).wid hsub7
 replace q1:=(q1.ext hED).wid hsub7
 have hBq46 : Blk wD g46 123 [.iface 87 (pt gw 0)] := hb46
 have hcq46 : AtF Fz7 wD ⟨g46, 0, none⟩ [.iface 87 (pt gw 0)] := ⟨hBq46.at0, hnew7 _ hge46 hBq46.lt, hBq46.lt⟩
 have hcl:=gListS_ok (E := standE) (ok := standOk) (FV := .func (.func 132) ([] : List Value).toArray [Value.pointer (some ⟨g46, 0, none⟩)].toArray) (most := 32) hp ((hatx.fr q1).sub 5 1) (hx2.fr q1) (hok.2.2.2.2.2).2 (fun w1 H1 A c out pa cs x hF hp hat hrd hok hlen => RetV.func (first := []) (cap := [pt g46 0]) (vs := [.pointer (some pa)]) cl132 (gStand_ok hp hat hrd hok hlen (hcq46.frz hF))) (by have := (hok.2.2.2.2.2).1; unfold isNum; omega) (by simp only [changeE, List.length_append] at hlen ⊢; omega)
 refine Cl_ cl97 rfl hcl ?_
 clear hcl
 rintro _ w8 ⟨A8, c8, hp8, hF8⟩
 replace hFr:=hFr.fr hF8
 replace hp:=hp8
 refine go ?_
 refine wk_post0 (.inr rfl) results57  ?_
 rw [show out ++ changeE x = ((((((out ++ numE x.node) ++ numE x.view) ++ numE x.low) ++ listE markE x.marks) ++ listE standE x.p) ++ listE standE x.q) from by simp only [changeE, ← List.append_assoc]]
 exact ⟨_, rfl, _, _, hp.less hFr.sub, hFr.chg, fun _ h => h⟩
set_option maxHeartbeats 40000000 in
theorem gAnswer_ok {gw : Nat} {out : List UInt8} {pa : Addr} {cs : List Value} {x : Ans} (hp : HP w0 M0 Fz w (itB gw 89 [.slice A out.length c] :: itR 5 1 A out.length c (out.map bv) :: H)) (hatx : AtF Fz w pa cs) (hrd : ansR.rd Fz w cs x) (hok : ansOk x) (hlen : out.length + (ansE x).length ≤ 1000000) (hmb : MutF Fz w pa.block) : Ret prog 108 #[.iface 87 (.pointer (some ⟨gw, 0, none⟩)), .pointer (some pa)] w (WrP 5 89 gw w0 M0 Fz w H (out ++ ansE x)) := by
 have hFr:=Frz.start Fz w
 obtain ⟨hIx, B0, d0, B1, d1, rfl, hx0, hx1⟩ := hrd
 refine ret_of_wk func108 rfl ntmps108 leB_ ?_
 refine go ?_
 refine Fe_ fld29_0 rfl ?_
 refine Ld_ sc25 rfl (hatx.get rfl) ?_
 refine wl_halloc (e := 3) (z := iv 0) (by decide) (by kernel_rfl) hp ?_
 rintro gs4 w1 hp1 hE1
 replace hFr:=hFr.ext hE1
 have q0:=hE1
 replace hp:=hp1
 refine wl_hstore1 (i := 0) rfl rfl hp rfl sz3 (Nat.lt_of_lt_of_le (Nat.lt_succ_self _) leB_) rfl ?_
 rintro w2 hp2 hC2
 replace hFr:=hFr.fz hC2
 have q1:=hatx.tk.ext q0
 replace q1:=q1.fz hC2
 replace hp:=hp2
 obtain ⟨Fz3, hp3, hs3, hat3⟩ := (hp.as_ (H' := itB gs4 3 [iv x.err] :: _) rfl).frzBlk
 replace hp:=hp3
 replace hFr:=hFr.wid hs3
 replace q1:=q1.wid hs3
 refine go ?_
 have hcl:=gNum_ok hp (hat3) hok.1 (by simp only [ansE, List.length_append] at hlen ⊢; omega)
 refine wl_invoke (t := 87) (name := "bastide/note.num") (f := 177) (by decide) mt177 rfl rfl hcl ?_
 clear hcl
 rintro _ w4 ⟨A4, c4, hp4, hF4⟩
 replace hFr:=hFr.fr hF4
 replace q1:=q1.fr hF4
 have q2:=hat3.tk.fr hF4
 replace hp:=hp4
 refine go ?_
 refine Ld_ sc3 rfl (hat3.fr q2).head (go ?_)
 refine Fe_ fld29_0 rfl ?_
 refine wl_sameF rfl rfl ((hatx.fr q1).sub 0 1) (by rw [block_add]; exact (hmb.fr q1)) sz25 rfl rfl ?_
 refine go ?_
 apply wdT 7 [.eq _,.eq _,.eq _,.eq _,.eq _,.eq _,.eq _]
 refine ⟨?_,?_,?_,?_,?_,?_,?_,trivial⟩<;>intro F wF hER hk
 exact dm (hk.qi 0)
 exact dm (hk.qi 1)
 exact Nc_ (hk.qe 1) qz
 exact Fe_ fld29_1 (hk.qe 2) qz
 have e15:=hk.qe 0
 exact wl_makeFunc (first := [.tmp 15]) (cap := []) (by decide) (by simp only [evs, ev, e15]; rfl) rfl qz
 exact wl_nilCheckM (t := 87) (by decide) mt178 (hk.qe 4) qz
 exact dm (hk.qe 0)
 intro F wD hED hini hdo
 refine wl_drop [(0, _), (1, _), (18, _), (21, _)] ⟨di hini 0, di hini 1, dr hdo 3, dr hdo 6, trivial⟩ ?_
 clear hini hdo
 replace hFr:=hFr.ext hED
 replace q1:=q1.ext hED
 replace hp:=hp.ext hED
 have hcl:=gStr_ok (v9 := iv 16) hp ((hatx.fr q1).sub 1 1) (hx0.fr q1) (by have := hok.2.1; omega) (by simp only [ansE, List.length_append] at hlen ⊢; omega)
 refine wl_invoke (t := 87) (name := "bastide/note.str") (f := 178) (by decide) mt178 rfl rfl hcl ?_
 clear hcl
 rintro _ w5 ⟨A5, c5, hp5, hF5⟩
 replace hFr:=hFr.fr hF5
 replace q1:=q1.fr hF5
 replace hp:=hp5
 refine go ?_
 apply wdT 7 [.eq _,.eq _,.eq _,.eq _,.eq _,.eq _,.eq _]
 refine ⟨?_,?_,?_,?_,?_,?_,?_,trivial⟩<;>intro F wF hER hk
 exact dm (hk.qi 0)
 exact dm (hk.qi 1)
 exact Nc_ (hk.qe 1) qz
 exact Fe_ fld29_2 (hk.qe 2) qz
 have e23:=hk.qe 0
 exact wl_makeFunc (first := [.tmp 23]) (cap := []) (by decide) (by simp only [evs, ev, e23]; rfl) rfl qz
 exact wl_nilCheckM (t := 87) (by decide) mt177 (hk.qe 4) qz
 exact dm (hk.qe 0)
 intro F wD hED hini hdo
 refine wl_drop [(0, _), (1, _), (26, _), (29, _)] ⟨di hini 0, di hini 1, dr hdo 3, dr hdo 6, trivial⟩ ?_
 clear hini hdo
 replace hFr:=hFr.ext hED
 replace q1:=q1.ext hED
 replace hp:=hp.ext hED
 have hcl:=gNum_ok hp ((hatx.fr q1).sub 2 1) hok.2.2.1 (by simp only [ansE, List.length_append] at hlen ⊢; omega)
 refine wl_invoke (t := 87) (name := "bastide/note.num") (f := 177) (by decide) mt177 rfl rfl hcl ?_
 clear hcl
 rintro _ w6 ⟨A6, c6, hp6, hF6⟩
 replace hFr:=hFr.fr hF6
 replace q1:=q1.fr hF6
 replace hp:=hp6
 refine go ?_
 apply wdT 7 [.eq _,.eq _,.eq _,.eq _,.eq _,.eq _,.eq _]
 refine ⟨?_,?_,?_,?_,?_,?_,?_,trivial⟩<;>intro F wF hER hk
 exact dm (hk.qi 0)
 exact dm (hk.qi 1)
 exact Nc_ (hk.qe 1) qz
 exact Fe_ fld29_3 (hk.qe 2) qz
 exact dm (hk.qi 0)
 exact wl_nilCheckI (by decide) (hk.qe 4) qz
 have e36:=hk.qe 5
 exact wl_makeFunc (first := [.tmp 36]) (cap := []) (by decide) (by simp only [evs, ev, e36]; rfl) rfl qz
 intro F wD hED hini hdo
 refine wl_drop [(31, _), (34, _), (37, _)] ⟨dr hdo 0, dr hdo 3, dr hdo 6, trivial⟩ ?_
 clear hini hdo
 replace hFr:=hFr.ext hED
 replace q1:=q1.ext hED
 replace hp:=hp.ext hED
 have hcl:=gListI_ok (E := numE) (ok := isNum) (FV := .func (.method "bastide/note.num") [Value.iface 87 (pt gw 0)].toArray ([] : List Value).toArray) (most := 7) hp ((hatx.fr q1).sub 3 1) (hx1.fr q1) (hok.2.2.2).2 (fun w1 H1 A c out pa cs x hF hp hat hrd hok hlen => by
   obtain rfl : _ = _ := hrd
   exact RetV.meth (vs := [.pointer (some pa)]) mt177 (gNum_ok hp hat hok hlen)) (by have := (hok.2.2.2).1; unfold isNum; omega) (by simp only [ansE, List.length_append] at hlen ⊢; omega)
 refine Cl_ cl114 rfl hcl ?_
 clear hcl
 rintro _ w7 ⟨A7, c7, hp7, hF7⟩
 replace hFr:=hFr.fr hF7
 replace hp:=hp7
 refine go ?_
 refine wk_post0 (.inr rfl) results108  ?_
 rw [show out ++ ansE x = ((((out ++ numE x.err) ++ strE x.data) ++ numE x.epoch) ++ listE numE x.nodes) from by simp only [ansE, ← List.append_assoc]]
 exact ⟨_, rfl, _, _, hp.less hFr.sub, hFr.chg, fun _ h => h⟩
set_option maxHeartbeats 40000000 in
theorem wBatch_ok {Al : Option Addr} {cl : Nat} {l : List Wsh} {Sl : Nat → Prop} (hl : GS wishR Sl w Al cl l) (hok : batchOk l) : Ret prog 179 #[.slice Al l.length cl] w (fun v w' => ∃ A' c', v = .tuple #[.slice A' (blistE l).length c', .int .i64 0] ∧ OwnB 5 w.heap.size w' A' c' (blistE l) ∧ Ext w w') := by
 have hnl : isNum (l.length : Int) := by have := hok.1; unfold isNum; omega
 have hbl4:=hok.1
 have hbe : blistE l = numE (l.length : Int) ++ flatE witemE l := rfl
 refine ret_of_wk func179 rfl ntmps179 leB_ ?_
 have hp:=HP.begin_ w
 refine so ?_
 refine Cd ?_ ?_<;>intro hc<;>refine so ?_
 omega
 refine wl_bsliceI (xs := [.tmp 14]) (l := [(l.length : Int)]) (by decide) sl27 rfl rfl rfl leB_ ?_
 intro gb9 wb9 hbs1 hEb9
 replace hp:=hp.ext hEb9
 have hn1 : flatE numE [(l.length : Int)] = numE (l.length : Int) := by simp [flatE]
 refine Ce (nums_ok (l := [(l.length : Int)]) hbs1 (by intro y hy; rw [List.mem_singleton.1 hy]; exact hnl) leB_) ?_
 rintro _ w9 ⟨A9, c9, rfl, ho9, hE9⟩
 rw [hn1] at ho9 ⊢
 replace hp:=((hp.ownRow hE9 ho9).as_ (H' := itR 5 1 A9 (numE (l.length : Int)).length c9 ((numE (l.length : Int)).map bv) :: _) rfl)
 refine so ?_
 refine wc_loop (fun L' w' mes => ∃ (k : Nat), ∃ (A2 : Option Addr), ∃ (c2 : Nat), L' = [(4, .slice A2 (numE (l.length : Int) ++ flatE witemE (l.take k)).length c2), (17, .slice Al l.length cl), (18, iv (l.length : Int)), (19, iv (k : Int))] ∧ (k ≤ l.length) ∧ (GS wishR (fun b => b < w.heap.size) w' Al cl l) ∧ (HP w (fun _ => False) (fun b => b < w.heap.size) w' (itR 5 1 A2 (numE (l.length : Int) ++ flatE witemE (l.take k)).length c2 ((numE (l.length : Int) ++ flatE witemE (l.take k)).map bv) :: [])) ∧ l.length - k = mes) [(4, .slice A9 (numE (l.length : Int) ++ flatE witemE (l.take 0)).length c9), (17, .slice Al l.length cl), (18, iv (l.length : Int)), (19, iv (0 : Int))] (l.length - 0) (by
     refine ⟨0, A9, c9, rfl, ?_, ?_, ?_, rfl⟩
     · exact Nat.zero_le _
     · exact hl.tn
     · rw [List.take_zero, flatE_nil, List.append_nil]; exact hp) ⟨(by rw [List.take_zero, flatE_nil, List.append_nil]; rfl), rfl, rfl, rfl, trivial⟩ ?_
 rintro _ wr _ ⟨k, A2, c2, rfl, hk, hl, hp, rfl⟩ KL1 hKL1
 refine so ?_
 refine Cd ?_ ?_<;>intro hk8
 have hk9 : k < l.length := by omega
 have hsucc:=flat_takeD witemE l k wish0 hk9
 refine so ?_
 obtain ⟨ae1, pe1_0, qe1_0, pe1_1, qe1_1, hAe1, hate1, hIe1, he1_0, he1_1⟩ := wishR_el hl k (by omega)
 refine so ?_
 refine Alo hp (h := fun gs6 w2 hp hE2 => ?_)
 refine Hs 0 hp (h := fun w3 hp hC3 => so ?_)
 have hmx : WishMay (l.getD k wish0) := getD_may hok.2 hk9
 refine Ce (wBytes_ok (x := (l.getD k wish0)) ⟨hIe1, _, _, _, _, rfl, he1_0.to, he1_1.to⟩ hmx) ?_
 rintro _ w4 ⟨A4, c4, rfl, ho4, hE4⟩
 replace hp:=hp.ext hE4
 refine so ?_
 refine aF (so ?_)
 have hsl : (wishE (l.getD k wish0)).length ≤ 65536 := (by have := (wish_fine hmx).2; omega)
 have hcl:=str_ok ho4.bs
 rw [str_good hsl] at hcl
 dsimp only at hcl
 refine Ce (hcl) ?_
 rintro _ w5 ⟨A5, c5, rfl, ho5, hE5⟩
 replace hp:=hp.ext hE5
 refine so ?_
 refine aF (so ?_)
 have hit8:=strE_len _ hsl
 have hf8:=flatE_len witemE (l.take k) 164 (fun y hy => witem_len (hok.2 y (List.mem_of_mem_take hy)))
 rw [List.length_take] at hf8
 have hn8:=numE_len hnl
 refine wl_happendB (i := 1) (l2 := (strE (wishE (l.getD k wish0)))) (by decide) sl26 rfl rfl hp rfl ho5.bs (by rw [List.length_append]; omega) ?_
 rintro A8 c8 w6 hp hC6
 refine sl ?_
 refine wc_region ?_
 refine sl ?_
 refine wk_drop [(4, .slice A8 (numE (l.length : Int) ++ flatE witemE (l.take (k + 1))).length c8), (17, .slice Al l.length cl), (18, iv (l.length : Int)), (19, iv ((k + 1) : Int))] ⟨(by rw [hsucc, ← List.append_assoc]; rfl), rfl, rfl, rfl, trivial⟩ (hKL1 _ _ (m2 := l.length - (k + 1)) ?_ ?_)
 refine ⟨(k + 1), A8, c8, rfl, by omega, hl.to, ?_, rfl⟩
 rw [hsucc, ← List.append_assoc]; exact hp.tail
 omega
 have hkl : k = l.length := by omega
 refine so ?_
 refine P2 results179 ?_
 subst hkl
 rw [List.take_length] at hp ⊢
 exact ⟨_, rfl, A2, c2, rfl, hp.rowLo (i := 0) rfl, hp.chg⟩
theorem t0_wUnb_ok {p : Prop} (h : p := by first | exact .inr (by omega) | exact .inl (decide_eq_true (by assumption)) | exact .inl (by assumption)) : p := h
set_option maxHeartbeats 40000000 in
theorem wUnb_ok {l : List UInt8} (hp : HP w0 M0 Fz w H) (hl : GS byteR Fz w A c l) : Ret prog 190 #[.slice A l.length c] w (fun v w2 => ∃ F2 A' c' xs e, v = .tuple #[.slice A' (xs : List Wsh).length c', .int .i64 e] ∧ HP w0 M0 F2 w2 H ∧ Frz Fz F2 w w2 ∧ GS wishR F2 w2 A' c' xs ∧ UnbR l xs e) := by
 refine ret_of_wk func190 rfl ntmps190 leB_ ?_
 refine so ?_
 refine wl_builtS (ps := [(0, .tmp 10)]) (by decide) bld207 rfl rfl ?_
 refine Bx hp (h := fun gs12 w1 hp hE1 => so ?_)
 refine Ce (wMany_ok (most := 4) hp hl.to (by decide)) ?_
 rintro _ w2 ⟨F2, A2, c2, l2, b2, x2, rfl, hp, hF2, hl2, hst2, hxm2⟩
 refine so ?_
 refine Lp [4, 5, 14, 15] (fun L' w' mes => ∃ (k : Nat), ∃ (Fq : Nat → Prop), ∃ (Aq : Option Addr), ∃ (cq : Nat), ∃ (lq : List UInt8), ∃ (bq : Int), ∃ (AL : Option Addr), ∃ (cL : Nat), ∃ (xs : List Wsh), ∃ (rows : List (List Value)), L' = [(4, pt gs12 0), (5, .slice AL xs.length cL), (14, iv x2), (15, iv (k : Int))] ∧ (k ≤ x2.toNat) ∧ (xs.length = k) ∧ (RF wishR Fq w' rows xs) ∧ (Frz Fz Fq w w') ∧ (GS byteR Fq w' Aq cq lq) ∧ (StepP (repP witemP k) (rst (decide (b2 ≠ 0)) l2) (rst (decide (bq ≠ 0)) lq) xs) ∧ (HP w0 M0 Fq w' (itB gs12 207 [.slice Aq lq.length cq, iv bq] :: itR 68 10 AL xs.length cL rows.flatten :: H)) ∧ x2.toNat - k = mes) (x2.toNat - 0) (by
     refine ⟨0, F2, A2, c2, l2, b2, none, 0, [], [], rfl, Nat.zero_le _, ?_, RF.nil _ _ _, mv, hl2, StepP.pure _ _, ((((hp.noRow 68 10).up 0 rfl).up 1 rfl)).as_ (H' := _ :: _ :: _) rfl, rfl⟩
     rfl) ?_
 rintro _ wr _ ⟨k, Fq, Aq, cq, lq, bq, AL, cL, xs, rows, rfl, hk, hxk, hRF, hFr, hlq, hstL, hp, rfl⟩ KL1 hKL1
 refine so ?_
 refine Cd ?_ ?_<;>intro hc1<;>refine so ?_
 refine Ce (wStr_ok (most := 256) hp hlq) ?_
 rintro v3 w3 ⟨F3, A3, c3, l3, b3, cs3, x3, hv3, hp, hF3, hl3, hrd3, hst3⟩
 obtain ⟨B3, d3, rfl, hg3⟩ := hrd3
 obtain rfl : v3 = .slice B3 x3.length d3 := hv3
 refine so ?_
 refine Cd ?_ ?_<;>intro hc2<;>refine so ?_
 refine wP 6 hp (h := fun wD hp hED => so ?_)
 refine P2 results190 ?_
 have hpE:=hp.tail.tail
 exact ⟨_, rfl, _, none, 0, [], _, rfl, hpE, mv, gsn, .inr ⟨by assumption, unb_fail (StepP.bind hst2 (rep_fail (k := k) (n := x2.toNat) hstL (step_witem_no (x := wish0) (eP := 0) hst3 (.inl (by assumption))) (by omega))), rfl⟩⟩
 refine Ce (wParse_ok hp hg3) ?_
 rintro _ w4 ⟨F4, cs4, x4, e4, rfl, hp, hF4, hrd4, hpr4⟩
 have qhrd4:=hrd4
 obtain ⟨hI4, A4_0, c4_0, A4_1, c4_1, rfl, hr4_0, hr4_1⟩ := hrd4
 refine so ?_
 refine Alo hp (h := fun gs7 w5 hp hE5 => ?_)
 refine Hs 0 hp (h := fun w6 hp hC6 => so ?_)
 refine Cd ?_ ?_<;>intro hc3<;>refine so ?_
 refine P2 results190 ?_
 have hpE:=hp.tail.tail.tail
 exact ⟨_, rfl, _, none, 0, [], _, rfl, hpE, mv, gsn, .inr ⟨by assumption, unb_fail (StepP.bind hst2 (rep_fail (k := k) (n := x2.toNat) hstL (step_witem_no hst3 (.inr ⟨by assumption, hpr4, by assumption⟩)) (by omega))), rfl⟩⟩
 refine wl_oneOf (by decide) sl24 rfl rfl rfl leB_ ?_
 rintro _ wo hOn hEo
 replace hp:=hp.ext hEo
 obtain ⟨gt, rfl, hat9⟩ := hOn
 refine wl_happend (i := 2) (m := 1) (size := 10) (news := [iv x4.client, iv x4.stamp, iv x4.group, iv x4.epoch, iv x4.kind, iv x4.block, .slice A4_0 x4.data.length c4_0, iv x4.old, iv x4.new, .slice A4_1 x4.next.length c4_1]) (by decide) sl24 rfl rfl hp rfl rfl (fun b hb => by cases hb; exact hat9) (by simp) (List.all_eq_true.1 rfl) (by omega) ?_
 rintro Aw cw ww hpw hCw
 replace hp:=hpw
 have hst4:=step_witem hst3 (by assumption) hpr4 (by assumption)
 refine sl ?_
 refine wc_region ?_
 refine sl ?_
 refine wk_drop [(4, pt gs12 0), (5, .slice Aw (xs ++ [x4]).length cw), (14, iv x2), (15, iv ((k + 1) : Int))] ⟨rfl, (by rw [List.length_append]; rfl), rfl, rfl, trivial⟩ (hKL1 _ _ (m2 := x2.toNat - (k + 1)) ?_ ?_)
 refine ⟨(k + 1), F4, A3, c3, l3, b3, Aw, cw, (xs ++ [x4]), (rows ++ [[iv x4.client, iv x4.stamp, iv x4.group, iv x4.epoch, iv x4.kind, iv x4.block, .slice A4_0 x4.data.length c4_0, iv x4.old, iv x4.new, .slice A4_1 x4.next.length c4_1]]), rfl, by omega, ?_, hRF.to.append (RF.one (rdTo qhrd4)), mv, hl3.to, StepP.snoc hstL hst4, ?_, rfl⟩
 rw [List.length_append, hxk]; rfl
 rw [flat_snoc, List.length_append]; exact (((hp.tail.up 1 rfl).up 1 rfl).as_ (H' := _ :: _ :: _) rfl)
 omega
 have hrowA:=hp.rowAt (i := 1) rfl
 obtain ⟨F8, hp8, hs8, hb8⟩ := ((hp.up 1 rfl).as_ (H' := _ :: _ :: _) rfl).frzRow
 have hgs:=OwnRow.gsRF (r := wishR) hrowA (hRF.wid hs8) hb8
 replace hp:=hp8
 refine so ?_
 refine Ce (wEnd_ok hp hlq.to) ?_
 rintro _ w7 ⟨e2, e3, rfl, hen, hp, hF7⟩
 replace hgs:=hgs.fz hF7.chg
 refine so ?_
 refine Cd ?_ ?_<;>intro hc4<;>refine so ?_
 refine P2 results190 ?_
 have hpE:=hp.tail
 exact ⟨_, rfl, _, none, 0, [], _, rfl, hpE, mv, gsn, .inr ⟨by assumption, unb_no (show StepP blistP (some l) _ _ from (StepP.bind hst2 (rep_end hstL hk t0_wUnb_ok))) hen (by assumption), rfl⟩⟩
 refine P2 results190 ?_
 have hpE:=hp.tail
 exact ⟨_, rfl, _, _, _, xs, 0, rfl, hpE, mv, hgs, .inl ⟨rfl, unb_some (show StepP blistP (some l) _ _ from (StepP.bind hst2 (rep_end hstL hk t0_wUnb_ok))) hen (by omega)⟩⟩
end Go.Proofs.YtkdoomglflikkaaGreat
