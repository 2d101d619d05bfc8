/- What each of these functions computes, for every argument that its theorem names; a part of what the proof of NoteChecks stands on. -/
import Derived.Test.YtkdoomglflikkaaGreatCac
import Derived.Test.YtkdoomglflikkaaGreatCad
import Derived.Test.YtkdoomglflikkaaGreatCae
import Derived.Test.YtkdoomglflikkaaGreatCag
import Derived.Test.YtkdoomglflikkaaGreatCah
import Derived.Test.YtkdoomglflikkaaGreatCaj
import Derived.Test.YtkdoomglflikkaaGreatCak
namespace Go.Proofs.YtkdoomglflikkaaGreat
open Go.RowKit Go.Eng Go.Eng _root_.Go.Proofs.Tryz
set_option maxRecDepth 100000
variable {w0 w : World} {M0 Fz : Nat → Prop} {H : List It} {A : Option Addr} {c : Nat}
theorem pickR_el {S : Nat → Prop} {w : World} {A : Option Addr} {c : Nat} {l : List Pck} (h : GS pickR S w A c l) (i : Nat) (hi : i < l.length) : ∃ a A0 c0, A = some a ∧ AtF S w (a.add (i * 34)) ([.int .i64 (l.getD i pick0).seq] ++ (digC (l.getD i pick0).dig ++ ([.slice A0 (l.getD i pick0).batch.length c0]))) ∧ PckI (l.getD i pick0) ∧ GS wishR S w A0 c0 (l.getD i pick0).batch := by
 obtain ⟨a, cs, h1, h2, hI, A0, c0, rfl, k0⟩ := GS.el h i hi
 have e : (l.getD i pick0) = l[i] := by rw [List.getD_eq_getElem?_getD, List.getElem?_eq_getElem hi]; rfl
 rw [e]
 exact ⟨a, _, _, h1, h2, hI, k0⟩
end Go.Proofs.YtkdoomglflikkaaGreat
namespace Go.Proofs.YtkdoomglflikkaaGreat
open Go.ChangeShapes Go.WideShapes Go.ChangeAt Go.RowKit Go.Eng Go.Eng _root_.Go.Proofs.Tryz
set_option maxRecDepth 100000
variable {w0 w : World} {M0 Fz : Nat → Prop} {H : List It} {A : Option Addr} {c : Nat}
theorem reads_t30 : ReadsR Tryz.prog 30 (sliceR markR) (fun l => l.length * 40 ≤ 140737488355328) := fun H enc w base sp held fuel cs x h hl hw => by
 obtain ⟨v, h1, h2⟩ := reads_slice (size := 33) (bytes := 40) Tryz.underlying30 rfl (by decide) Tryz.ce95 Tryz.by95 (by decide) reads_Mrk H enc w base sp held fuel cs x h hl hw
 exact ⟨v, h1, h2.2⟩
end Go.Proofs.YtkdoomglflikkaaGreat
namespace Go.Proofs.YtkdoomglflikkaaGreat
open Go.RowKit Go.Eng Go.Eng _root_.Go.Proofs.Tryz
set_option maxRecDepth 100000
variable {w0 w : World} {M0 Fz : Nat → Prop} {H : List It} {A : Option Addr} {c : Nat}
set_option maxHeartbeats 40000000 in
theorem sameMarks_ok {Aa : Option Addr} {ca : Nat} {a : List Mrk} {Sa : Nat → Prop} {Ab : Option Addr} {cb : Nat} {b : List Mrk} {Sb : Nat → Prop} (ha : GS markR Sa w Aa ca a) (hb : GS markR Sb w Ab cb b) : Ret prog 59 #[.slice Aa a.length ca, .slice Ab b.length cb] w (fun v w' => v = .bool (decide (a = b)) ∧ Ext w w') := by
 have mha:=ha.mx
 have mhb:=hb.mx
 refine ret_of_wk func59 rfl ntmps59 leB_ ?_
 refine so ?_
 refine Cd ?_ ?_<;>intro hne
 refine so ?_
 refine Pt ?_
 exact ⟨_, rfl, bool_f (fun e => hne (by rw [e])), me⟩
 have hll : a.length = b.length := by omega
 refine so ?_
 refine Lp [0, 1, 5] (fun L' w' mes => ∃ (k : Nat), L' = [(0, .slice Aa a.length ca), (1, .slice Ab b.length cb), (5, iv (k : Int))] ∧ (k ≤ a.length) ∧ (a.take k = b.take k) ∧ Ext w w' ∧ a.length - k = mes) (a.length - 0) (by
     refine ⟨0, rfl, ?_, ?_, me, rfl⟩
     omega
     simp) ?_
 rintro _ wr _ ⟨k, rfl, hk, htk, hEq0, rfl⟩ KL1 hKL1
 refine so ?_
 refine Cd ?_ ?_<;>intro hlt
 refine so ?_
 obtain ⟨aw2, hAw2, hatw2, hIw2⟩ := markR_el (ha.to (w' := wr)) k (by omega)
 obtain ⟨aw6, hAw6, hatw6, hIw6⟩ := markR_el (hb.to (w' := wr)) k (by omega)
 refine wdE 9 (fun wD hED => by refine pm ?_; exact .op rfl (wl_neqK (m := 6) ((a.getD k mark0) = (b.getD k mark0)) (by decide) key95 eg95 rfl rfl hIw2.fit hIw6.fit mark_inj (wl_nil qp)) pl) fun wD hED => ?_
 refine so ?_
 refine Cd ?_ ?_<;>intro hne2<;>refine so ?_
 refine Pt ?_
 exact ⟨_, rfl, bool_f (fun e => hne2 (by rw [e])), me⟩
 refine Kl [0, 1, 5] hKL1 (a.length - (k + 1)) ⟨(k + 1), rfl, by omega, ?_, me, rfl⟩ (by omega)
 rw [take_snoc mark0 (by omega : k < a.length), take_snoc mark0 (by omega : k < b.length), htk, Decidable.not_not.1 hne2]
 have hkl : k = a.length := by omega
 refine so ?_
 refine Pt ?_
 exact ⟨_, rfl, bool_t (by rw [hkl, List.take_length, hll, List.take_length] at htk; exact htk), me⟩
set_option maxHeartbeats 40000000 in
theorem sameStands_ok {Aa : Option Addr} {ca : Nat} {a : List Stn} {Sa : Nat → Prop} {Ab : Option Addr} {cb : Nat} {b : List Stn} {Sb : Nat → Prop} (ha : GS standR Sa w Aa ca a) (hb : GS standR Sb w Ab cb b) : Ret prog 60 #[.slice Aa a.length ca, .slice Ab b.length cb] w (fun v w' => v = .bool (decide (a = b)) ∧ Ext w w') := by
 have mha:=ha.mx
 have mhb:=hb.mx
 refine ret_of_wk func60 rfl ntmps60 leB_ ?_
 refine so ?_
 refine Cd ?_ ?_<;>intro hne
 refine so ?_
 refine Pt ?_
 exact ⟨_, rfl, bool_f (fun e => hne (by rw [e])), me⟩
 have hll : a.length = b.length := by omega
 refine so ?_
 refine Lp [0, 1, 5] (fun L' w' mes => ∃ (k : Nat), L' = [(0, .slice Aa a.length ca), (1, .slice Ab b.length cb), (5, iv (k : Int))] ∧ (k ≤ a.length) ∧ (a.take k = b.take k) ∧ Ext w w' ∧ a.length - k = mes) (a.length - 0) (by
     refine ⟨0, rfl, ?_, ?_, me, rfl⟩
     omega
     simp) ?_
 rintro _ wr _ ⟨k, rfl, hk, htk, hEq0, rfl⟩ KL1 hKL1
 refine so ?_
 refine Cd ?_ ?_<;>intro hlt
 refine so ?_
 obtain ⟨aw2, hAw2, hatw2, hIw2⟩ := standR_el (ha.to (w' := wr)) k (by omega)
 obtain ⟨aw6, hAw6, hatw6, hIw6⟩ := standR_el (hb.to (w' := wr)) k (by omega)
 refine wdE 9 (fun wD hED => by refine pm ?_; exact .op rfl (wl_neqK (m := 6) ((a.getD k stand0) = (b.getD k stand0)) (by decide) key97 eg97 rfl rfl hIw2.fit hIw6.fit stand_inj (wl_nil qp)) pl) fun wD hED => ?_
 refine so ?_
 refine Cd ?_ ?_<;>intro hne2<;>refine so ?_
 refine Pt ?_
 exact ⟨_, rfl, bool_f (fun e => hne2 (by rw [e])), me⟩
 refine Kl [0, 1, 5] hKL1 (a.length - (k + 1)) ⟨(k + 1), rfl, by omega, ?_, me, rfl⟩ (by omega)
 rw [take_snoc stand0 (by omega : k < a.length), take_snoc stand0 (by omega : k < b.length), htk, Decidable.not_not.1 hne2]
 have hkl : k = a.length := by omega
 refine so ?_
 refine Pt ?_
 exact ⟨_, rfl, bool_t (by rw [hkl, List.take_length, hll, List.take_length] at htk; exact htk), me⟩
theorem ChangeMay_prog {cg : Chn} : ChangeMay cg ↔ (1 ≤ cg.node ∧ cg.node ≤ 28) ∧ (1 ≤ cg.view ∧ cg.view ≤ 1048576) ∧ (0 ≤ cg.low ∧ cg.low ≤ 9007199254740983) ∧ (1 ≤ cg.marks.length ∧ cg.marks.length ≤ 5) ∧ (cg.marks.getD 0 mark0).seq = cg.low ∧
  RiseI (mseq cg cg.marks.length) ∧ (cg.marks.getD (cg.marks.length - 1) mark0).seq ≤ 9007199254740991 ∧ StandsMay cg.p cg.low cg.view 1 ∧ StandsMay cg.q cg.low cg.view 4 := by
 unfold ChangeMay
 constructor
 ·rintro ⟨a1, a2, a3, a4, a5, a6, a7, a8, a9, a10, a11, a12⟩
  refine ⟨⟨a1, a2⟩, ⟨a3, a4⟩, ⟨a5, a6⟩, ⟨a7, a8⟩, a9, marks_fwd a10, ?_, a11, a12⟩
  by_cases h1 : cg.marks.length = 1
  ·rw [h1]; show (cg.marks.getD 0 mark0).seq ≤ _; omega
  ·exact (a10 (cg.marks.length - 1) (by omega) (by omega)).2
 ·rintro ⟨⟨a1, a2⟩, ⟨a3, a4⟩, ⟨a5, a6⟩, ⟨a7, a8⟩, a9, a10, a13, a11, a12⟩
  exact ⟨a1, a2, a3, a4, a5, a6, a7, a8, a9, marks_back a10 a13, a11, a12⟩
set_option maxHeartbeats 40000000 in
theorem nStr_ok {gr : Nat} {l : List UInt8} {bad : Bool} {X : List Value → It} {pX : Addr} {most : Int} (hp : HP w0 M0 Fz w (itB gr 103 [.slice A l.length c, .bool bad] :: X ([.slice none 0 0]) :: H)) (hS : Slot X pX 1) (hl : GS byteR Fz w A c l) : Ret prog 189 #[.pointer (some ⟨gr, 0, none⟩), .pointer (some pX), .int .i64 most] w (RdP 103 gr w0 M0 Fz w H X (sliceR byteR) (strP most) bad l) := by
 refine ret_of_wk func189 rfl ntmps189 leB_ ?_
 refine so ?_
 refine Ce (takeStr_ok (most := most) hl) ?_
 rintro _ w1 ⟨A1, c1, B1, d1, rfl, ho1, hq1, hE1⟩
 replace ho1:=ho1.bs
 replace hq1:=hq1.bs
 have hsz2:=hp.chg.size
 obtain ⟨Fz2, hp2, hsub2, hnew2, hup2⟩ := hp.frz hE1
 replace hp:=hp2
 replace ho1:=ho1.frz hnew2
 replace hq1:=hq1.frz hnew2
 refine so ?_
 refine Ce (nTook_ok (e := (takeStrS l most).2.2) hp hl.to hq1) ?_
 rintro _ w3 ⟨b3, A3, c3, l3, rfl, hb3, hn3, hp, hF3, hl3⟩
 replace ho1:=ho1.fz hF3.chg
 refine so ?_
 refine Cd ?_ ?_<;>intro ht<;>refine so ?_
 refine wl_sstore1 0 (i := 1) hS (by rw [add_zero']; rfl) rfl hp rfl rfl sz26 (by decide) rfl ?_
 rintro w4 hp hC4
 replace hp:=hp.ay (_ :: X ([.slice A1 (takeStrS l most).1.length c1]) :: _)
 refine so ?_
 refine wk_post0 (.inr rfl) results189  ?_
 exact ⟨_, rfl, _, A3, c3, l3, b3, _, _, hp, mv, hl3.to, sliceR_mk ho1.to, step_str hb3 (fun h => ⟨hn3 h, rfl⟩)⟩
 refine wk_post0 (.inr rfl) results189  ?_
 exact ⟨_, rfl, _, A3, c3, l3, b3, _, [], hp, mv, hl3, sliceR_mk (GS.nil _ _ _ none 0), step_str hb3 (fun h => absurd ht (by simp [h]))⟩
theorem t0_nMany_ok {p : Prop} (h : p := by first | (simp_all; done) | (simp_all; omega) | (simp_all; intros; omega)) : p := h
set_option maxHeartbeats 40000000 in
theorem nMany_ok {gr : Nat} {l : List UInt8} {bad : Bool} {m0 most : Int} (hp : HP w0 M0 Fz w (itB gr 103 [.slice A l.length c, .bool bad] :: H)) (hl : GS byteR Fz w A c l) : Ret prog 187 #[.pointer (some ⟨gr, 0, none⟩), .int .i64 m0, .int .i64 most] w (fun v w2 => ∃ F2 A' c' l' bad' x, v = .int .i64 x ∧ HP w0 M0 F2 w2 (itB gr 103 [.slice A' (l' : List UInt8).length c', .bool bad'] :: H) ∧ Frz Fz F2 w w2 ∧ GS byteR F2 w2 A' c' l' ∧ StepP (manyP most) (rst bad l) (rst bad' l') x ∧ (bad' = true → x = 0)) := by
 refine ret_of_wk func187 rfl ntmps187 leB_ ?_
 refine so ?_
 refine Alo hp (h := fun gs7 w1 hp hE1 => ?_)
 refine H1 0 hp (h := fun w2 hp hC2 => so ?_)
 replace hp:=((hp.up 0 rfl).up 1 rfl).as_ (H' := itB gr 103 [.slice A l.length c, .bool bad] :: itB gs7 3 ([iv 0]) :: H) rfl
 refine Ce (nNum_ok (X := (fun cs => itB gs7 3 (([]) ++ (cs ++ ([]))))) (pX := ⟨gs7, 0, none⟩) (v0 := 0) hp (Slot.blk ([]) ([])) hl.to (by unfold i64; omega)) ?_
 rintro _ w3 ⟨F3, A3, c3, l3, b3, cs3, x3, hp, hF3, hl3, hrd3, hst3⟩
 obtain ⟨hI3, rfl⟩ := hrd3
 refine so ?_
 refine Gs 15 ?_ ?_<;>intro hg1<;>refine so ?_
 refine H1 0 hp (h := fun w4 hp hC4 => so ?_)
 refine aT (so ?_)
 refine Pt ?_
 exact ⟨_, rfl, _, A3, c3, l3, true, _, rfl, ((hp.up 1 rfl).tail.up 0 rfl), mv, hl3.to, many_fin hst3 (by simp_all) t0_nMany_ok, by first | (simp_all; done) | (simp_all; omega) | (simp_all; intros; omega)⟩
 refine H1 0 hp (h := fun w5 hp hC5 => so ?_)
 refine Cd ?_ ?_<;>intro hc2<;>refine so ?_
 refine Pt ?_
 exact ⟨_, rfl, _, A3, c3, l3, (decide (x3 > most)), _, rfl, ((hp.up 1 rfl).tail.up 0 rfl), mv, hl3.to, many_fin hst3 (by simp_all) t0_nMany_ok, by first | (simp_all; done) | (simp_all; omega) | (simp_all; intros; omega)⟩
 refine Pt ?_
 exact ⟨_, rfl, _, A3, c3, l3, (decide (x3 > most)), _, rfl, ((hp.up 1 rfl).tail.up 0 rfl), mv, hl3.to, many_fin hst3 (by simp_all) t0_nMany_ok, by first | (simp_all; done) | (simp_all; omega) | (simp_all; intros; omega)⟩
set_option maxHeartbeats 40000000 in
theorem rMark_ok {gr : Nat} {l : List UInt8} {bad : Bool} {X : List Value → It} {pX pc : Addr} (hp : HP w0 M0 Fz w (itB gr 103 [.slice A l.length c, .bool bad] :: X ([.int .i64 0] ++ (digC dig0)) :: H)) (hS : Slot X pX 33) (hl : GS byteR Fz w A c l) (hcap : AtF Fz w pc [.iface 101 (.pointer (some ⟨gr, 0, none⟩))]) : Ret prog 96 #[.pointer (some pX), .pointer (some pc)] w (RdP 103 gr w0 M0 Fz w H X markR markP bad l) := by
 refine ret_of_wk func96 rfl ntmps96 leB_ ?_
 refine so ?_
 apply wdT 7 [.eq _,.eq _,.eq _,.eq _,.eq _,.eq _,.eq _]
 refine ⟨?_,?_,?_,?_,?_,?_,?_,trivial⟩<;>intro F wF hER hk
 exact Ld_ sc123 (hk.qi 1) (hcap.ext hER).head qz
 exact dm (hk.qi 0)
 exact Nc_ (hk.qe 1) qz
 have e5:=hk.qe 2
 refine Fe_ fld95_0 e5 ?_
 rw [add_zero']
 exact qz
 have e3:=hk.qe 0
 exact wl_makeFunc (first := [.tmp 3]) (cap := []) (by decide) (by simp only [evs, ev, e3]; rfl) rfl qz
 exact wl_nilCheckM (t := 101) (by decide) mt188 (hk.qe 4) qz
 exact dm (hk.qe 0)
 intro F wD hED hini hdo
 refine wl_drop [(0, _), (1, _), (6, _), (9, _)] ⟨di hini 0, di hini 1, dr hdo 3, dr hdo 6, trivial⟩ ?_
 clear hini hdo
 replace hp:=hp.ext hED
 refine Ci rfl (nNum_ok (X := (fun cs => X (([]) ++ (cs ++ (digC dig0))))) (pX := pX) (v0 := 0) hp (hS.sub ([]) (digC dig0) rfl) hl.to (by unfold i64; omega)) ?_
 rintro _ w1 ⟨F1, A1, c1, l1, b1, cs1, x1, hp, hF1, hl1, hrd1, hst1⟩
 obtain ⟨hI1, rfl⟩ := hrd1
 replace hp:=(hp.ay (itB gr 103 ([.slice A1 l1.length c1, .bool b1]) :: X ([iv x1] ++ (digC dig0)) :: H))
 refine so ?_
 refine wP 7 hp (h := fun wD hp hED => ?_)
 refine Ci rfl (nDigest_ok (X := (fun cs => X (([iv x1]) ++ (cs ++ ([]))))) (pX := (pX.add 1)) (d0 := dig0) hp (hS.sub ([iv x1]) ([]) rfl) hl1.to) ?_
 rintro _ w2 ⟨F2, A2, c2, l2, b2, cs2, x2, hp, hF2, hl2, hrd2, hst2⟩
 obtain rfl := hrd2
 replace hp:=(hp.ay (itB gr 103 ([.slice A2 l2.length c2, .bool b2]) :: X ([iv x1] ++ (digC x2)) :: H))
 refine so ?_
 refine wk_post0 (.inr rfl) results96  ?_
 exact ⟨_, rfl, _, A2, c2, l2, b2, _, ({ seq := x1, dig := x2 } : Mrk), ((hp.up 1 rfl).up 1 rfl), mv, hl2, ⟨hI1, rfl⟩, StepP.bind hst1 (StepP.bind hst2 (StepP.pure _ _))⟩
set_option maxHeartbeats 40000000 in
theorem rStand_ok {gr : Nat} {l : List UInt8} {bad : Bool} {X : List Value → It} {pX pc : Addr} (hp : HP w0 M0 Fz w (itB gr 103 [.slice A l.length c, .bool bad] :: X ([.int .i64 0] ++ (digC dig0 ++ ([.int .i64 0]))) :: H)) (hS : Slot X pX 34) (hl : GS byteR Fz w A c l) (hcap : AtF Fz w pc [.iface 101 (.pointer (some ⟨gr, 0, none⟩))]) : Ret prog 132 #[.pointer (some pX), .pointer (some pc)] w (RdP 103 gr w0 M0 Fz w H X standR standP bad l) := by
 refine ret_of_wk func132 rfl ntmps132 leB_ ?_
 refine so ?_
 apply wdT 7 [.eq _,.eq _,.eq _,.eq _,.eq _,.eq _,.eq _]
 refine ⟨?_,?_,?_,?_,?_,?_,?_,trivial⟩<;>intro F wF hER hk
 exact Ld_ sc123 (hk.qi 1) (hcap.ext hER).head qz
 exact dm (hk.qi 0)
 exact Nc_ (hk.qe 1) qz
 have e5:=hk.qe 2
 refine Fe_ fld97_0 e5 ?_
 rw [add_zero']
 exact qz
 have e3:=hk.qe 0
 exact wl_makeFunc (first := [.tmp 3]) (cap := []) (by decide) (by simp only [evs, ev, e3]; rfl) rfl qz
 exact wl_nilCheckM (t := 101) (by decide) mt188 (hk.qe 4) qz
 exact dm (hk.qe 0)
 intro F wD hED hini hdo
 refine wl_drop [(0, _), (1, _), (6, _), (9, _)] ⟨di hini 0, di hini 1, dr hdo 3, dr hdo 6, trivial⟩ ?_
 clear hini hdo
 replace hp:=hp.ext hED
 refine Ci rfl (nNum_ok (X := (fun cs => X (([]) ++ (cs ++ (digC dig0 ++ ([iv 0])))))) (pX := pX) (v0 := 0) hp (hS.sub ([]) (digC dig0 ++ ([iv 0])) rfl) hl.to (by unfold i64; omega)) ?_
 rintro _ w1 ⟨F1, A1, c1, l1, b1, cs1, x1, hp, hF1, hl1, hrd1, hst1⟩
 obtain ⟨hI1, rfl⟩ := hrd1
 refine so ?_
 refine wP 7 hp (h := fun wD hp hED => ?_)
 refine Ci rfl (nDigest_ok (X := (fun cs => X (([iv x1]) ++ (cs ++ ([iv 0]))))) (pX := (pX.add 1)) (d0 := dig0) hp (hS.sub ([iv x1]) ([iv 0]) rfl) hl1.to) ?_
 rintro _ w2 ⟨F2, A2, c2, l2, b2, cs2, x2, hp, hF2, hl2, hrd2, hst2⟩
 obtain rfl := hrd2
 refine so ?_
 refine wP 7 hp (h := fun wD hp hED => ?_)
 refine Ci rfl (nNum_ok (X := (fun cs => X (([iv x1] ++ (digC x2)) ++ (cs ++ ([]))))) (pX := (pX.add 33)) (v0 := 0) hp (hS.sub ([iv x1] ++ (digC x2)) ([]) rfl) hl2.to (by unfold i64; omega)) ?_
 rintro _ w3 ⟨F3, A3, c3, l3, b3, cs3, x3, hp, hF3, hl3, hrd3, hst3⟩
 obtain ⟨hI3, rfl⟩ := hrd3
 refine so ?_
 refine wk_post0 (.inr rfl) results132  ?_
 exact ⟨_, rfl, _, A3, c3, l3, b3, _, ({ seq := x1, dig := x2, view := x3 } : Stn), ((hp.up 1 rfl).up 1 rfl), mv, hl3, ⟨⟨hI1, hI3⟩, rfl⟩, StepP.bind hst1 (StepP.bind hst2 (StepP.bind hst3 (StepP.pure _ _)))⟩
set_option maxHeartbeats 40000000 in
theorem wStr_ok {gr : Nat} {l : List UInt8} {e : Int} {most : Int} (hp : HP w0 M0 Fz w (itB gr 207 [.slice A l.length c, .int .i64 e] :: H)) (hl : GS byteR Fz w A c l) : Ret prog 196 #[.pointer (some ⟨gr, 0, none⟩), .int .i64 most] w (RvE 207 gr w0 M0 Fz w H (sliceR byteR) false (strP most) e l) := by
 refine ret_of_wk func196 rfl ntmps196 leB_ ?_
 refine so ?_
 refine Cd ?_ ?_<;>intro hc1<;>refine so ?_
 refine Ce (takeStr_ok (most := most) hl) ?_
 rintro _ w1 ⟨A1, c1, B1, d1, rfl, ho1, hq1, hE1⟩
 replace ho1:=ho1.bs
 replace hq1:=hq1.bs
 have hsz2:=hp.chg.size
 obtain ⟨Fz2, hp2, hsub2, hnew2, hup2⟩ := hp.frz hE1
 replace hp:=hp2
 replace ho1:=ho1.frz hnew2
 replace hq1:=hq1.frz hnew2
 refine so ?_
 refine H1 0 hp (h := fun w3 hp hC3 => ?_)
 replace hp:=hp.ay (itB gr 207 ([.slice B1 (takeStrS l most).2.1.length d1, iv e]) :: _)
 refine so ?_
 refine H1 0 hp (h := fun w4 hp hC4 => ?_)
 replace hp:=hp.ay (itB gr 207 ([.slice B1 (takeStrS l most).2.1.length d1, iv ((takeStrS l most).2.2)]) :: _)
 refine so ?_
 refine Pt ?_
 exact ⟨_, rfl, _, B1, d1, (takeStrS l most).2.1, ((takeStrS l most).2.2), _, (takeStrS l most).1, rfl, (hp.up 0 rfl), mv, hq1.to, sliceR_mk ho1.to, step_str (by first | rfl | (simp_all; done) | (simp_all; omega)) (fun h => by first | exact ⟨rfl, rfl⟩ | (simp_all; done))⟩
 refine Pt ?_
 exact ⟨_, rfl, _, A, c, l, e, _, [], rfl, (hp.up 0 rfl), mv, hl, sliceR_mk (GS.nil _ _ _ none 0), step_str (by first | rfl | (simp_all; done) | (simp_all; omega)) (fun h => by first | exact ⟨rfl, rfl⟩ | (simp_all; done))⟩
def chapN (k : Int) : Nte :=
 if k = 1 ∨ k = 14 then { headN k with from_ := 31, batch := [wshA] }
 else if k = 2 then { headN k with node := 31, stamp := 5, ans := ⟨171, [48, 49, 50, 51, 52, 53, 54, 55, 56, 57, 97, 98, 99, 100, 101, 102], 3, [5, 6, 7, 9]⟩ }
 else if k = 3 then { headN k with view := 1, seq := 300, batch := [wshA, wshB] }
 else if k = 4 ∨ k = 5 then { headN k with seq := 7, dig := dgt 1 }
 else if k = 6 ∨ k = 13 then { headN k with seq := 8, dig := dgt 2 }
 else if k = 7 then { headN k with change := chgN 3 }
 else if k = 8 then { headN k with view := 3, node := 4, dig := dgt 3 }
 else if k = 9 then { headN k with view := 3, changes := [chgN 1, chgN 3, chgN 4], picks := [⟨5, dig0, []⟩, ⟨6, dgt 3, [wshA, wshB]⟩] }
 else if k = 10 then { headN k with seq := 8, dig := dgt 2, level := 1, place := 2 }
 else if k = 11 then { headN k with seq := 8, dig := dgt 2, digs := [dgt 5, dgt 6], data := [108, 101, 97, 102] }
 else if k = 12 then { headN k with nodes := [5, 6, 7, 9] }
 else if k = 16 then { headN k with batch := [wshA, wshB] }
 else { headN k with seq := 6, batch := [wshA, wshB] }
end Go.Proofs.YtkdoomglflikkaaGreat
