/- What each of these functions computes, for every argument that its theorem names; a part of what the proof of NotePacks stands on. -/
import Derived.Test.YtkdoomglflikkaaGreatQac
import Derived.Test.YtkdoomglflikkaaGreatQad
import Derived.Test.YtkdoomglflikkaaGreatQae
import Derived.Test.YtkdoomglflikkaaGreatQag
import Derived.Test.YtkdoomglflikkaaGreatQah
import Derived.Test.YtkdoomglflikkaaGreatQai
import Derived.Test.YtkdoomglflikkaaGreatQaj
import Derived.Test.YtkdoomglflikkaaGreatQak
namespace Go.Proofs.YtkdoomglflikkaaGreat
open Go.RowKit Go.Eng Go.Eng _root_.Go.Proofs.Tryz
set_option maxRecDepth 100000
variable {w0 w : World} {M0 Fz : Nat → Prop} {H : List It} {A : Option Addr} {c : Nat}
theorem changeR_el {S : Nat → Prop} {w : World} {A : Option Addr} {c : Nat} {l : List Chn} (h : GS changeR S w A c l) (i : Nat) (hi : i < l.length) : ∃ a A0 c0 A1 c1 A2 c2, A = some a ∧ AtF S w (a.add (i * 6)) ([.int .i64 (l.getD i change0).node, .int .i64 (l.getD i change0).view, .int .i64 (l.getD i change0).low, .slice A0 (l.getD i change0).marks.length c0, .slice A1 (l.getD i change0).p.length c1, .slice A2 (l.getD i change0).q.length c2]) ∧ ChnI (l.getD i change0) ∧ GS markR S w A0 c0 (l.getD i change0).marks ∧ GS standR S w A1 c1 (l.getD i change0).p ∧ GS standR S w A2 c2 (l.getD i change0).q := by
 obtain ⟨a, cs, h1, h2, hI, A0, c0, A1, c1, A2, c2, rfl, k0, k1, k2⟩ := GS.el h i hi
 have e : (l.getD i change0) = l[i] := by rw [List.getD_eq_getElem?_getD, List.getElem?_eq_getElem hi]; rfl
 rw [e]
 exact ⟨a, _, _, _, _, _, _, h1, h2, hI, k0, k1, k2⟩
theorem pickR_el {S : Nat → Prop} {w : World} {A : Option Addr} {c : Nat} {l : List Pck} (h : GS pickR S w A c l) (i : Nat) (hi : i < l.length) : ∃ a A0 c0, A = some a ∧ AtF S w (a.add (i * 34)) ([.int .i64 (l.getD i pick0).seq] ++ (digC (l.getD i pick0).dig ++ ([.slice A0 (l.getD i pick0).batch.length c0]))) ∧ PckI (l.getD i pick0) ∧ GS wishR S w A0 c0 (l.getD i pick0).batch := by
 obtain ⟨a, cs, h1, h2, hI, A0, c0, rfl, k0⟩ := GS.el h i hi
 have e : (l.getD i pick0) = l[i] := by rw [List.getD_eq_getElem?_getD, List.getElem?_eq_getElem hi]; rfl
 rw [e]
 exact ⟨a, _, _, h1, h2, hI, k0⟩
end Go.Proofs.YtkdoomglflikkaaGreat
namespace Go.Proofs.YtkdoomglflikkaaGreat
open Go.ChangeShapes Go.WideShapes Go.ChangeAt Go.RowKit Go.Eng Go.Eng _root_.Go.Proofs.Tryz
set_option maxRecDepth 100000
variable {w0 w : World} {M0 Fz : Nat → Prop} {H : List It} {A : Option Addr} {c : Nat}
theorem reads_t31 : ReadsR Tryz.prog 31 (sliceR standR) (fun l => l.length * 48 ≤ 140737488355328) := fun H enc w base sp held fuel cs x h hl hw => by
 obtain ⟨v, h1, h2⟩ := reads_slice (size := 34) (bytes := 48) Tryz.underlying31 rfl (by decide) Tryz.ce97 Tryz.by97 (by decide) reads_Stn H enc w base sp held fuel cs x h hl hw
 exact ⟨v, h1, h2.2⟩
end Go.Proofs.YtkdoomglflikkaaGreat
namespace Go.Proofs.YtkdoomglflikkaaGreat
open Go.RowKit Go.Eng Go.Eng _root_.Go.Proofs.Tryz
set_option maxRecDepth 100000
variable {w0 w : World} {M0 Fz : Nat → Prop} {H : List It} {A : Option Addr} {c : Nat}
set_option maxHeartbeats 40000000 in
theorem sameMarks_ok {Aa : Option Addr} {ca : Nat} {a : List Mrk} {Sa : Nat → Prop} {Ab : Option Addr} {cb : Nat} {b : List Mrk} {Sb : Nat → Prop} (ha : GS markR Sa w Aa ca a) (hb : GS markR Sb w Ab cb b) : Ret prog 59 #[.slice Aa a.length ca, .slice Ab b.length cb] w (fun v w' => v = .bool (decide (a = b)) ∧ Ext w w') := by
 have mha:=ha.mx
 have mhb:=hb.mx
 refine ret_of_wk func59 rfl ntmps59 leB_ ?_
 refine so ?_
 refine Cd ?_ ?_<;>intro hne
 refine so ?_
 refine Pt ?_
 exact ⟨_, rfl, bool_f (fun e => hne (by rw [e])), me⟩
 have hll : a.length = b.length := by omega
 refine so ?_
 refine Lp [0, 1, 5] (fun L' w' mes => ∃ (k : Nat), L' = [(0, .slice Aa a.length ca), (1, .slice Ab b.length cb), (5, iv (k : Int))] ∧ (k ≤ a.length) ∧ (a.take k = b.take k) ∧ Ext w w' ∧ a.length - k = mes) (a.length - 0) (by
     refine ⟨0, rfl, ?_, ?_, me, rfl⟩
     omega
     simp) ?_
 rintro _ wr _ ⟨k, rfl, hk, htk, hEq0, rfl⟩ KL1 hKL1
 refine so ?_
 refine Cd ?_ ?_<;>intro hlt
 refine so ?_
 obtain ⟨aw2, hAw2, hatw2, hIw2⟩ := markR_el (ha.to (w' := wr)) k (by omega)
 obtain ⟨aw6, hAw6, hatw6, hIw6⟩ := markR_el (hb.to (w' := wr)) k (by omega)
 refine wdE 9 (fun wD hED => by refine pm ?_; exact .op rfl (wl_neqK (m := 6) ((a.getD k mark0) = (b.getD k mark0)) (by decide) key95 eg95 rfl rfl hIw2.fit hIw6.fit mark_inj (wl_nil qp)) pl) fun wD hED => ?_
 refine so ?_
 refine Cd ?_ ?_<;>intro hne2<;>refine so ?_
 refine Pt ?_
 exact ⟨_, rfl, bool_f (fun e => hne2 (by rw [e])), me⟩
 refine Kl [0, 1, 5] hKL1 (a.length - (k + 1)) ⟨(k + 1), rfl, by omega, ?_, me, rfl⟩ (by omega)
 rw [take_snoc mark0 (by omega : k < a.length), take_snoc mark0 (by omega : k < b.length), htk, Decidable.not_not.1 hne2]
 have hkl : k = a.length := by omega
 refine so ?_
 refine Pt ?_
 exact ⟨_, rfl, bool_t (by rw [hkl, List.take_length, hll, List.take_length] at htk; exact htk), me⟩
set_option maxHeartbeats 40000000 in
theorem sameStands_ok {Aa : Option Addr} {ca : Nat} {a : List Stn} {Sa : Nat → Prop} {Ab : Option Addr} {cb : Nat} {b : List Stn} {Sb : Nat → Prop} (ha : GS standR Sa w Aa ca a) (hb : GS standR Sb w Ab cb b) : Ret prog 60 #[.slice Aa a.length ca, .slice Ab b.length cb] w (fun v w' => v = .bool (decide (a = b)) ∧ Ext w w') := by
 have mha:=ha.mx
 have mhb:=hb.mx
 refine ret_of_wk func60 rfl ntmps60 leB_ ?_
 refine so ?_
 refine Cd ?_ ?_<;>intro hne
 refine so ?_
 refine Pt ?_
 exact ⟨_, rfl, bool_f (fun e => hne (by rw [e])), me⟩
 have hll : a.length = b.length := by omega
 refine so ?_
 refine Lp [0, 1, 5] (fun L' w' mes => ∃ (k : Nat), L' = [(0, .slice Aa a.length ca), (1, .slice Ab b.length cb), (5, iv (k : Int))] ∧ (k ≤ a.length) ∧ (a.take k = b.take k) ∧ Ext w w' ∧ a.length - k = mes) (a.length - 0) (by
     refine ⟨0, rfl, ?_, ?_, me, rfl⟩
     omega
     simp) ?_
 rintro _ wr _ ⟨k, rfl, hk, htk, hEq0, rfl⟩ KL1 hKL1
 refine so ?_
 refine Cd ?_ ?_<;>intro hlt
 refine so ?_
 obtain ⟨aw2, hAw2, hatw2, hIw2⟩ := standR_el (ha.to (w' := wr)) k (by omega)
 obtain ⟨aw6, hAw6, hatw6, hIw6⟩ := standR_el (hb.to (w' := wr)) k (by omega)
 refine wdE 9 (fun wD hED => by refine pm ?_; exact .op rfl (wl_neqK (m := 6) ((a.getD k stand0) = (b.getD k stand0)) (by decide) key97 eg97 rfl rfl hIw2.fit hIw6.fit stand_inj (wl_nil qp)) pl) fun wD hED => ?_
 refine so ?_
 refine Cd ?_ ?_<;>intro hne2<;>refine so ?_
 refine Pt ?_
 exact ⟨_, rfl, bool_f (fun e => hne2 (by rw [e])), me⟩
 refine Kl [0, 1, 5] hKL1 (a.length - (k + 1)) ⟨(k + 1), rfl, by omega, ?_, me, rfl⟩ (by omega)
 rw [take_snoc stand0 (by omega : k < a.length), take_snoc stand0 (by omega : k < b.length), htk, Decidable.not_not.1 hne2]
 have hkl : k = a.length := by omega
 refine so ?_
 refine Pt ?_
 exact ⟨_, rfl, bool_t (by rw [hkl, List.take_length, hll, List.take_length] at htk; exact htk), me⟩
set_option maxHeartbeats 40000000 in
theorem wCheck_ok {csw0 : List Value} {w0 : Wsh} {Sw0 : Nat → Prop} (hw0 : wishR.rd Sw0 w csw0 w0) : Ret prog 136 #[.agg csw0.toArray] w (fun v w' => v = .int .i64 (if WishMay w0 then 0 else 2) ∧ Ext w w') := by
 have qhw0:=hw0
 obtain ⟨hIw0, Aw00, cw00, Aw01, cw01, rfl, hw00, hw01⟩ := hw0
 refine ret_of_wk func136 rfl ntmps136 leB_ ?_
 have hp:=HP.begin_ w
 refine so ?_
 refine Bx hp (h := fun gs1 w1 hp hE1 => ?_)
 replace hp:=hp.ay (itB gs1 68 ([iv w0.client, iv w0.stamp, iv w0.group, iv w0.epoch, iv w0.kind, iv w0.block, .slice Aw00 w0.data.length cw00, iv w0.old, iv w0.new, .slice Aw01 w0.next.length cw01]) :: _)
 refine so ?_
 refine Cx hp (wmay_ok (rdTn qhw0)) fun w2 hp hE2 => so ?_
 refine Cd ?_ ?_<;>intro hc1<;>refine so ?_
 refine Pt ?_
 exact ⟨_, rfl, by simp_all, hp.chg⟩
 refine Pt ?_
 exact ⟨_, rfl, by simp_all, hp.chg⟩
theorem NewMay_prog {n : Nte} : NewMay n ↔ 0 < n.view ∧ (1 ≤ n.changes.length ∧ n.changes.length ≤ 7) ∧ RiseI (mnode n n.changes.length) ∧ n.picks.length ≤ 8 ∧ (∀ i, i < n.changes.length → ChangeMay (n.changes.getD i change0) ∧ (n.changes.getD i change0).view = n.view) ∧ (∀ i, i < n.picks.length → PkAt n.picks n.group n.epoch i) := by
 rw [nodes_rise]
 unfold NewMay ChAt
 constructor
 ·rintro ⟨a1, a2, a3, a4, a5, a6⟩
  exact ⟨by omega, ⟨a1, a2⟩, fun i hi => (a5 i hi).2.2, a3, fun i hi => ⟨(a5 i hi).1, (a5 i hi).2.1⟩, a6⟩
 ·rintro ⟨a1, ⟨a2, a3⟩, a4, a5, a6, a7⟩
  exact ⟨a2, a3, a5, by omega, fun i hi => ⟨(a6 i hi).1, (a6 i hi).2, a4 i hi⟩, a7⟩
theorem t0_nMany_ok {p : Prop} (h : p := by first | (simp_all; done) | (simp_all; omega) | (simp_all; intros; omega)) : p := h
set_option maxHeartbeats 40000000 in
theorem nMany_ok {gr : Nat} {l : List UInt8} {bad : Bool} {m0 most : Int} (hp : HP w0 M0 Fz w (itB gr 103 [.slice A l.length c, .bool bad] :: H)) (hl : GS byteR Fz w A c l) : Ret prog 187 #[.pointer (some ⟨gr, 0, none⟩), .int .i64 m0, .int .i64 most] w (fun v w2 => ∃ F2 A' c' l' bad' x, v = .int .i64 x ∧ HP w0 M0 F2 w2 (itB gr 103 [.slice A' (l' : List UInt8).length c', .bool bad'] :: H) ∧ Frz Fz F2 w w2 ∧ GS byteR F2 w2 A' c' l' ∧ StepP (manyP most) (rst bad l) (rst bad' l') x ∧ (bad' = true → x = 0)) := by
 refine ret_of_wk func187 rfl ntmps187 leB_ ?_
 refine so ?_
 refine Alo hp (h := fun gs7 w1 hp hE1 => ?_)
 refine H1 0 hp (h := fun w2 hp hC2 => so ?_)
 replace hp:=((hp.up 0 rfl).up 1 rfl).as_ (H' := itB gr 103 [.slice A l.length c, .bool bad] :: itB gs7 3 ([iv 0]) :: H) rfl
 refine Ce (nNum_ok (X := (fun cs => itB gs7 3 (([]) ++ (cs ++ ([]))))) (pX := ⟨gs7, 0, none⟩) (v0 := 0) hp (Slot.blk ([]) ([])) hl.to (by unfold i64; omega)) ?_
 rintro _ w3 ⟨F3, A3, c3, l3, b3, cs3, x3, hp, hF3, hl3, hrd3, hst3⟩
 obtain ⟨hI3, rfl⟩ := hrd3
 refine so ?_
 refine Gs 15 ?_ ?_<;>intro hg1<;>refine so ?_
 refine H1 0 hp (h := fun w4 hp hC4 => so ?_)
 refine aT (so ?_)
 refine Pt ?_
 exact ⟨_, rfl, _, A3, c3, l3, true, _, rfl, ((hp.up 1 rfl).tail.up 0 rfl), mv, hl3.to, many_fin hst3 (by simp_all) t0_nMany_ok, by first | (simp_all; done) | (simp_all; omega) | (simp_all; intros; omega)⟩
 refine H1 0 hp (h := fun w5 hp hC5 => so ?_)
 refine Cd ?_ ?_<;>intro hc2<;>refine so ?_
 refine Pt ?_
 exact ⟨_, rfl, _, A3, c3, l3, (decide (x3 > most)), _, rfl, ((hp.up 1 rfl).tail.up 0 rfl), mv, hl3.to, many_fin hst3 (by simp_all) t0_nMany_ok, by first | (simp_all; done) | (simp_all; omega) | (simp_all; intros; omega)⟩
 refine Pt ?_
 exact ⟨_, rfl, _, A3, c3, l3, (decide (x3 > most)), _, rfl, ((hp.up 1 rfl).tail.up 0 rfl), mv, hl3.to, many_fin hst3 (by simp_all) t0_nMany_ok, by first | (simp_all; done) | (simp_all; omega) | (simp_all; intros; omega)⟩
set_option maxHeartbeats 40000000 in
theorem rStand_ok {gr : Nat} {l : List UInt8} {bad : Bool} {X : List Value → It} {pX pc : Addr} (hp : HP w0 M0 Fz w (itB gr 103 [.slice A l.length c, .bool bad] :: X ([.int .i64 0] ++ (digC dig0 ++ ([.int .i64 0]))) :: H)) (hS : Slot X pX 34) (hl : GS byteR Fz w A c l) (hcap : AtF Fz w pc [.iface 101 (.pointer (some ⟨gr, 0, none⟩))]) : Ret prog 132 #[.pointer (some pX), .pointer (some pc)] w (RdP 103 gr w0 M0 Fz w H X standR standP bad l) := by
 refine ret_of_wk func132 rfl ntmps132 leB_ ?_
 refine so ?_
 apply wdT 7 [.eq _,.eq _,.eq _,.eq _,.eq _,.eq _,.eq _]
 refine ⟨?_,?_,?_,?_,?_,?_,?_,trivial⟩<;>intro F wF hER hk
 exact Ld_ sc123 (hk.qi 1) (hcap.ext hER).head qz
 exact dm (hk.qi 0)
 exact Nc_ (hk.qe 1) qz
 have e5:=hk.qe 2
 refine Fe_ fld97_0 e5 ?_
 rw [add_zero']
 exact qz
 have e3:=hk.qe 0
 exact wl_makeFunc (first := [.tmp 3]) (cap := []) (by decide) (by simp only [evs, ev, e3]; rfl) rfl qz
 exact wl_nilCheckM (t := 101) (by decide) mt188 (hk.qe 4) qz
 exact dm (hk.qe 0)
 intro F wD hED hini hdo
 refine wl_drop [(0, _), (1, _), (6, _), (9, _)] ⟨di hini 0, di hini 1, dr hdo 3, dr hdo 6, trivial⟩ ?_
 clear hini hdo
 replace hp:=hp.ext hED
 refine Ci rfl (nNum_ok (X := (fun cs => X (([]) ++ (cs ++ (digC dig0 ++ ([iv 0])))))) (pX := pX) (v0 := 0) hp (hS.sub ([]) (digC dig0 ++ ([iv 0])) rfl) hl.to (by unfold i64; omega)) ?_
 rintro _ w1 ⟨F1, A1, c1, l1, b1, cs1, x1, hp, hF1, hl1, hrd1, hst1⟩
 obtain ⟨hI1, rfl⟩ := hrd1
 refine so ?_
 refine wP 7 hp (h := fun wD hp hED => ?_)
 refine Ci rfl (nDigest_ok (X := (fun cs => X (([iv x1]) ++ (cs ++ ([iv 0]))))) (pX := (pX.add 1)) (d0 := dig0) hp (hS.sub ([iv x1]) ([iv 0]) rfl) hl1.to) ?_
 rintro _ w2 ⟨F2, A2, c2, l2, b2, cs2, x2, hp, hF2, hl2, hrd2, hst2⟩
 obtain rfl := hrd2
 refine so ?_
 refine wP 7 hp (h := fun wD hp hED => ?_)
 refine Ci rfl (nNum_ok (X := (fun cs => X (([iv x1] ++ (digC x2)) ++ (cs ++ ([]))))) (pX := (pX.add 33)) (v0 := 0) hp (hS.sub ([iv x1] ++ (digC x2)) ([]) rfl) hl2.to (by unfold i64; omega)) ?_
 rintro _ w3 ⟨F3, A3, c3, l3, b3, cs3, x3, hp, hF3, hl3, hrd3, hst3⟩
 obtain ⟨hI3, rfl⟩ := hrd3
 refine so ?_
 refine wk_post0 (.inr rfl) results132  ?_
 exact ⟨_, rfl, _, A3, c3, l3, b3, _, ({ seq := x1, dig := x2, view := x3 } : Stn), ((hp.up 1 rfl).up 1 rfl), mv, hl3, ⟨⟨hI1, hI3⟩, rfl⟩, StepP.bind hst1 (StepP.bind hst2 (StepP.bind hst3 (StepP.pure _ _)))⟩
set_option maxHeartbeats 40000000 in
theorem rCopyC_ok {csx : List Value} {x : Chn} {Sx : Nat → Prop} (hx : changeR.rd Sx w csx x) (hsz : ChnB x) : Ret prog 29 #[.agg csx.toArray] w (fun v w' => ∃ cs, v = .agg cs.toArray ∧ changeR.rd (fun b => w.heap.size ≤ b) w' cs x ∧ Ext w w') := by
 obtain ⟨hIx, Ax0, cx0, Ax1, cx1, Ax2, cx2, rfl, hx0, hx1, hx2⟩ := hx
 obtain ⟨hz0, hz1, hz2⟩ := hsz
 refine ret_of_wk func29 rfl ntmps29 leB_ ?_
 have hp:=HP.begin_ w
 refine so ?_
 refine Bx hp (h := fun gs1 w1 hp hE1 => ?_)
 refine Alo hp (h := fun gs2 w2 hp hE2 => so ?_)
 have hpO:=hp
 apply wdT 18 [.eq _,.eq _,.eq _,.eq _,.eq _,.eq _,.eq _,.eq _,.eq _,SP.gs markR (fun b => w2.heap.size ≤ b) x.marks,.eq _,.eq _,.eq _,SP.gs standR (fun b => w2.heap.size ≤ b) x.p,.eq _,.eq _,.eq _,SP.gs standR (fun b => w2.heap.size ≤ b) x.q]
 refine ⟨?_,?_,?_,?_,?_,?_,?_,?_,?_,?_,?_,?_,?_,?_,?_,?_,?_,?_,trivial⟩<;>intro F wF hER hk
 exact Fd_ 0 fld33_0 (hk.qi 1) rfl qz
 exact Hl_ 1 sc3 (hk.qe 0) (hp.ext hER) rfl rfl qz
 exact Fd_ 1 fld33_1 (hk.qi 1) rfl qz
 exact Hl_ 1 sc3 (hk.qe 2) (hp.ext hER) rfl rfl qz
 exact Fd_ 2 fld33_2 (hk.qi 1) rfl qz
 exact Hl_ 1 sc3 (hk.qe 4) (hp.ext hER) rfl rfl qz
 exact dm (hk.qi 3)
 exact Fd_ 3 fld33_3 (hk.qi 1) rfl qz
 exact Hl_ 1 sc30 (hk.qe 7) (hp.ext hER) rfl rfl qz
 have e12:=hk.qe 6
 have e14:=hk.qe 8
 refine wl_appN (r := markR) (lo := w2.heap.size) (by decide) sl30 e12 e14 hx0.tn (fun {_ _ _ _ _ _} h => h) (by omega) hER.size ?_
 intro A7 c7 w7 hg7 hE7
 exact qz ⟨hE7, _, _, rfl, hg7⟩
 exact dm (hk.qi 4)
 exact Fd_ 4 fld33_4 (hk.qi 1) rfl qz
 exact Hl_ 1 sc31 (hk.qe 11) (hp.ext hER) rfl rfl qz
 have e16:=hk.qe 10
 have e18:=hk.qe 12
 refine wl_appN (r := standR) (lo := w2.heap.size) (by decide) sl31 e16 e18 hx1.tn (fun {_ _ _ _ _ _} h => h) (by omega) hER.size ?_
 intro A7 c7 w7 hg7 hE7
 exact qz ⟨hE7, _, _, rfl, hg7⟩
 exact dm (hk.qi 5)
 exact Fd_ 5 fld33_5 (hk.qi 1) rfl qz
 exact Hl_ 1 sc31 (hk.qe 15) (hp.ext hER) rfl rfl qz
 have e20:=hk.qe 14
 have e22:=hk.qe 16
 refine wl_appN (r := standR) (lo := w2.heap.size) (by decide) sl31 e20 e22 hx2.tn (fun {_ _ _ _ _ _} h => h) (by omega) hER.size ?_
 intro A7 c7 w7 hg7 hE7
 exact qz ⟨hE7, _, _, rfl, hg7⟩
 intro F wD hED hini hdo
 have e2:=di hini 2
 have e7:=dr hdo 1
 have e9:=dr hdo 3
 have e11:=dr hdo 5
 obtain ⟨u15, e15, h15⟩ := hdo 9 15 (Nat.lt_of_lt_of_eq (by decide) rfl) rfl
 obtain ⟨A15, c15, rfl, h15⟩ := h15
 obtain ⟨u19, e19, h19⟩ := hdo 13 19 (Nat.lt_of_lt_of_eq (by decide) rfl) rfl
 obtain ⟨A19, c19, rfl, h19⟩ := h19
 obtain ⟨u23, e23, h23⟩ := hdo 17 23 (Nat.lt_of_lt_of_eq (by decide) rfl) rfl
 obtain ⟨A23, c23, rfl, h23⟩ := h23
 refine wl_drop [(2, _), (7, _), (9, _), (11, _), (15, _), (19, _), (23, _)] ⟨e2, e7, e9, e11, e15, e19, e23, trivial⟩ ?_
 clear e2 e7 e9 e11 e15 e19 e23 hini hdo
 replace hp:=hp.ext hED
 obtain ⟨Fz5, hp5, hs5, hn5, _⟩ := hpO.frz hED
 replace hp:=hp5
 refine wl_builtS (ps := [(0, .tmp 7), (1, .tmp 9), (2, .tmp 11), (3, .tmp 15), (4, .tmp 19), (5, .tmp 23)]) (by decide) bld33 rfl rfl ?_
 refine Hs 0 hp (h := fun w3 hp hC3 => so ?_)
 refine wk_postR (rs := [.cell 2 33]) (.inl rfl) results29 ⟨_, _, _, rfl, rfl, loadVar_agg ag33 (hp.blkAt (i := 0) rfl).at0 rfl, rfl⟩ ?_
 exact ⟨_, rfl, _, rfl, ⟨hIx, _, _, _, _, _, _, rfl, ((GS.keep hC3 (fun b hb hs hn => hn (hn5 b hs hb)) h15).mono (fun b _ h => by have := hE1.size; have := hE2.size; omega)), ((GS.keep hC3 (fun b hb hs hn => hn (hn5 b hs hb)) h19).mono (fun b _ h => by have := hE1.size; have := hE2.size; omega)), ((GS.keep hC3 (fun b hb hs hn => hn (hn5 b hs hb)) h23).mono (fun b _ h => by have := hE1.size; have := hE2.size; omega))⟩, hp.chg⟩
end Go.Proofs.YtkdoomglflikkaaGreat
namespace Go.Proofs.YtkdoomglflikkaaGreat
open Go.Eng Go.RowKit Go.Eng _root_.Go.Proofs.Tryz
set_option maxRecDepth 100000
variable {w0 w : World} {M0 Fz : Nat → Prop} {H : List It} {A : Option Addr} {c : Nat}
theorem rCopyB_ok {w : World} {A : Option Addr} {c : Nat} {l : List UInt8} {S : Nat → Prop} (hl : GS byteR S w A c l) : Ret prog 20 #[.slice A l.length c] w (fun v w' => ∃ A' c', v = .slice A' l.length c' ∧ OwnRow 5 1 w.heap.size w' A' l.length c' (l.map bv) ∧ Ext w w') := by
 have hm := hl.mx
 refine ret_of_wk func20 rfl ntmps20 leB_ ?_
 refine so ?_
 refine wl_appendB (lo := w.heap.size) (l := []) (by decide) sl26 rfl rfl (OwnRow.nil _ _ _ _ _) hl (by simpa using hm) (Nat.le_refl _) ?_
 intro A' c' w' ho hch _
 rw [List.nil_append] at ho
 refine so ?_
 refine Pt ?_
 exact ⟨_, rfl, _, _, rfl, ho, hch.weak (fun b _ hb => hb.1 rfl)⟩
end Go.Proofs.YtkdoomglflikkaaGreat
namespace Go.Proofs.YtkdoomglflikkaaGreat
open Go.ChangeShapes Go.WideShapes Go.ChangeAt Go.RowKit Go.Eng Go.Eng _root_.Go.Proofs.Tryz
set_option maxRecDepth 100000
variable {w0 w : World} {M0 Fz : Nat → Prop} {H : List It} {A : Option Addr} {c : Nat}
theorem reads_t24B : ReadsR Tryz.prog 24 (sliceR wishR) (fun l => (∀ x ∈ l, x.next.length * 8 ≤ 140737488355328) ∧ l.length * 112 ≤ 140737488355328) := reads_slice (size := 10) (bytes := 112) Tryz.underlying24 rfl (by decide) Tryz.ce68 Tryz.by68 (by decide) reads_WshB
end Go.Proofs.YtkdoomglflikkaaGreat
namespace Go.Proofs.YtkdoomglflikkaaGreat
open Go.RowKit Go.Eng Go.Eng _root_.Go.Proofs.Tryz
set_option maxRecDepth 100000
variable {w0 w : World} {M0 Fz : Nat → Prop} {H : List It} {A : Option Addr} {c : Nat}
set_option maxHeartbeats 40000000 in
theorem lChange_ok {node : Int} (hp : HP w0 M0 Fz w H) (hn : i64 node) : Ret prog 35 #[.int .i64 node] w (fun v w2 => ∃ F2 cs, v = .agg cs.toArray ∧ HP w0 M0 F2 w2 H ∧ Frz Fz F2 w w2 ∧ changeR.rd F2 w2 cs (chgN node)) := by
 unfold i64 at hn
 refine ret_of_wk func35 rfl ntmps35 leB_ ?_
 refine so ?_
 refine wl_halloc (e := 33) (z := .agg #[iv 0, iv 0, iv 0, s0, s0, s0]) (by decide) (by kernel_rfl) hp ?_
 rintro gs2 w1 hp hE1
 refine so ?_
 refine Cx hp ((fun w => lDigest_ok (w := w) (b := 1)) _) fun w2 hp hE2 => ?_
 refine wl_builtS (ps := [(0, .const (iv 5)), (1, .tmp 5), (2, .const (iv 2))]) (by decide) bld97 rfl rfl ?_
 refine Cx hp ((fun w => lDigest_ok (w := w) (b := 2)) _) fun w3 hp hE3 => ?_
 refine wl_builtS (ps := [(0, .const (iv 9)), (1, .tmp 7)]) (by decide) bld97 rfl rfl ?_
 refine wl_bsliceR (r := standR) (css := [[iv 5] ++ (digC (dgt 1) ++ ([iv 2])), [iv 9] ++ (digC (dgt 2) ++ ([iv stand0.view]))]) (l := [({ seq := 5, dig := (dgt 1), view := 2 } : Stn), ({ stand0 with seq := 9, dig := (dgt 2) } : Stn)]) (xs := [.tmp 6, .tmp 8]) (by decide) sl31 rfl rfl (((RF.one (r := standR) (Fz := Fz) (cs := [iv 5] ++ (digC (dgt 1) ++ ([iv 2]))) (v := ({ seq := 5, dig := (dgt 1), view := 2 } : Stn)) (⟨(show StnI ({ seq := 5, dig := (dgt 1), view := 2 } : Stn) by unfold StnI i64; (try unfold stand0); (try dsimp only); omega), rfl⟩)).append (RF.one (r := standR) (Fz := Fz) (cs := [iv 9] ++ (digC (dgt 2) ++ ([iv stand0.view]))) (v := ({ stand0 with seq := 9, dig := (dgt 2) } : Stn)) (⟨(show StnI ({ stand0 with seq := 9, dig := (dgt 2) } : Stn) by unfold StnI i64; (try unfold stand0); (try dsimp only); omega), rfl⟩))) : RF standR Fz _ [[iv 5] ++ (digC (dgt 1) ++ ([iv 2])), [iv 9] ++ (digC (dgt 2) ++ ([iv stand0.view]))] [({ seq := 5, dig := (dgt 1), view := 2 } : Stn), ({ stand0 with seq := 9, dig := (dgt 2) } : Stn)]) rfl (by simp) leB_ ?_
 rintro gb4 wb4 hgb4 hs4 hE4
 obtain ⟨Fz4, hp4, hsub4, hnew4, _⟩ := hp.frz hE4
 replace hp:=hp4
 replace hs4:=hs4.mono (fun b hb h => h.elim (fun x => hsub4 b x.1) (fun e => hnew4 b (by rw [e, hgb4]; exact Nat.le_refl _) hb))
 refine so ?_
 refine Cx hp ((fun w => lDigest_ok (w := w) (b := 1)) _) fun w5 hp hE5 => ?_
 refine wl_builtS (ps := [(0, .const (iv 5)), (1, .tmp 10), (2, .const (iv 2))]) (by decide) bld97 rfl rfl ?_
 refine Cx hp ((fun w => lDigest_ok (w := w) (b := 4)) _) fun w6 hp hE6 => ?_
 refine wl_builtS (ps := [(0, .const (iv 6)), (1, .tmp 12), (2, .const (iv 1))]) (by decide) bld97 rfl rfl ?_
 refine Cx hp ((fun w => lDigest_ok (w := w) (b := 3)) _) fun w7 hp hE7 => ?_
 refine wl_builtS (ps := [(0, .const (iv 6)), (1, .tmp 14), (2, .const (iv 2))]) (by decide) bld97 rfl rfl ?_
 refine Cx hp ((fun w => lDigest_ok (w := w) (b := 2)) _) fun w8 hp hE8 => ?_
 refine wl_builtS (ps := [(0, .const (iv 12)), (1, .tmp 16)]) (by decide) bld97 rfl rfl ?_
 refine wl_bsliceR (r := standR) (css := [[iv 5] ++ (digC (dgt 1) ++ ([iv 2])), [iv 6] ++ (digC (dgt 4) ++ ([iv 1])), [iv 6] ++ (digC (dgt 3) ++ ([iv 2])), [iv 12] ++ (digC (dgt 2) ++ ([iv stand0.view]))]) (l := [({ seq := 5, dig := (dgt 1), view := 2 } : Stn), ({ seq := 6, dig := (dgt 4), view := 1 } : Stn), ({ seq := 6, dig := (dgt 3), view := 2 } : Stn), ({ stand0 with seq := 12, dig := (dgt 2) } : Stn)]) (xs := [.tmp 11, .tmp 13, .tmp 15, .tmp 17]) (by decide) sl31 rfl rfl (((RF.one (r := standR) (Fz := Fz4) (cs := [iv 5] ++ (digC (dgt 1) ++ ([iv 2]))) (v := ({ seq := 5, dig := (dgt 1), view := 2 } : Stn)) (⟨(show StnI ({ seq := 5, dig := (dgt 1), view := 2 } : Stn) by unfold StnI i64; (try unfold stand0); (try dsimp only); omega), rfl⟩)).append ((RF.one (r := standR) (Fz := Fz4) (cs := [iv 6] ++ (digC (dgt 4) ++ ([iv 1]))) (v := ({ seq := 6, dig := (dgt 4), view := 1 } : Stn)) (⟨(show StnI ({ seq := 6, dig := (dgt 4), view := 1 } : Stn) by unfold StnI i64; (try unfold stand0); (try dsimp only); omega), rfl⟩)).append ((RF.one (r := standR) (Fz := Fz4) (cs := [iv 6] ++ (digC (dgt 3) ++ ([iv 2]))) (v := ({ seq := 6, dig := (dgt 3), view := 2 } : Stn)) (⟨(show StnI ({ seq := 6, dig := (dgt 3), view := 2 } : Stn) by unfold StnI i64; (try unfold stand0); (try dsimp only); omega), rfl⟩)).append (RF.one (r := standR) (Fz := Fz4) (cs := [iv 12] ++ (digC (dgt 2) ++ ([iv stand0.view]))) (v := ({ stand0 with seq := 12, dig := (dgt 2) } : Stn)) (⟨(show StnI ({ stand0 with seq := 12, dig := (dgt 2) } : Stn) by unfold StnI i64; (try unfold stand0); (try dsimp only); omega), rfl⟩))))) : RF standR Fz4 _ [[iv 5] ++ (digC (dgt 1) ++ ([iv 2])), [iv 6] ++ (digC (dgt 4) ++ ([iv 1])), [iv 6] ++ (digC (dgt 3) ++ ([iv 2])), [iv 12] ++ (digC (dgt 2) ++ ([iv stand0.view]))] [({ seq := 5, dig := (dgt 1), view := 2 } : Stn), ({ seq := 6, dig := (dgt 4), view := 1 } : Stn), ({ seq := 6, dig := (dgt 3), view := 2 } : Stn), ({ stand0 with seq := 12, dig := (dgt 2) } : Stn)]) rfl (by simp) leB_ ?_
 rintro gb9 wb9 hgb9 hs9 hE9
 obtain ⟨Fz9, hp9, hsub9, hnew9, _⟩ := hp.frz hE9
 replace hp:=hp9
 replace hs9:=hs9.mono (fun b hb h => h.elim (fun x => hsub9 b x.1) (fun e => hnew9 b (by rw [e, hgb9]; exact Nat.le_refl _) hb))
 refine so ?_
 refine Cx hp ((fun w => lDigest_ok (w := w) (b := 9)) _) fun w10 hp hE10 => ?_
 refine wl_builtS (ps := [(0, .const (iv 4)), (1, .tmp 20)]) (by decide) bld95 rfl rfl ?_
 refine Cx hp ((fun w => lDigest_ok (w := w) (b := 8)) _) fun w11 hp hE11 => ?_
 refine wl_builtS (ps := [(0, .const (iv 8)), (1, .tmp 22)]) (by decide) bld95 rfl rfl ?_
 refine wl_bsliceR (r := markR) (css := [[iv 4] ++ (digC (dgt 9)), [iv 8] ++ (digC (dgt 8))]) (l := [({ seq := 4, dig := (dgt 9) } : Mrk), ({ seq := 8, dig := (dgt 8) } : Mrk)]) (xs := [.tmp 21, .tmp 23]) (by decide) sl30 rfl rfl (((RF.one (r := markR) (Fz := Fz9) (cs := [iv 4] ++ (digC (dgt 9))) (v := ({ seq := 4, dig := (dgt 9) } : Mrk)) (⟨(show MrkI ({ seq := 4, dig := (dgt 9) } : Mrk) by unfold MrkI i64; (try unfold mark0); (try dsimp only); omega), rfl⟩)).append (RF.one (r := markR) (Fz := Fz9) (cs := [iv 8] ++ (digC (dgt 8))) (v := ({ seq := 8, dig := (dgt 8) } : Mrk)) (⟨(show MrkI ({ seq := 8, dig := (dgt 8) } : Mrk) by unfold MrkI i64; (try unfold mark0); (try dsimp only); omega), rfl⟩))) : RF markR Fz9 _ [[iv 4] ++ (digC (dgt 9)), [iv 8] ++ (digC (dgt 8))] [({ seq := 4, dig := (dgt 9) } : Mrk), ({ seq := 8, dig := (dgt 8) } : Mrk)]) rfl (by simp) leB_ ?_
 rintro gb12 wb12 hgb12 hs12 hE12
 obtain ⟨Fz12, hp12, hsub12, hnew12, _⟩ := hp.frz hE12
 replace hp:=hp12
 replace hs12:=hs12.mono (fun b hb h => h.elim (fun x => hsub12 b x.1) (fun e => hnew12 b (by rw [e, hgb12]; exact Nat.le_refl _) hb))
 refine so ?_
 refine wl_builtS (ps := [(0, .tmp 19), (1, .const (iv 3)), (2, .const (iv 4)), (3, .tmp 24), (4, .tmp 25), (5, .tmp 26)]) (by decide) bld33 rfl rfl ?_
 refine wl_hstore (i := 0) rfl rfl hp rfl sz33 leB_ (List.all_eq_true.1 rfl) ?_
 rintro w13 hp hC13
 refine so ?_
 refine wk_postR (rs := [.cell 2 33]) (.inl rfl) results35 ⟨_, _, _, rfl, rfl, loadVar_agg ag33 (hp.blkAt (i := 0) rfl).at0 rfl, rfl⟩ ?_
 exact ⟨_, rfl, _, _, rfl, hp.tail, mv, ⟨(by unfold ChnI i64 chgN; (try dsimp only); omega), _, _, _, _, _, _, rfl, hs12.to, hs4.to, hs9.to⟩⟩
end Go.Proofs.YtkdoomglflikkaaGreat
