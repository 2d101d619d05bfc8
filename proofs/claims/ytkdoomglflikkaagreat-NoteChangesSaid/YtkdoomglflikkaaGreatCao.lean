/- What each of these functions computes, for every argument that its theorem names; a part of what the proof of NoteChecks stands on. -/
import Derived.Test.YtkdoomglflikkaaGreatCac
import Derived.Test.YtkdoomglflikkaaGreatCad
import Derived.Test.YtkdoomglflikkaaGreatCae
import Derived.Test.YtkdoomglflikkaaGreatCag
import Derived.Test.YtkdoomglflikkaaGreatCah
import Derived.Test.YtkdoomglflikkaaGreatCaj
import Derived.Test.YtkdoomglflikkaaGreatCak
namespace Go.Proofs.YtkdoomglflikkaaGreat
open Go.RowKit Go.Eng Go.Eng _root_.Go.Proofs.Tryz
set_option maxRecDepth 100000
variable {w0 w : World} {M0 Fz : Nat → Prop} {H : List It} {A : Option Addr} {c : Nat}
theorem changeR_el {S : Nat → Prop} {w : World} {A : Option Addr} {c : Nat} {l : List Chn} (h : GS changeR S w A c l) (i : Nat) (hi : i < l.length) : ∃ a A0 c0 A1 c1 A2 c2, A = some a ∧ AtF S w (a.add (i * 6)) ([.int .i64 (l.getD i change0).node, .int .i64 (l.getD i change0).view, .int .i64 (l.getD i change0).low, .slice A0 (l.getD i change0).marks.length c0, .slice A1 (l.getD i change0).p.length c1, .slice A2 (l.getD i change0).q.length c2]) ∧ ChnI (l.getD i change0) ∧ GS markR S w A0 c0 (l.getD i change0).marks ∧ GS standR S w A1 c1 (l.getD i change0).p ∧ GS standR S w A2 c2 (l.getD i change0).q := by
 obtain ⟨a, cs, h1, h2, hI, A0, c0, A1, c1, A2, c2, rfl, k0, k1, k2⟩ := GS.el h i hi
 have e : (l.getD i change0) = l[i] := by rw [List.getD_eq_getElem?_getD, List.getElem?_eq_getElem hi]; rfl
 rw [e]
 exact ⟨a, _, _, _, _, _, _, h1, h2, hI, k0, k1, k2⟩
def noteR : Rep Nte where
 size := 58
 rd := fun S w cs x => NteI x ∧ ∃ A0 c0 A1 c1 A2 c2 A3 c3 A4 c4 A5 c5 A6 c6 A7 c7 A8 c8 A9 c9 A10 c10, cs = [.int .i64 x.kind, .int .i64 x.from_, .int .i64 x.group, .int .i64 x.epoch, .int .i64 x.view, .int .i64 x.seq] ++ (digC x.dig ++ ([.slice A0 x.batch.length c0, .int .i64 x.ans.err, .slice A1 x.ans.data.length c1, .int .i64 x.ans.epoch, .slice A2 x.ans.nodes.length c2, .int .i64 x.stamp, .int .i64 x.node, .int .i64 x.change.node, .int .i64 x.change.view, .int .i64 x.change.low, .slice A3 x.change.marks.length c3, .slice A4 x.change.p.length c4, .slice A5 x.change.q.length c5, .slice A6 x.changes.length c6, .slice A7 x.picks.length c7, .int .i64 x.level, .int .i64 x.place, .slice A8 x.digs.length c8, .slice A9 x.data.length c9, .slice A10 x.nodes.length c10])) ∧ GS wishR S w A0 c0 x.batch ∧ GS byteR S w A1 c1 x.ans.data ∧ GS intR S w A2 c2 x.ans.nodes ∧ GS markR S w A3 c3 x.change.marks ∧ GS standR S w A4 c4 x.change.p ∧ GS standR S w A5 c5 x.change.q ∧ GS changeR S w A6 c6 x.changes ∧ GS pickR S w A7 c7 x.picks ∧ GS digR S w A8 c8 x.digs ∧ GS byteR S w A9 c9 x.data ∧ GS intR S w A10 c10 x.nodes
 len := by rintro _ _ _ _ ⟨hI, A0, c0, A1, c1, A2, c2, A3, c3, A4, c4, A5, c5, A6, c6, A7, c7, A8, c8, A9, c9, A10, c10, rfl, k0, k1, k2, k3, k4, k5, k6, k7, k8, k9, k10⟩; rfl
 one := by rintro _ _ _ _ ⟨hI, A0, c0, A1, c1, A2, c2, A3, c3, A4, c4, A5, c5, A6, c6, A7, c7, A8, c8, A9, c9, A10, c10, rfl, k0, k1, k2, k3, k4, k5, k6, k7, k8, k9, k10⟩; exact List.all_eq_true.1 rfl
 keep := by rintro _ _ _ _ _ _ ch hm ⟨hI, A0, c0, A1, c1, A2, c2, A3, c3, A4, c4, A5, c5, A6, c6, A7, c7, A8, c8, A9, c9, A10, c10, rfl, k0, k1, k2, k3, k4, k5, k6, k7, k8, k9, k10⟩; exact ⟨hI, _, _, _, _, _, _, _, _, _, _, _, _, _, _, _, _, _, _, _, _, _, _, rfl, k0.keep ch hm, k1.keep ch hm, k2.keep ch hm, k3.keep ch hm, k4.keep ch hm, k5.keep ch hm, k6.keep ch hm, k7.keep ch hm, k8.keep ch hm, k9.keep ch hm, k10.keep ch hm⟩
 mono := by rintro _ _ _ _ _ hs ⟨hI, A0, c0, A1, c1, A2, c2, A3, c3, A4, c4, A5, c5, A6, c6, A7, c7, A8, c8, A9, c9, A10, c10, rfl, k0, k1, k2, k3, k4, k5, k6, k7, k8, k9, k10⟩; exact ⟨hI, _, _, _, _, _, _, _, _, _, _, _, _, _, _, _, _, _, _, _, _, _, _, rfl, k0.mono hs, k1.mono hs, k2.mono hs, k3.mono hs, k4.mono hs, k5.mono hs, k6.mono hs, k7.mono hs, k8.mono hs, k9.mono hs, k10.mono hs⟩
end Go.Proofs.YtkdoomglflikkaaGreat
namespace Go.Proofs.YtkdoomglflikkaaGreat
open Go.ChangeShapes Go.WideShapes Go.ChangeAt Go.RowKit Go.Eng Go.Eng _root_.Go.Proofs.Tryz
set_option maxRecDepth 100000
variable {w0 w : World} {M0 Fz : Nat → Prop} {H : List It} {A : Option Addr} {c : Nat}
theorem reads_t31 : ReadsR Tryz.prog 31 (sliceR standR) (fun l => l.length * 48 ≤ 140737488355328) := fun H enc w base sp held fuel cs x h hl hw => by
 obtain ⟨v, h1, h2⟩ := reads_slice (size := 34) (bytes := 48) Tryz.underlying31 rfl (by decide) Tryz.ce97 Tryz.by97 (by decide) reads_Stn H enc w base sp held fuel cs x h hl hw
 exact ⟨v, h1, h2.2⟩
end Go.Proofs.YtkdoomglflikkaaGreat
namespace Go.Proofs.YtkdoomglflikkaaGreat
open Go.RowKit Go.Eng Go.Eng _root_.Go.Proofs.Tryz
set_option maxRecDepth 100000
variable {w0 w : World} {M0 Fz : Nat → Prop} {H : List It} {A : Option Addr} {c : Nat}
set_option maxHeartbeats 40000000 in
theorem seqM_ok {Aa : Option Addr} {ca : Nat} {a : List Mrk} {Sa : Nat → Prop} {Ab : Option Addr} {cb : Nat} {b : List Mrk} {Sb : Nat → Prop} (ha : GS markR Sa w Aa ca a) (hb : GS markR Sb w Ab cb b) : Ret prog 117 #[.slice Aa a.length ca, .slice Ab b.length cb] w (fun v w' => v = .bool (decide (a = b)) ∧ Ext w w') := by
 have mha:=ha.mx
 have mhb:=hb.mx
 refine ret_of_wk func117 rfl ntmps117 leB_ ?_
 refine so ?_
 refine Cd ?_ ?_<;>intro hne
 refine so ?_
 refine Pt ?_
 exact ⟨_, rfl, bool_f (fun e => hne (by rw [e])), me⟩
 have hll : a.length = b.length := by omega
 refine so ?_
 refine Lp [0, 1, 12, 13] (fun L' w' mes => ∃ (k : Nat), L' = [(0, .slice Aa a.length ca), (1, .slice Ab b.length cb), (12, iv (a.length : Int)), (13, iv (k : Int))] ∧ (k ≤ a.length) ∧ (a.take k = b.take k) ∧ Ext w w' ∧ a.length - k = mes) (a.length - 0) (by
     refine ⟨0, rfl, ?_, ?_, me, rfl⟩
     omega
     simp) ?_
 rintro _ wr _ ⟨k, rfl, hk, htk, hEq0, rfl⟩ KL1 hKL1
 refine so ?_
 refine Cd ?_ ?_<;>intro hlt
 refine so ?_
 obtain ⟨aw2, hAw2, hatw2, hIw2⟩ := markR_el (ha.to (w' := wr)) k (by omega)
 obtain ⟨aw6, hAw6, hatw6, hIw6⟩ := markR_el (hb.to (w' := wr)) k (by omega)
 refine wdE 9 (fun wD hED => by refine pm ?_; exact .op rfl (wl_neqK (m := 6) ((a.getD k mark0) = (b.getD k mark0)) (by decide) key95 eg95 rfl rfl hIw2.fit hIw6.fit mark_inj (wl_nil qp)) pl) fun wD hED => ?_
 refine so ?_
 refine Cd ?_ ?_<;>intro hne2<;>refine so ?_
 refine Pt ?_
 exact ⟨_, rfl, bool_f (fun e => hne2 (by rw [e])), me⟩
 refine Kl [0, 1, 12, 13] hKL1 (a.length - (k + 1)) ⟨(k + 1), rfl, by omega, ?_, me, rfl⟩ (by omega)
 rw [take_snoc mark0 (by omega : k < a.length), take_snoc mark0 (by omega : k < b.length), htk, Decidable.not_not.1 hne2]
 have hkl : k = a.length := by omega
 refine so ?_
 refine Pt ?_
 exact ⟨_, rfl, bool_t (by rw [hkl, List.take_length, hll, List.take_length] at htk; exact htk), me⟩
set_option maxHeartbeats 40000000 in
theorem seqS_ok {Aa : Option Addr} {ca : Nat} {a : List Stn} {Sa : Nat → Prop} {Ab : Option Addr} {cb : Nat} {b : List Stn} {Sb : Nat → Prop} (ha : GS standR Sa w Aa ca a) (hb : GS standR Sb w Ab cb b) : Ret prog 118 #[.slice Aa a.length ca, .slice Ab b.length cb] w (fun v w' => v = .bool (decide (a = b)) ∧ Ext w w') := by
 have mha:=ha.mx
 have mhb:=hb.mx
 refine ret_of_wk func118 rfl ntmps118 leB_ ?_
 refine so ?_
 refine Cd ?_ ?_<;>intro hne
 refine so ?_
 refine Pt ?_
 exact ⟨_, rfl, bool_f (fun e => hne (by rw [e])), me⟩
 have hll : a.length = b.length := by omega
 refine so ?_
 refine Lp [0, 1, 12, 13] (fun L' w' mes => ∃ (k : Nat), L' = [(0, .slice Aa a.length ca), (1, .slice Ab b.length cb), (12, iv (a.length : Int)), (13, iv (k : Int))] ∧ (k ≤ a.length) ∧ (a.take k = b.take k) ∧ Ext w w' ∧ a.length - k = mes) (a.length - 0) (by
     refine ⟨0, rfl, ?_, ?_, me, rfl⟩
     omega
     simp) ?_
 rintro _ wr _ ⟨k, rfl, hk, htk, hEq0, rfl⟩ KL1 hKL1
 refine so ?_
 refine Cd ?_ ?_<;>intro hlt
 refine so ?_
 obtain ⟨aw2, hAw2, hatw2, hIw2⟩ := standR_el (ha.to (w' := wr)) k (by omega)
 obtain ⟨aw6, hAw6, hatw6, hIw6⟩ := standR_el (hb.to (w' := wr)) k (by omega)
 refine wdE 9 (fun wD hED => by refine pm ?_; exact .op rfl (wl_neqK (m := 6) ((a.getD k stand0) = (b.getD k stand0)) (by decide) key97 eg97 rfl rfl hIw2.fit hIw6.fit stand_inj (wl_nil qp)) pl) fun wD hED => ?_
 refine so ?_
 refine Cd ?_ ?_<;>intro hne2<;>refine so ?_
 refine Pt ?_
 exact ⟨_, rfl, bool_f (fun e => hne2 (by rw [e])), me⟩
 refine Kl [0, 1, 12, 13] hKL1 (a.length - (k + 1)) ⟨(k + 1), rfl, by omega, ?_, me, rfl⟩ (by omega)
 rw [take_snoc stand0 (by omega : k < a.length), take_snoc stand0 (by omega : k < b.length), htk, Decidable.not_not.1 hne2]
 have hkl : k = a.length := by omega
 refine so ?_
 refine Pt ?_
 exact ⟨_, rfl, bool_t (by rw [hkl, List.take_length, hll, List.take_length] at htk; exact htk), me⟩
theorem t0_nAnswerMay_ok {p : Prop} (h : p := by unfold AnswerMay; first | omega | exact ⟨fun h => ⟨by omega, by omega, by omega, by omega, by omega, by omega, fun y hy => Decidable.byContradiction fun hn => h ⟨y, hy, hn⟩⟩, fun h ⟨y, hy, hn⟩ => hn (h.2.2.2.2.2.2 y hy)⟩) : p := h
set_option maxHeartbeats 40000000 in
theorem nAnswerMay_ok {csa : List Value} {a : Ans} {Sa : Nat → Prop} (ha : ansR.rd Sa w csa a) : Ret prog 102 #[.agg csa.toArray] w (fun v w' => v = .bool (decide (AnswerMay a)) ∧ Ext w w') := by
 obtain ⟨hIa, Aa0, ca0, Aa1, ca1, rfl, ha0, ha1⟩ := ha
 refine ret_of_wk func102 rfl ntmps102 leB_ ?_
 have hp:=HP.begin_ w
 refine so ?_
 refine Bx hp (h := fun gs1 w1 hp hE1 => ?_)
 replace hp:=hp.ay (itB gs1 29 ([iv a.err, .slice Aa0 a.data.length ca0, iv a.epoch, .slice Aa1 a.nodes.length ca1]) :: _)
 refine so ?_
 refine Cs (n_within) ?_
 refine so ?_
 refine Gs 6 ?_ ?_<;>intro hg1<;>refine so ?_
 refine Gs 12 ?_ ?_<;>intro hg2<;>refine so ?_
 refine Cs (n_within) ?_
 refine so ?_
 refine Gs 17 ?_ ?_<;>intro hg3<;>refine so ?_
 refine Gs 23 ?_ ?_<;>intro hg4<;>refine so ?_
 refine Cx hp (fICon_ok (fid := 137) (first := []) (cap := []) (p0 := fun x => ¬ (1 ≤ x ∧ x ≤ 28)) ha1.tn cl137 (fun w1 x hE => (answerMay1_ok (n := x)).mono (fun v w2 h => ⟨h.1, h.2 ▸ Chg.refl _ _⟩))) fun w7 hp hE7 => so ?_
 refine Pt ?_
 exact ⟨_, rfl, congrArg Value.bool (decide_eq_decide.2 t0_nAnswerMay_ok), hp.chg⟩
 refine Pt ?_
 exact ⟨_, rfl, bool_f t0_nAnswerMay_ok, hp.chg⟩
 refine Pt ?_
 exact ⟨_, rfl, bool_f t0_nAnswerMay_ok, hp.chg⟩
 refine Pt ?_
 exact ⟨_, rfl, bool_f t0_nAnswerMay_ok, hp.chg⟩
 refine Pt ?_
 exact ⟨_, rfl, bool_f t0_nAnswerMay_ok, hp.chg⟩
set_option maxHeartbeats 40000000 in
theorem order_ok {csa : List Value} {a : Stn} {Sa : Nat → Prop} {csb : List Value} {b : Stn} {Sb : Nat → Prop} (ha : standR.rd Sa w csa a) (hb : standR.rd Sb w csb b) : Ret prog 131 #[.agg csa.toArray, .agg csb.toArray] w (fun v w' => v = .int .i64 (ordS a b) ∧ Ext w w') := by
 obtain ⟨hIa, rfl⟩ := ha
 obtain ⟨hIb, rfl⟩ := hb
 refine ret_of_wk func131 rfl ntmps131 leB_ ?_
 have hp:=HP.begin_ w
 refine so ?_
 refine Bx hp (h := fun gs2 w1 hp hE1 => ?_)
 replace hp:=hp.ay (itB gs2 97 ([iv a.seq] ++ (digC a.dig ++ ([iv a.view]))) :: _)
 refine Bx hp (h := fun gs3 w2 hp hE2 => ?_)
 replace hp:=hp.ay (itB gs3 97 ([iv b.seq] ++ (digC b.dig ++ ([iv b.view]))) :: _)
 refine so ?_
 have hba:=(((hp.blkAt (i := 1) rfl).at_ 1).take 32).bs (d := a.dig) (S := fun _ => True) rfl trivial (hp.blkAt (i := 1) rfl).lt
 have hbb:=(((hp.blkAt (i := 0) rfl).at_ 1).take 32).bs (d := b.dig) (S := fun _ => True) rfl trivial (hp.blkAt (i := 0) rfl).lt
 apply wdL [.eq _,.eq _,.eq _,.eq _,.eq _,.eq _,.eq _,.eq _,.eq _,.eq _,.eq _,.eq _,.eq _,.eq _,.eq (iv (Lib.compareBytes a.dig.l b.dig.l)),SP.gs intR (fun _ => True) [cmpI a.seq b.seq,cmpI a.view b.view,Lib.compareBytes a.dig.l b.dig.l],.eq _,.eq _]
 refine ⟨?_,?_,?_,?_,?_,?_,?_,?_,?_,?_,?_,?_,?_,?_,?_,?_,?_,?_,trivial⟩<;>intro F wF hER hk
 exact Fd_ 0 fld97_0 (hk.qi 2) rfl qz
 exact Hl_ 1 sc3 (hk.qe 0) (hp.ext hER) rfl rfl qz
 exact Fd_ 0 fld97_0 (hk.qi 3) rfl qz
 exact Hl_ 0 sc3 (hk.qe 2) (hp.ext hER) rfl rfl qz
 have e6:=hk.qe 1
 have e8:=hk.qe 3
 refine Cl_ cl149 (by simp only [evs, ev, e6, e8]; first | done | rfl) (cmpI_ok) ?_
 rintro _ _ ⟨rfl, rfl⟩
 exact qz
 exact Fd_ 33 fld97_2 (hk.qi 2) rfl qz
 exact Hl_ 1 sc3 (hk.qe 5) (hp.ext hER) rfl rfl qz
 exact Fd_ 33 fld97_2 (hk.qi 3) rfl qz
 exact Hl_ 0 sc3 (hk.qe 7) (hp.ext hER) rfl rfl qz
 have e11:=hk.qe 6
 have e13:=hk.qe 8
 refine Cl_ cl149 (by simp only [evs, ev, e11, e13]; first | done | rfl) (cmpI_ok) ?_
 rintro _ _ ⟨rfl, rfl⟩
 exact qz
 exact Fd_ 1 fld97_1 (hk.qi 2) rfl qz
 exact wl_sliceA (by decide) ar23 (hk.qe 10) qz
 exact Fd_ 1 fld97_1 (hk.qi 3) rfl qz
 exact wl_sliceA (by decide) ar23 (hk.qe 12) qz
 have e16:=hk.qe 11
 have e18:=hk.qe 13
 have hcl:=bcompare_ok (hba.ext hER) (hbb.ext hER)
 refine Cl_ cl150 (by simp only [evs, ev, e16, e18, a.dig.h, b.dig.h]) hcl ?_
 clear hcl
 rintro _ w7 ⟨rfl, hE7⟩
 exact qz ⟨hE7, rfl⟩
 have e9:=hk.qe 4
 have e14:=hk.qe 9
 have e19:=hk.qe 14
 refine wl_bsliceI (xs := [.tmp 9, .tmp 14, .tmp 19]) (l := [cmpI a.seq b.seq, cmpI a.view b.view, Lib.compareBytes a.dig.l b.dig.l]) (by decide) sl27 rfl (by simp only [evs, ev, e9, e14, e19]; rfl) rfl (by simp) ?_
 intro g7 w7 hg7 hE7
 exact qz ⟨hE7, _, _, rfl, hg7⟩
 obtain ⟨u20, e20, h20⟩:=hk.qp 15
 obtain ⟨A15, c15, rfl, h15⟩ := h20
 have hcl:=orI_ok h15
 refine Cl_ cl148 (by simp only [evs, ev, e20]; first | done | rfl) hcl ?_
 clear hcl
 rintro _ _ ⟨rfl, rfl⟩
 exact qz
 exact wl_assign (by decide) (hk.qe 16) qz
 intro F wD hED hini hdo
 refine wk_drop [(4, _)] ⟨dq hdo 17, trivial⟩ ?_
 clear hini hdo
 replace hp:=hp.ext hED
 refine so ?_
 refine Pt ?_
 exact ⟨_, rfl, by rfl, hp.chg⟩
theorem NewMay_prog {n : Nte} : NewMay n ↔ 0 < n.view ∧ (1 ≤ n.changes.length ∧ n.changes.length ≤ 7) ∧ RiseI (mnode n n.changes.length) ∧ n.picks.length ≤ 8 ∧ (∀ i, i < n.changes.length → ChangeMay (n.changes.getD i change0) ∧ (n.changes.getD i change0).view = n.view) ∧ (∀ i, i < n.picks.length → PkAt n.picks n.group n.epoch i) := by
 rw [nodes_rise]
 unfold NewMay ChAt
 constructor
 ·rintro ⟨a1, a2, a3, a4, a5, a6⟩
  exact ⟨by omega, ⟨a1, a2⟩, fun i hi => (a5 i hi).2.2, a3, fun i hi => ⟨(a5 i hi).1, (a5 i hi).2.1⟩, a6⟩
 ·rintro ⟨a1, ⟨a2, a3⟩, a4, a5, a6, a7⟩
  exact ⟨a2, a3, a5, by omega, fun i hi => ⟨(a6 i hi).1, (a6 i hi).2, a4 i hi⟩, a7⟩
set_option maxHeartbeats 40000000 in
theorem gStr_ok {gw : Nat} {out : List UInt8} {pa : Addr} {s : List UInt8} {B : Option Addr} {d : Nat} {v9 : Value} (hp : HP w0 M0 Fz w (itB gw 89 [.slice A out.length c] :: itR 5 1 A out.length c (out.map bv) :: H)) (hat : AtF Fz w pa [.slice B s.length d]) (hgb : GS byteR Fz w B d s) (hn : s.length ≤ 65536) (hlen : out.length + (strE s).length ≤ 1000000) : Ret prog 178 #[.pointer (some ⟨gw, 0, none⟩), .pointer (some pa), v9] w (WrP 5 89 gw w0 M0 Fz w H (out ++ strE s)) := by
 have hFr:=Frz.start Fz w
 have hns : strS s = (strE s, 0) := by rw [strS, if_neg (by omega)]; rfl
 refine ret_of_wk func178 rfl ntmps178 leB_ ?_
 refine go ?_
 refine Ld_ sc26 rfl hat.head ?_
 have hcl:=str_ok hgb
 refine Cl_ cl181 rfl hcl ?_
 clear hcl
 rintro _ w1 ⟨A1, c1, rfl, ho1, hE1⟩
 rw [hns] at ho1 ⊢
 replace hFr:=hFr.ext hE1
 replace hp:=hp.ext hE1
 refine go ?_
 refine Fd_ 0 fld89_0 rfl rfl ?_
 refine Hl_ 0 sc26 rfl hp rfl rfl (go ?_)
 refine wl_happendB (i := 1) (l2 := strE s) (by decide) sl26 rfl rfl hp rfl ho1.bs (by omega) ?_
 rintro A1 c1 w1 hp1 hC1
 replace hFr:=hFr.fz hC1
 replace hp:=(hp1.ay (_ :: itR 5 1 A1 (out ++ strE s).length c1 ((out ++ strE s).map bv) :: _))
 refine go ?_
 refine Fd_ 0 fld89_0 rfl rfl ?_
 refine wl_hstore1 (i := 0) rfl rfl hp rfl sz26 (Nat.succ_pos _) rfl ?_
 rintro w2 hp2 hC2
 replace hFr:=hFr.fz hC2
 replace hp:=(hp2.ay (itB gw 89 [.slice A1 (out ++ strE s).length c1] :: itR 5 1 A1 (out ++ strE s).length c1 ((out ++ strE s).map bv) :: _))
 replace hp:=hp.ay (itB gw 89 ([.slice A1 (out ++ strE s).length c1]) :: _)
 refine go ?_
 refine wk_post0 (.inr rfl) results178  ?_
 exact ⟨_, rfl, _, _, hp, hFr⟩
set_option maxHeartbeats 40000000 in
theorem gMany_ok {gw : Nat} {out : List UInt8} {n : Int} {v9 : Value} (hp : HP w0 M0 Fz w (itB gw 89 [.slice A out.length c] :: itR 5 1 A out.length c (out.map bv) :: H)) (hn : isNum n) (hlen : out.length + (numE n).length ≤ 1000000) : Ret prog 176 #[.pointer (some ⟨gw, 0, none⟩), .int .i64 n, v9] w (fun v w2 => v = .int .i64 n ∧ WrP 5 89 gw w0 M0 Fz w H (out ++ numE n) v w2) := by
 have hFr:=Frz.start Fz w
 refine ret_of_wk func176 rfl ntmps176 leB_ ?_
 refine go ?_
 refine wl_hbox (by decide) rfl hp ?_
 rintro gs4 wc1 hpc1 hEc1
 replace hFr:=hFr.ext hEc1
 replace hp:=hpc1
 obtain ⟨Fzc, hpc2, hsc2, hcap⟩ := (hp.as_ (H' := itB gs4 3 [iv n] :: _) rfl).frzBlk
 replace hp:=hpc2
 replace hFr:=hFr.wid hsc2
 refine go ?_
 have hcl:=gNum_ok hp hcap hn hlen
 refine Cl_ cl177 rfl hcl ?_
 clear hcl
 rintro _ w1 ⟨A1, c1, hp1, hF1⟩
 replace hFr:=hFr.fr hF1
 have q0:=hcap.tk.fr hF1
 replace hp:=(hp1.ay (itB gw 89 [.slice A1 (out ++ numE n).length c1] :: itR 5 1 A1 (out ++ numE n).length c1 ((out ++ numE n).map bv) :: _))
 refine go ?_
 refine Ld_ sc3 rfl (hcap.fr q0).head (go ?_)
 refine P1 results176 ?_
 exact ⟨_, rfl, rfl, _, _, hp.less hFr.sub, hFr.chg, fun _ h => h⟩
set_option maxHeartbeats 40000000 in
theorem lChange_ok {node : Int} (hp : HP w0 M0 Fz w H) (hn : i64 node) : Ret prog 35 #[.int .i64 node] w (fun v w2 => ∃ F2 cs, v = .agg cs.toArray ∧ HP w0 M0 F2 w2 H ∧ Frz Fz F2 w w2 ∧ changeR.rd F2 w2 cs (chgN node)) := by
 have hFr:=Frz.start Fz w
 unfold i64 at hn
 refine ret_of_wk func35 rfl ntmps35 leB_ ?_
 refine go ?_
 refine wl_halloc (e := 33) (z := .agg #[iv 0, iv 0, iv 0, s0, s0, s0]) (by decide) (by kernel_rfl) hp ?_
 rintro gs2 w1 hp1 hE1
 replace hFr:=hFr.ext hE1
 replace hp:=hp1
 refine go ?_
 have hcl:=fun w => lDigest_ok (w := w) (b := 1)
 refine Cl_ cl27 rfl (hcl _) ?_
 clear hcl
 rintro _ w2 ⟨rfl, hE2⟩
 replace hFr:=hFr.ext hE2
 replace hp:=hp.ext hE2
 refine wl_builtS (ps := [(0, .const (iv 5)), (1, .tmp 5), (2, .const (iv 2))]) (by decide) bld97 rfl rfl ?_
 have hcl:=fun w => lDigest_ok (w := w) (b := 2)
 refine Cl_ cl27 rfl (hcl _) ?_
 clear hcl
 rintro _ w3 ⟨rfl, hE3⟩
 replace hFr:=hFr.ext hE3
 replace hp:=hp.ext hE3
 refine wl_builtS (ps := [(0, .const (iv 9)), (1, .tmp 7)]) (by decide) bld97 rfl rfl ?_
 refine wl_bsliceR (r := standR) (css := [[iv 5] ++ (digC (dgt 1) ++ ([iv 2])), [iv 9] ++ (digC (dgt 2) ++ ([iv stand0.view]))]) (l := [({ seq := 5, dig := (dgt 1), view := 2 } : Stn), ({ stand0 with seq := 9, dig := (dgt 2) } : Stn)]) (xs := [.tmp 6, .tmp 8]) (by decide) sl31 rfl rfl (((RF.one (r := standR) (Fz := Fz) (cs := [iv 5] ++ (digC (dgt 1) ++ ([iv 2]))) (v := ({ seq := 5, dig := (dgt 1), view := 2 } : Stn)) (⟨(show StnI ({ seq := 5, dig := (dgt 1), view := 2 } : Stn) by unfold StnI i64; (try unfold stand0); (try dsimp only); omega), rfl⟩)).append (RF.one (r := standR) (Fz := Fz) (cs := [iv 9] ++ (digC (dgt 2) ++ ([iv stand0.view]))) (v := ({ stand0 with seq := 9, dig := (dgt 2) } : Stn)) (⟨(show StnI ({ stand0 with seq := 9, dig := (dgt 2) } : Stn) by unfold StnI i64; (try unfold stand0); (try dsimp only); omega), rfl⟩))) : RF standR Fz _ [[iv 5] ++ (digC (dgt 1) ++ ([iv 2])), [iv 9] ++ (digC (dgt 2) ++ ([iv stand0.view]))] [({ seq := 5, dig := (dgt 1), view := 2 } : Stn), ({ stand0 with seq := 9, dig := (dgt 2) } : Stn)]) rfl (by simp) leB_ ?_
 rintro gb4 wb4 hgb4 hs4 hE4
 obtain ⟨Fz4, hp4, hsub4, hnew4, _⟩ := hp.frz hE4
 replace hp:=hp4
 replace hs4:=hs4.mono (fun b hb h => h.elim (fun x => hsub4 b x.1) (fun e => hnew4 b (by rw [e, hgb4]; exact Nat.le_refl _) hb))
 replace hFr:=(hFr.ext hE4).wid hsub4
 refine go ?_
 have hcl:=fun w => lDigest_ok (w := w) (b := 1)
 refine Cl_ cl27 rfl (hcl _) ?_
 clear hcl
 rintro _ w5 ⟨rfl, hE5⟩
 replace hFr:=hFr.ext hE5
 have q0:=hE5
 replace hp:=hp.ext hE5
 refine wl_builtS (ps := [(0, .const (iv 5)), (1, .tmp 10), (2, .const (iv 2))]) (by decide) bld97 rfl rfl ?_
 have hcl:=fun w => lDigest_ok (w := w) (b := 4)
 refine Cl_ cl27 rfl (hcl _) ?_
 clear hcl
 rintro _ w6 ⟨rfl, hE6⟩
 replace hFr:=hFr.ext hE6
 replace q0:=q0.trans hE6
 replace hp:=hp.ext hE6
 refine wl_builtS (ps := [(0, .const (iv 6)), (1, .tmp 12), (2, .const (iv 1))]) (by decide) bld97 rfl rfl ?_
 have hcl:=fun w => lDigest_ok (w := w) (b := 3)
 refine Cl_ cl27 rfl (hcl _) ?_
 clear hcl
 rintro _ w7 ⟨rfl, hE7⟩
 replace hFr:=hFr.ext hE7
 replace q0:=q0.trans hE7
 replace hp:=hp.ext hE7
 refine wl_builtS (ps := [(0, .const (iv 6)), (1, .tmp 14), (2, .const (iv 2))]) (by decide) bld97 rfl rfl ?_
 have hcl:=fun w => lDigest_ok (w := w) (b := 2)
 refine Cl_ cl27 rfl (hcl _) ?_
 clear hcl
 rintro _ w8 ⟨rfl, hE8⟩
 replace hFr:=hFr.ext hE8
 replace q0:=q0.trans hE8
 replace hp:=hp.ext hE8
 refine wl_builtS (ps := [(0, .const (iv 12)), (1, .tmp 16)]) (by decide) bld97 rfl rfl ?_
 refine wl_bsliceR (r := standR) (css := [[iv 5] ++ (digC (dgt 1) ++ ([iv 2])), [iv 6] ++ (digC (dgt 4) ++ ([iv 1])), [iv 6] ++ (digC (dgt 3) ++ ([iv 2])), [iv 12] ++ (digC (dgt 2) ++ ([iv stand0.view]))]) (l := [({ seq := 5, dig := (dgt 1), view := 2 } : Stn), ({ seq := 6, dig := (dgt 4), view := 1 } : Stn), ({ seq := 6, dig := (dgt 3), view := 2 } : Stn), ({ stand0 with seq := 12, dig := (dgt 2) } : Stn)]) (xs := [.tmp 11, .tmp 13, .tmp 15, .tmp 17]) (by decide) sl31 rfl rfl (((RF.one (r := standR) (Fz := Fz4) (cs := [iv 5] ++ (digC (dgt 1) ++ ([iv 2]))) (v := ({ seq := 5, dig := (dgt 1), view := 2 } : Stn)) (⟨(show StnI ({ seq := 5, dig := (dgt 1), view := 2 } : Stn) by unfold StnI i64; (try unfold stand0); (try dsimp only); omega), rfl⟩)).append ((RF.one (r := standR) (Fz := Fz4) (cs := [iv 6] ++ (digC (dgt 4) ++ ([iv 1]))) (v := ({ seq := 6, dig := (dgt 4), view := 1 } : Stn)) (⟨(show StnI ({ seq := 6, dig := (dgt 4), view := 1 } : Stn) by unfold StnI i64; (try unfold stand0); (try dsimp only); omega), rfl⟩)).append ((RF.one (r := standR) (Fz := Fz4) (cs := [iv 6] ++ (digC (dgt 3) ++ ([iv 2]))) (v := ({ seq := 6, dig := (dgt 3), view := 2 } : Stn)) (⟨(show StnI ({ seq := 6, dig := (dgt 3), view := 2 } : Stn) by unfold StnI i64; (try unfold stand0); (try dsimp only); omega), rfl⟩)).append (RF.one (r := standR) (Fz := Fz4) (cs := [iv 12] ++ (digC (dgt 2) ++ ([iv stand0.view]))) (v := ({ stand0 with seq := 12, dig := (dgt 2) } : Stn)) (⟨(show StnI ({ stand0 with seq := 12, dig := (dgt 2) } : Stn) by unfold StnI i64; (try unfold stand0); (try dsimp only); omega), rfl⟩))))) : RF standR Fz4 _ [[iv 5] ++ (digC (dgt 1) ++ ([iv 2])), [iv 6] ++ (digC (dgt 4) ++ ([iv 1])), [iv 6] ++ (digC (dgt 3) ++ ([iv 2])), [iv 12] ++ (digC (dgt 2) ++ ([iv stand0.view]))] [({ seq := 5, dig := (dgt 1), view := 2 } : Stn), ({ seq := 6, dig := (dgt 4), view := 1 } : Stn), ({ seq := 6, dig := (dgt 3), view := 2 } : Stn), ({ stand0 with seq := 12, dig := (dgt 2) } : Stn)]) rfl (by simp) leB_ ?_
 rintro gb9 wb9 hgb9 hs9 hE9
 obtain ⟨Fz9, hp9, hsub9, hnew9, _⟩ := hp.frz hE9
 replace hp:=hp9
 replace hs9:=hs9.mono (fun b hb h => h.elim (fun x => hsub9 b x.1) (fun e => hnew9 b (by rw [e, hgb9]; exact Nat.le_refl _) hb))
 replace hFr:=(hFr.ext hE9).wid hsub9
 have q1:=hs4.tk.ext q0
 replace q1:=(q1.ext hE9).wid hsub9
 refine go ?_
 have hcl:=fun w => lDigest_ok (w := w) (b := 9)
 refine Cl_ cl27 rfl (hcl _) ?_
 clear hcl
 rintro _ w10 ⟨rfl, hE10⟩
 replace hFr:=hFr.ext hE10
 replace q1:=q1.ext hE10
 have q2:=hE10
 replace hp:=hp.ext hE10
 refine wl_builtS (ps := [(0, .const (iv 4)), (1, .tmp 20)]) (by decide) bld95 rfl rfl ?_
 have hcl:=fun w => lDigest_ok (w := w) (b := 8)
 refine Cl_ cl27 rfl (hcl _) ?_
 clear hcl
 rintro _ w11 ⟨rfl, hE11⟩
 replace hFr:=hFr.ext hE11
 replace q1:=q1.ext hE11
 replace q2:=q2.trans hE11
 replace hp:=hp.ext hE11
 refine wl_builtS (ps := [(0, .const (iv 8)), (1, .tmp 22)]) (by decide) bld95 rfl rfl ?_
 refine wl_bsliceR (r := markR) (css := [[iv 4] ++ (digC (dgt 9)), [iv 8] ++ (digC (dgt 8))]) (l := [({ seq := 4, dig := (dgt 9) } : Mrk), ({ seq := 8, dig := (dgt 8) } : Mrk)]) (xs := [.tmp 21, .tmp 23]) (by decide) sl30 rfl rfl (((RF.one (r := markR) (Fz := Fz9) (cs := [iv 4] ++ (digC (dgt 9))) (v := ({ seq := 4, dig := (dgt 9) } : Mrk)) (⟨(show MrkI ({ seq := 4, dig := (dgt 9) } : Mrk) by unfold MrkI i64; (try unfold mark0); (try dsimp only); omega), rfl⟩)).append (RF.one (r := markR) (Fz := Fz9) (cs := [iv 8] ++ (digC (dgt 8))) (v := ({ seq := 8, dig := (dgt 8) } : Mrk)) (⟨(show MrkI ({ seq := 8, dig := (dgt 8) } : Mrk) by unfold MrkI i64; (try unfold mark0); (try dsimp only); omega), rfl⟩))) : RF markR Fz9 _ [[iv 4] ++ (digC (dgt 9)), [iv 8] ++ (digC (dgt 8))] [({ seq := 4, dig := (dgt 9) } : Mrk), ({ seq := 8, dig := (dgt 8) } : Mrk)]) rfl (by simp) leB_ ?_
 rintro gb12 wb12 hgb12 hs12 hE12
 obtain ⟨Fz12, hp12, hsub12, hnew12, _⟩ := hp.frz hE12
 replace hp:=hp12
 replace hs12:=hs12.mono (fun b hb h => h.elim (fun x => hsub12 b x.1) (fun e => hnew12 b (by rw [e, hgb12]; exact Nat.le_refl _) hb))
 replace hFr:=(hFr.ext hE12).wid hsub12
 replace q1:=(q1.ext hE12).wid hsub12
 have q3:=hs9.tk.ext q2
 replace q3:=(q3.ext hE12).wid hsub12
 refine go ?_
 refine wl_builtS (ps := [(0, .tmp 19), (1, .const (iv 3)), (2, .const (iv 4)), (3, .tmp 24), (4, .tmp 25), (5, .tmp 26)]) (by decide) bld33 rfl rfl ?_
 refine wl_hstore (i := 0) rfl rfl hp rfl sz33 leB_ (List.all_eq_true.1 rfl) ?_
 rintro w13 hp13 hC13
 replace hFr:=hFr.fz hC13
 replace q1:=q1.fz hC13
 replace q3:=q3.fz hC13
 have q4:=hs12.tk.fz hC13
 replace hp:=hp13
 refine go ?_
 refine wk_postR (rs := [.cell 2 33]) (.inl rfl) results35 ⟨_, _, _, rfl, rfl, loadVar_agg ag33 (hp.blkAt (i := 0) rfl).at0 rfl, rfl⟩ ?_
 exact ⟨_, rfl, _, _, rfl, hp.tail, hFr, ⟨(by unfold ChnI i64 chgN; (try dsimp only); omega), _, _, _, _, _, _, rfl, (hs12.fr q4), (hs4.fr q1), (hs9.fr q3)⟩⟩
end Go.Proofs.YtkdoomglflikkaaGreat
