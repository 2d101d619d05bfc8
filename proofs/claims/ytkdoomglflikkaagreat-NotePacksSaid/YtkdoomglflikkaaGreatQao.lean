/- What each of these functions computes, for every argument that its theorem names; a part of what the proof of NotePacks stands on. -/
import Derived.Test.YtkdoomglflikkaaGreatQac
import Derived.Test.YtkdoomglflikkaaGreatQad
import Derived.Test.YtkdoomglflikkaaGreatQae
import Derived.Test.YtkdoomglflikkaaGreatQag
import Derived.Test.YtkdoomglflikkaaGreatQah
import Derived.Test.YtkdoomglflikkaaGreatQaj
import Derived.Test.YtkdoomglflikkaaGreatQak
namespace Go.Proofs.YtkdoomglflikkaaGreat
open Go.ChangeShapes Go.WideShapes Go.ChangeAt Go.RowKit Go.Eng Go.Eng _root_.Go.Proofs.Tryz
set_option maxRecDepth 100000
variable {w0 w : World} {M0 Fz : Nat → Prop} {H : List It} {A : Option Addr} {c : Nat}
theorem reads_t30 : ReadsR Tryz.prog 30 (sliceR markR) (fun l => l.length * 40 ≤ 140737488355328) := fun H enc w base sp held fuel cs x h hl hw => by
 obtain ⟨v, h1, h2⟩ := reads_slice (size := 33) (bytes := 40) Tryz.underlying30 rfl (by decide) Tryz.ce95 Tryz.by95 (by decide) reads_Mrk H enc w base sp held fuel cs x h hl hw
 exact ⟨v, h1, h2.2⟩
end Go.Proofs.YtkdoomglflikkaaGreat
namespace Go.Proofs.YtkdoomglflikkaaGreat
open Go.RowKit Go.Eng Go.Eng _root_.Go.Proofs.Tryz
set_option maxRecDepth 100000
variable {w0 w : World} {M0 Fz : Nat → Prop} {H : List It} {A : Option Addr} {c : Nat}
set_option maxHeartbeats 40000000 in
theorem seqM_ok {Aa : Option Addr} {ca : Nat} {a : List Mrk} {Sa : Nat → Prop} {Ab : Option Addr} {cb : Nat} {b : List Mrk} {Sb : Nat → Prop} (ha : GS markR Sa w Aa ca a) (hb : GS markR Sb w Ab cb b) : Ret prog 117 #[.slice Aa a.length ca, .slice Ab b.length cb] w (fun v w' => v = .bool (decide (a = b)) ∧ Ext w w') := by
 have mha:=ha.mx
 have mhb:=hb.mx
 refine ret_of_wk func117 rfl ntmps117 leB_ ?_
 refine so ?_
 refine Cd ?_ ?_<;>intro hne
 refine so ?_
 refine Pt ?_
 exact ⟨_, rfl, bool_f (fun e => hne (by rw [e])), me⟩
 have hll : a.length = b.length := by omega
 refine so ?_
 refine Lp [0, 1, 12, 13] (fun L' w' mes => ∃ (k : Nat), L' = [(0, .slice Aa a.length ca), (1, .slice Ab b.length cb), (12, iv (a.length : Int)), (13, iv (k : Int))] ∧ (k ≤ a.length) ∧ (a.take k = b.take k) ∧ Ext w w' ∧ a.length - k = mes) (a.length - 0) (by
     refine ⟨0, rfl, ?_, ?_, me, rfl⟩
     omega
     simp) ?_
 rintro _ wr _ ⟨k, rfl, hk, htk, hEq0, rfl⟩ KL1 hKL1
 refine so ?_
 refine Cd ?_ ?_<;>intro hlt
 refine so ?_
 obtain ⟨aw2, hAw2, hatw2, hIw2⟩ := markR_el (ha.to (w' := wr)) k (by omega)
 obtain ⟨aw6, hAw6, hatw6, hIw6⟩ := markR_el (hb.to (w' := wr)) k (by omega)
 refine wdE 9 (fun wD hED => by refine pm ?_; exact .op rfl (wl_neqK (m := 6) ((a.getD k mark0) = (b.getD k mark0)) (by decide) key95 eg95 rfl rfl hIw2.fit hIw6.fit mark_inj (wl_nil qp)) pl) fun wD hED => ?_
 refine so ?_
 refine Cd ?_ ?_<;>intro hne2<;>refine so ?_
 refine Pt ?_
 exact ⟨_, rfl, bool_f (fun e => hne2 (by rw [e])), me⟩
 refine Kl [0, 1, 12, 13] hKL1 (a.length - (k + 1)) ⟨(k + 1), rfl, by omega, ?_, me, rfl⟩ (by omega)
 rw [take_snoc mark0 (by omega : k < a.length), take_snoc mark0 (by omega : k < b.length), htk, Decidable.not_not.1 hne2]
 have hkl : k = a.length := by omega
 refine so ?_
 refine Pt ?_
 exact ⟨_, rfl, bool_t (by rw [hkl, List.take_length, hll, List.take_length] at htk; exact htk), me⟩
set_option maxHeartbeats 40000000 in
theorem seqS_ok {Aa : Option Addr} {ca : Nat} {a : List Stn} {Sa : Nat → Prop} {Ab : Option Addr} {cb : Nat} {b : List Stn} {Sb : Nat → Prop} (ha : GS standR Sa w Aa ca a) (hb : GS standR Sb w Ab cb b) : Ret prog 118 #[.slice Aa a.length ca, .slice Ab b.length cb] w (fun v w' => v = .bool (decide (a = b)) ∧ Ext w w') := by
 have mha:=ha.mx
 have mhb:=hb.mx
 refine ret_of_wk func118 rfl ntmps118 leB_ ?_
 refine so ?_
 refine Cd ?_ ?_<;>intro hne
 refine so ?_
 refine Pt ?_
 exact ⟨_, rfl, bool_f (fun e => hne (by rw [e])), me⟩
 have hll : a.length = b.length := by omega
 refine so ?_
 refine Lp [0, 1, 12, 13] (fun L' w' mes => ∃ (k : Nat), L' = [(0, .slice Aa a.length ca), (1, .slice Ab b.length cb), (12, iv (a.length : Int)), (13, iv (k : Int))] ∧ (k ≤ a.length) ∧ (a.take k = b.take k) ∧ Ext w w' ∧ a.length - k = mes) (a.length - 0) (by
     refine ⟨0, rfl, ?_, ?_, me, rfl⟩
     omega
     simp) ?_
 rintro _ wr _ ⟨k, rfl, hk, htk, hEq0, rfl⟩ KL1 hKL1
 refine so ?_
 refine Cd ?_ ?_<;>intro hlt
 refine so ?_
 obtain ⟨aw2, hAw2, hatw2, hIw2⟩ := standR_el (ha.to (w' := wr)) k (by omega)
 obtain ⟨aw6, hAw6, hatw6, hIw6⟩ := standR_el (hb.to (w' := wr)) k (by omega)
 refine wdE 9 (fun wD hED => by refine pm ?_; exact .op rfl (wl_neqK (m := 6) ((a.getD k stand0) = (b.getD k stand0)) (by decide) key97 eg97 rfl rfl hIw2.fit hIw6.fit stand_inj (wl_nil qp)) pl) fun wD hED => ?_
 refine so ?_
 refine Cd ?_ ?_<;>intro hne2<;>refine so ?_
 refine Pt ?_
 exact ⟨_, rfl, bool_f (fun e => hne2 (by rw [e])), me⟩
 refine Kl [0, 1, 12, 13] hKL1 (a.length - (k + 1)) ⟨(k + 1), rfl, by omega, ?_, me, rfl⟩ (by omega)
 rw [take_snoc stand0 (by omega : k < a.length), take_snoc stand0 (by omega : k < b.length), htk, Decidable.not_not.1 hne2]
 have hkl : k = a.length := by omega
 refine so ?_
 refine Pt ?_
 exact ⟨_, rfl, bool_t (by rw [hkl, List.take_length, hll, List.take_length] at htk; exact htk), me⟩
theorem t0_nAnswerMay_ok {p : Prop} (h : p := by unfold AnswerMay; first | omega | exact ⟨fun h => ⟨by omega, by omega, by omega, by omega, by omega, by omega, fun y hy => Decidable.byContradiction fun hn => h ⟨y, hy, hn⟩⟩, fun h ⟨y, hy, hn⟩ => hn (h.2.2.2.2.2.2 y hy)⟩) : p := h
set_option maxHeartbeats 40000000 in
theorem nAnswerMay_ok {csa : List Value} {a : Ans} {Sa : Nat → Prop} (ha : ansR.rd Sa w csa a) : Ret prog 102 #[.agg csa.toArray] w (fun v w' => v = .bool (decide (AnswerMay a)) ∧ Ext w w') := by
 obtain ⟨hIa, Aa0, ca0, Aa1, ca1, rfl, ha0, ha1⟩ := ha
 refine ret_of_wk func102 rfl ntmps102 leB_ ?_
 have hp:=HP.begin_ w
 refine so ?_
 refine Bx hp (h := fun gs1 w1 hp hE1 => ?_)
 replace hp:=hp.ay (itB gs1 29 ([iv a.err, .slice Aa0 a.data.length ca0, iv a.epoch, .slice Aa1 a.nodes.length ca1]) :: _)
 refine so ?_
 refine Cs (n_within) ?_
 refine so ?_
 refine Gs 6 ?_ ?_<;>intro hg1<;>refine so ?_
 refine Gs 12 ?_ ?_<;>intro hg2<;>refine so ?_
 refine Cs (n_within) ?_
 refine so ?_
 refine Gs 17 ?_ ?_<;>intro hg3<;>refine so ?_
 refine Gs 23 ?_ ?_<;>intro hg4<;>refine so ?_
 refine Cx hp (fICon_ok (fid := 137) (first := []) (cap := []) (p0 := fun x => ¬ (1 ≤ x ∧ x ≤ 28)) ha1.tn cl137 (fun w1 x hE => (answerMay1_ok (n := x)).mono (fun v w2 h => ⟨h.1, h.2 ▸ Chg.refl _ _⟩))) fun w7 hp hE7 => so ?_
 refine Pt ?_
 exact ⟨_, rfl, congrArg Value.bool (decide_eq_decide.2 t0_nAnswerMay_ok), hp.chg⟩
 refine Pt ?_
 exact ⟨_, rfl, bool_f t0_nAnswerMay_ok, hp.chg⟩
 refine Pt ?_
 exact ⟨_, rfl, bool_f t0_nAnswerMay_ok, hp.chg⟩
 refine Pt ?_
 exact ⟨_, rfl, bool_f t0_nAnswerMay_ok, hp.chg⟩
 refine Pt ?_
 exact ⟨_, rfl, bool_f t0_nAnswerMay_ok, hp.chg⟩
set_option maxHeartbeats 40000000 in
theorem order_ok {csa : List Value} {a : Stn} {Sa : Nat → Prop} {csb : List Value} {b : Stn} {Sb : Nat → Prop} (ha : standR.rd Sa w csa a) (hb : standR.rd Sb w csb b) : Ret prog 131 #[.agg csa.toArray, .agg csb.toArray] w (fun v w' => v = .int .i64 (ordS a b) ∧ Ext w w') := by
 obtain ⟨hIa, rfl⟩ := ha
 obtain ⟨hIb, rfl⟩ := hb
 refine ret_of_wk func131 rfl ntmps131 leB_ ?_
 have hp:=HP.begin_ w
 refine so ?_
 refine Bx hp (h := fun gs2 w1 hp hE1 => ?_)
 replace hp:=hp.ay (itB gs2 97 ([iv a.seq] ++ (digC a.dig ++ ([iv a.view]))) :: _)
 refine Bx hp (h := fun gs3 w2 hp hE2 => ?_)
 replace hp:=hp.ay (itB gs3 97 ([iv b.seq] ++ (digC b.dig ++ ([iv b.view]))) :: _)
 refine so ?_
 have hba:=(((hp.blkAt (i := 1) rfl).at_ 1).take 32).bs (d := a.dig) (S := fun _ => True) rfl trivial (hp.blkAt (i := 1) rfl).lt
 have hbb:=(((hp.blkAt (i := 0) rfl).at_ 1).take 32).bs (d := b.dig) (S := fun _ => True) rfl trivial (hp.blkAt (i := 0) rfl).lt
 apply wdL [.eq _,.eq _,.eq _,.eq _,.eq _,.eq _,.eq _,.eq _,.eq _,.eq _,.eq _,.eq _,.eq _,.eq _,.eq (iv (Lib.compareBytes a.dig.l b.dig.l)),SP.gs intR (fun _ => True) [cmpI a.seq b.seq,cmpI a.view b.view,Lib.compareBytes a.dig.l b.dig.l],.eq _,.eq _]
 refine ⟨?_,?_,?_,?_,?_,?_,?_,?_,?_,?_,?_,?_,?_,?_,?_,?_,?_,?_,trivial⟩<;>intro F wF hER hk
 exact Fd_ 0 fld97_0 (hk.qi 2) rfl qz
 exact Hl_ 1 sc3 (hk.qe 0) (hp.ext hER) rfl rfl qz
 exact Fd_ 0 fld97_0 (hk.qi 3) rfl qz
 exact Hl_ 0 sc3 (hk.qe 2) (hp.ext hER) rfl rfl qz
 have e6:=hk.qe 1
 have e8:=hk.qe 3
 refine Cl_ cl149 (by simp only [evs, ev, e6, e8]; first | done | rfl) (cmpI_ok) ?_
 rintro _ _ ⟨rfl, rfl⟩
 exact qz
 exact Fd_ 33 fld97_2 (hk.qi 2) rfl qz
 exact Hl_ 1 sc3 (hk.qe 5) (hp.ext hER) rfl rfl qz
 exact Fd_ 33 fld97_2 (hk.qi 3) rfl qz
 exact Hl_ 0 sc3 (hk.qe 7) (hp.ext hER) rfl rfl qz
 have e11:=hk.qe 6
 have e13:=hk.qe 8
 refine Cl_ cl149 (by simp only [evs, ev, e11, e13]; first | done | rfl) (cmpI_ok) ?_
 rintro _ _ ⟨rfl, rfl⟩
 exact qz
 exact Fd_ 1 fld97_1 (hk.qi 2) rfl qz
 exact wl_sliceA (by decide) ar23 (hk.qe 10) qz
 exact Fd_ 1 fld97_1 (hk.qi 3) rfl qz
 exact wl_sliceA (by decide) ar23 (hk.qe 12) qz
 have e16:=hk.qe 11
 have e18:=hk.qe 13
 have hcl:=bcompare_ok (hba.ext hER) (hbb.ext hER)
 refine Cl_ cl150 (by simp only [evs, ev, e16, e18, a.dig.h, b.dig.h]) hcl ?_
 clear hcl
 rintro _ w7 ⟨rfl, hE7⟩
 exact qz ⟨hE7, rfl⟩
 have e9:=hk.qe 4
 have e14:=hk.qe 9
 have e19:=hk.qe 14
 refine wl_bsliceI (xs := [.tmp 9, .tmp 14, .tmp 19]) (l := [cmpI a.seq b.seq, cmpI a.view b.view, Lib.compareBytes a.dig.l b.dig.l]) (by decide) sl27 rfl (by simp only [evs, ev, e9, e14, e19]; rfl) rfl (by simp) ?_
 intro g7 w7 hg7 hE7
 exact qz ⟨hE7, _, _, rfl, hg7⟩
 obtain ⟨u20, e20, h20⟩:=hk.qp 15
 obtain ⟨A15, c15, rfl, h15⟩ := h20
 have hcl:=orI_ok h15
 refine Cl_ cl148 (by simp only [evs, ev, e20]; first | done | rfl) hcl ?_
 clear hcl
 rintro _ _ ⟨rfl, rfl⟩
 exact qz
 exact wl_assign (by decide) (hk.qe 16) qz
 intro F wD hED hini hdo
 refine wk_drop [(4, _)] ⟨dq hdo 17, trivial⟩ ?_
 clear hini hdo
 replace hp:=hp.ext hED
 refine so ?_
 refine Pt ?_
 exact ⟨_, rfl, by rfl, hp.chg⟩
theorem ChangeMay_prog {cg : Chn} : ChangeMay cg ↔ (1 ≤ cg.node ∧ cg.node ≤ 28) ∧ (1 ≤ cg.view ∧ cg.view ≤ 1048576) ∧ (0 ≤ cg.low ∧ cg.low ≤ 9007199254740983) ∧ (1 ≤ cg.marks.length ∧ cg.marks.length ≤ 5) ∧ (cg.marks.getD 0 mark0).seq = cg.low ∧
  RiseI (mseq cg cg.marks.length) ∧ (cg.marks.getD (cg.marks.length - 1) mark0).seq ≤ 9007199254740991 ∧ StandsMay cg.p cg.low cg.view 1 ∧ StandsMay cg.q cg.low cg.view 4 := by
 unfold ChangeMay
 constructor
 ·rintro ⟨a1, a2, a3, a4, a5, a6, a7, a8, a9, a10, a11, a12⟩
  refine ⟨⟨a1, a2⟩, ⟨a3, a4⟩, ⟨a5, a6⟩, ⟨a7, a8⟩, a9, marks_fwd a10, ?_, a11, a12⟩
  by_cases h1 : cg.marks.length = 1
  ·rw [h1]; show (cg.marks.getD 0 mark0).seq ≤ _; omega
  ·exact (a10 (cg.marks.length - 1) (by omega) (by omega)).2
 ·rintro ⟨⟨a1, a2⟩, ⟨a3, a4⟩, ⟨a5, a6⟩, ⟨a7, a8⟩, a9, a10, a13, a11, a12⟩
  exact ⟨a1, a2, a3, a4, a5, a6, a7, a8, a9, marks_back a10 a13, a11, a12⟩
set_option maxHeartbeats 40000000 in
theorem gStr_ok {gw : Nat} {out : List UInt8} {pa : Addr} {s : List UInt8} {B : Option Addr} {d : Nat} {v9 : Value} (hp : HP w0 M0 Fz w (itB gw 89 [.slice A out.length c] :: itR 5 1 A out.length c (out.map bv) :: H)) (hat : AtF Fz w pa [.slice B s.length d]) (hgb : GS byteR Fz w B d s) (hn : s.length ≤ 65536) (hlen : out.length + (strE s).length ≤ 1000000) : Ret prog 178 #[.pointer (some ⟨gw, 0, none⟩), .pointer (some pa), v9] w (WrP 5 89 gw w0 M0 Fz w H (out ++ strE s)) := by
 have hFr:=Frz.start Fz w
 have hns : strS s = (strE s, 0) := by rw [strS, if_neg (by omega)]; rfl
 refine ret_of_wk func178 rfl ntmps178 leB_ ?_
 refine go ?_
 refine Ld_ sc26 rfl hat.head ?_
 have hcl:=str_ok hgb
 refine Cl_ cl181 rfl hcl ?_
 clear hcl
 rintro _ w1 ⟨A1, c1, rfl, ho1, hE1⟩
 rw [hns] at ho1 ⊢
 replace hFr:=hFr.ext hE1
 replace hp:=hp.ext hE1
 refine go ?_
 refine Fd_ 0 fld89_0 rfl rfl ?_
 refine Hl_ 0 sc26 rfl hp rfl rfl (go ?_)
 refine wl_happendB (i := 1) (l2 := strE s) (by decide) sl26 rfl rfl hp rfl ho1.bs (by omega) ?_
 rintro A1 c1 w1 hp1 hC1
 replace hFr:=hFr.fz hC1
 replace hp:=(hp1.ay (_ :: itR 5 1 A1 (out ++ strE s).length c1 ((out ++ strE s).map bv) :: _))
 refine go ?_
 refine Fd_ 0 fld89_0 rfl rfl ?_
 refine wl_hstore1 (i := 0) rfl rfl hp rfl sz26 (Nat.succ_pos _) rfl ?_
 rintro w2 hp2 hC2
 replace hFr:=hFr.fz hC2
 replace hp:=(hp2.ay (itB gw 89 [.slice A1 (out ++ strE s).length c1] :: itR 5 1 A1 (out ++ strE s).length c1 ((out ++ strE s).map bv) :: _))
 replace hp:=hp.ay (itB gw 89 ([.slice A1 (out ++ strE s).length c1]) :: _)
 refine go ?_
 refine wk_post0 (.inr rfl) results178  ?_
 exact ⟨_, rfl, _, _, hp, hFr⟩
set_option maxHeartbeats 40000000 in
theorem gMany_ok {gw : Nat} {out : List UInt8} {n : Int} {v9 : Value} (hp : HP w0 M0 Fz w (itB gw 89 [.slice A out.length c] :: itR 5 1 A out.length c (out.map bv) :: H)) (hn : isNum n) (hlen : out.length + (numE n).length ≤ 1000000) : Ret prog 176 #[.pointer (some ⟨gw, 0, none⟩), .int .i64 n, v9] w (fun v w2 => v = .int .i64 n ∧ WrP 5 89 gw w0 M0 Fz w H (out ++ numE n) v w2) := by
 have hFr:=Frz.start Fz w
 refine ret_of_wk func176 rfl ntmps176 leB_ ?_
 refine go ?_
 refine wl_hbox (by decide) rfl hp ?_
 rintro gs4 wc1 hpc1 hEc1
 replace hFr:=hFr.ext hEc1
 replace hp:=hpc1
 obtain ⟨Fzc, hpc2, hsc2, hcap⟩ := (hp.as_ (H' := itB gs4 3 [iv n] :: _) rfl).frzBlk
 replace hp:=hpc2
 replace hFr:=hFr.wid hsc2
 refine go ?_
 have hcl:=gNum_ok hp hcap hn hlen
 refine Cl_ cl177 rfl hcl ?_
 clear hcl
 rintro _ w1 ⟨A1, c1, hp1, hF1⟩
 replace hFr:=hFr.fr hF1
 have q0:=hcap.tk.fr hF1
 replace hp:=(hp1.ay (itB gw 89 [.slice A1 (out ++ numE n).length c1] :: itR 5 1 A1 (out ++ numE n).length c1 ((out ++ numE n).map bv) :: _))
 refine go ?_
 refine Ld_ sc3 rfl (hcap.fr q0).head (go ?_)
 refine P1 results176 ?_
 exact ⟨_, rfl, rfl, _, _, hp.less hFr.sub, hFr.chg, fun _ h => h⟩
set_option maxHeartbeats 40000000 in
theorem rMark_ok {gr : Nat} {l : List UInt8} {bad : Bool} {X : List Value → It} {pX pc : Addr} (hp : HP w0 M0 Fz w (itB gr 103 [.slice A l.length c, .bool bad] :: X ([.int .i64 0] ++ (digC dig0)) :: H)) (hS : Slot X pX 33) (hl : GS byteR Fz w A c l) (hcap : AtF Fz w pc [.iface 101 (.pointer (some ⟨gr, 0, none⟩))]) : Ret prog 96 #[.pointer (some pX), .pointer (some pc)] w (RdP 103 gr w0 M0 Fz w H X markR markP bad l) := by
 refine ret_of_wk func96 rfl ntmps96 leB_ ?_
 refine so ?_
 apply wdT 7 [.eq _,.eq _,.eq _,.eq _,.eq _,.eq _,.eq _]
 refine ⟨?_,?_,?_,?_,?_,?_,?_,trivial⟩<;>intro F wF hER hk
 exact Ld_ sc123 (hk.qi 1) (hcap.ext hER).head qz
 exact dm (hk.qi 0)
 exact Nc_ (hk.qe 1) qz
 have e5:=hk.qe 2
 refine Fe_ fld95_0 e5 ?_
 rw [add_zero']
 exact qz
 have e3:=hk.qe 0
 exact wl_makeFunc (first := [.tmp 3]) (cap := []) (by decide) (by simp only [evs, ev, e3]; rfl) rfl qz
 exact wl_nilCheckM (t := 101) (by decide) mt188 (hk.qe 4) qz
 exact dm (hk.qe 0)
 intro F wD hED hini hdo
 refine wl_drop [(0, _), (1, _), (6, _), (9, _)] ⟨di hini 0, di hini 1, dr hdo 3, dr hdo 6, trivial⟩ ?_
 clear hini hdo
 replace hp:=hp.ext hED
 refine Ci rfl (nNum_ok (X := (fun cs => X (([]) ++ (cs ++ (digC dig0))))) (pX := pX) (v0 := 0) hp (hS.sub ([]) (digC dig0) rfl) hl.to (by unfold i64; omega)) ?_
 rintro _ w1 ⟨F1, A1, c1, l1, b1, cs1, x1, hp, hF1, hl1, hrd1, hst1⟩
 obtain ⟨hI1, rfl⟩ := hrd1
 replace hp:=(hp.ay (itB gr 103 ([.slice A1 l1.length c1, .bool b1]) :: X ([iv x1] ++ (digC dig0)) :: H))
 refine so ?_
 refine wP 7 hp (h := fun wD hp hED => ?_)
 refine Ci rfl (nDigest_ok (X := (fun cs => X (([iv x1]) ++ (cs ++ ([]))))) (pX := (pX.add 1)) (d0 := dig0) hp (hS.sub ([iv x1]) ([]) rfl) hl1.to) ?_
 rintro _ w2 ⟨F2, A2, c2, l2, b2, cs2, x2, hp, hF2, hl2, hrd2, hst2⟩
 obtain rfl := hrd2
 replace hp:=(hp.ay (itB gr 103 ([.slice A2 l2.length c2, .bool b2]) :: X ([iv x1] ++ (digC x2)) :: H))
 refine so ?_
 refine wk_post0 (.inr rfl) results96  ?_
 exact ⟨_, rfl, _, A2, c2, l2, b2, _, ({ seq := x1, dig := x2 } : Mrk), ((hp.up 1 rfl).up 1 rfl), mv, hl2, ⟨hI1, rfl⟩, StepP.bind hst1 (StepP.bind hst2 (StepP.pure _ _))⟩
set_option maxHeartbeats 40000000 in
theorem wStr_ok {gr : Nat} {l : List UInt8} {e : Int} {most : Int} (hp : HP w0 M0 Fz w (itB gr 207 [.slice A l.length c, .int .i64 e] :: H)) (hl : GS byteR Fz w A c l) : Ret prog 196 #[.pointer (some ⟨gr, 0, none⟩), .int .i64 most] w (RvE 207 gr w0 M0 Fz w H (sliceR byteR) false (strP most) e l) := by
 refine ret_of_wk func196 rfl ntmps196 leB_ ?_
 refine so ?_
 refine Cd ?_ ?_<;>intro hc1<;>refine so ?_
 refine Ce (takeStr_ok (most := most) hl) ?_
 rintro _ w1 ⟨A1, c1, B1, d1, rfl, ho1, hq1, hE1⟩
 replace ho1:=ho1.bs
 replace hq1:=hq1.bs
 have hsz2:=hp.chg.size
 obtain ⟨Fz2, hp2, hsub2, hnew2, hup2⟩ := hp.frz hE1
 replace hp:=hp2
 replace ho1:=ho1.frz hnew2
 replace hq1:=hq1.frz hnew2
 refine so ?_
 refine H1 0 hp (h := fun w3 hp hC3 => ?_)
 replace hp:=hp.ay (itB gr 207 ([.slice B1 (takeStrS l most).2.1.length d1, iv e]) :: _)
 refine so ?_
 refine H1 0 hp (h := fun w4 hp hC4 => ?_)
 replace hp:=hp.ay (itB gr 207 ([.slice B1 (takeStrS l most).2.1.length d1, iv ((takeStrS l most).2.2)]) :: _)
 refine so ?_
 refine Pt ?_
 exact ⟨_, rfl, _, B1, d1, (takeStrS l most).2.1, ((takeStrS l most).2.2), _, (takeStrS l most).1, rfl, (hp.up 0 rfl), mv, hq1.to, sliceR_mk ho1.to, step_str (by first | rfl | (simp_all; done) | (simp_all; omega)) (fun h => by first | exact ⟨rfl, rfl⟩ | (simp_all; done))⟩
 refine Pt ?_
 exact ⟨_, rfl, _, A, c, l, e, _, [], rfl, (hp.up 0 rfl), mv, hl, sliceR_mk (GS.nil _ _ _ none 0), step_str (by first | rfl | (simp_all; done) | (simp_all; omega)) (fun h => by first | exact ⟨rfl, rfl⟩ | (simp_all; done))⟩
theorem unpack_bad {l : List UInt8} {x : Nte} (h : ReadR l x false) : unpackS l = (note0, 4) := by
 unfold unpackS
 cases hn : noteP l with
 | none => rfl
 | some y =>
  obtain ⟨y, u⟩ := y
  have := h.2 rfl y
  cases u with
  | nil => exact absurd hn this
  | cons a u => simp
end Go.Proofs.YtkdoomglflikkaaGreat
namespace Go.Proofs.YtkdoomglflikkaaGreat
open Go.RowKit Go.Eng _root_.Go.Proofs.Tryz Go.Eng _root_.Go.Proofs.Tryz
set_option maxRecDepth 100000
variable {w0 w : World} {M0 Fz : Nat → Prop} {H : List It} {A : Option Addr} {c : Nat}
theorem flat_get {rows : List (List Value)} {m i o : Nat} {cs : List Value} (hl : ∀ x ∈ rows, x.length = m) (hi : rows[i]? = some cs) (ho : o < m) : rows.flatten[i * m + o]? = cs[o]? := by
 induction rows generalizing i with
 | nil => simp at hi
 | cons x t ih =>
  have hx := hl x (by simp)
  rw [List.flatten_cons]
  cases i with
  | zero =>
   simp only [List.getElem?_cons_zero, Option.some.injEq] at hi
   subst hi
   rw [Nat.zero_mul, Nat.zero_add, List.getElem?_append_left (by omega)]
  | succ i =>
   rw [List.getElem?_append_right (by rw [hx, Nat.succ_mul]; omega), hx, show (i + 1) * m + o - m = i * m + o by rw [Nat.succ_mul]; omega]
   exact ih (fun y hy => hl y (by simp [hy])) (by simpa using hi)
end Go.Proofs.YtkdoomglflikkaaGreat
