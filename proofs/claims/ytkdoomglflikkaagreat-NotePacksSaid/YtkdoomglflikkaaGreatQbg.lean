/- What each of these functions computes, for every argument that its theorem names; a part of what the proof of NotePacks stands on. -/
import Derived.Test.YtkdoomglflikkaaGreatQac
import Derived.Test.YtkdoomglflikkaaGreatQad
import Derived.Test.YtkdoomglflikkaaGreatQag
import Derived.Test.YtkdoomglflikkaaGreatQah
import Derived.Test.YtkdoomglflikkaaGreatQan
import Derived.Test.YtkdoomglflikkaaGreatQaq
import Derived.Test.YtkdoomglflikkaaGreatQbc
import Derived.Test.YtkdoomglflikkaaGreatQbd
namespace Go.Proofs.YtkdoomglflikkaaGreat
open Go.RowKit Go.Eng Go.Eng _root_.Go.Proofs.Tryz
set_option maxRecDepth 100000
variable {w0 w : World} {M0 Fz : Nat → Prop} {H : List It} {A : Option Addr} {c : Nat}
theorem t0_rCheck_ok {p : Prop} (h : p := by exact Hx_ ([iv n.kind, iv n.from_, iv n.group, iv n.epoch, iv n.view, iv n.seq] ++ (digC n.dig ++ ([.slice An0 n.batch.length cn0, iv n.ans.err, .slice An1 n.ans.data.length cn1, iv n.ans.epoch, .slice An2 n.ans.nodes.length cn2, iv n.stamp, iv n.node, iv n.change.node, iv n.change.view, iv n.change.low, .slice An3 n.change.marks.length cn3, .slice An4 n.change.p.length cn4, .slice An5 n.change.q.length cn5, .slice An6 n.changes.length cn6, .slice An7 n.picks.length cn7, iv n.level, iv n.place, .slice An8 n.digs.length cn8, .slice An9 n.data.length cn9, .slice An10 n.nodes.length cn10]))) 0 ag38 (hk.qi 1) (hp.ext hER) rfl rfl rfl qz) : p := h
theorem t1_rCheck_ok {p : Prop} (h : p := by exact Hx_ ([iv n.kind, iv n.from_, iv n.group, iv n.epoch, iv n.view, iv n.seq] ++ (digC n.dig ++ ([.slice An0 n.batch.length cn0, iv n.ans.err, .slice An1 n.ans.data.length cn1, iv n.ans.epoch, .slice An2 n.ans.nodes.length cn2, iv n.stamp, iv n.node, iv n.change.node, iv n.change.view, iv n.change.low, .slice An3 n.change.marks.length cn3, .slice An4 n.change.p.length cn4, .slice An5 n.change.q.length cn5, .slice An6 n.changes.length cn6, .slice An7 n.picks.length cn7, iv n.level, iv n.place, .slice An8 n.digs.length cn8, .slice An9 n.data.length cn9, .slice An10 n.nodes.length cn10]))) 0 ag38 e1 (hp.ext hER) rfl rfl rfl qz) : p := h
theorem t2_rCheck_ok {p : Prop} (h : p := by simp only [evs, ev, e38, e39]; first | done | rfl) : p := h
theorem t3_rCheck_ok {p : Prop} (h : p := by simp only [evs, ev, e33]; first | done | rfl) : p := h
theorem t4_rCheck_ok {p : Prop} (h : p := by simp only [evs, ev, e37]; first | done | rfl) : p := h
set_option maxHeartbeats 40000000 in
theorem rCheck_ok {csn : List Value} {n : Nte} {Sn : Nat → Prop} (hn : noteR.rd Sn w csn n) : Ret prog 25 #[.agg csn.toArray] w (fun v w' => v = .int .i64 (if MayN n ∧ ownN n = n then 0 else 2) ∧ Ext w w') := by
 have qhn:=hn
 obtain ⟨hIn, An0, cn0, An1, cn1, An2, cn2, An3, cn3, An4, cn4, An5, cn5, An6, cn6, An7, cn7, An8, cn8, An9, cn9, An10, cn10, rfl, hn0, hn1, hn2, hn3, hn4, hn5, hn6, hn7, hn8, hn9, hn10⟩ := hn
 refine ret_of_wk func25 rfl ntmps25 leB_ ?_
 have hp:=HP.begin_ w
 refine so ?_
 refine Bx hp (h := fun gs1 w1 hp hE1 => so ?_)
 refine Cs (r12_within) ?_
 refine so ?_
 refine Gs 7 ?_ ?_<;>intro hg1<;>refine so ?_
 refine aT (so ?_)
 refine Pt ?_
 exact ⟨_, rfl, by first | (rw [if_neg (fun h => by obtain ⟨hm, hq⟩ := h; unfold MayN at hm; first | omega | (simp [hm.2.2.2.2.2.2.2] at hg1; done) | (simp [hq] at hg1; done))]; done) | (rw [if_pos ⟨⟨by omega, by omega, by omega, by omega, by omega, by omega, by omega, Decidable.byContradiction (fun hc => by simp [hc] at hg1)⟩, Decidable.byContradiction (fun hc => by simp [hc] at hg1)⟩]), hp.chg⟩
 refine Cs (r12_within) ?_
 refine so ?_
 refine Gs 13 ?_ ?_<;>intro hg2<;>refine so ?_
 refine aT (so ?_)
 refine Pt ?_
 exact ⟨_, rfl, by first | (rw [if_neg (fun h => by obtain ⟨hm, hq⟩ := h; unfold MayN at hm; first | omega | (simp [hm.2.2.2.2.2.2.2] at hg1 hg2; done) | (simp [hq] at hg1 hg2; done))]; done) | (rw [if_pos ⟨⟨by omega, by omega, by omega, by omega, by omega, by omega, by omega, Decidable.byContradiction (fun hc => by simp [hc] at hg1 hg2)⟩, Decidable.byContradiction (fun hc => by simp [hc] at hg1 hg2)⟩]), hp.chg⟩
 refine Cs (r12_within) ?_
 refine so ?_
 refine Cd ?_ ?_<;>intro hc3<;>refine so ?_
 refine Pt ?_
 exact ⟨_, rfl, by first | (rw [if_neg (fun h => by obtain ⟨hm, hq⟩ := h; unfold MayN at hm; first | omega | (simp [hm.2.2.2.2.2.2.2] at hg1 hg2 hc3; done) | (simp [hq] at hg1 hg2 hc3; done))]; done) | (rw [if_pos ⟨⟨by omega, by omega, by omega, by omega, by omega, by omega, by omega, Decidable.byContradiction (fun hc => by simp [hc] at hg1 hg2 hc3)⟩, Decidable.byContradiction (fun hc => by simp [hc] at hg1 hg2 hc3)⟩]), hp.chg⟩
 refine Gs 22 ?_ ?_<;>intro hg4<;>refine so ?_
 refine Gs 27 ?_ ?_<;>intro hg5<;>refine so ?_
 refine Cs (r12_node) ?_
 refine so ?_
 refine Cd ?_ ?_<;>intro hc6<;>refine so ?_
 refine Pt ?_
 exact ⟨_, rfl, by first | (rw [if_neg (fun h => by obtain ⟨hm, hq⟩ := h; unfold MayN at hm; first | omega | (simp [hm.2.2.2.2.2.2.2] at hg1 hg2 hc3 hg4 hg5 hc6; done) | (simp [hq] at hg1 hg2 hc3 hg4 hg5 hc6; done))]; done) | (rw [if_pos ⟨⟨by omega, by omega, by omega, by omega, by omega, by omega, by omega, Decidable.byContradiction (fun hc => by simp [hc] at hg1 hg2 hc3 hg4 hg5 hc6)⟩, Decidable.byContradiction (fun hc => by simp [hc] at hg1 hg2 hc3 hg4 hg5 hc6)⟩]), hp.chg⟩
 by_cases hs7 : FitsN n
 apply wdL [.eq _,.eq (.bool true),.eq (.bool false),.eq (.bool false),.eq _,SP.rd noteR (fun b => b < w.heap.size) ((ownN n)),.eq _,.eq _,.eq _,.eq _]
 refine ⟨?_,?_,?_,?_,?_,?_,?_,?_,?_,?_,trivial⟩<;>intro F wF hER hk
 exact t0_rCheck_ok
 have e33:=hk.qe 0
 have hcl:=rFits_ok (rdTn qhn (w' := wF))
 refine Cl_ cl54 t3_rCheck_ok hcl ?_
 clear hcl
 rintro _ w7 ⟨rfl, hE7⟩
 refine wl_re (k := 34) (v := .bool true) rfl (congrArg Value.bool (decide_eq_true (by first | exact hs7 | omega | simpa using hs7))) ?_
 exact qy ⟨hE7, rfl⟩
 have e34:=hk.qe 1
 first | exact Nd_ e34 qz | exact Nn_ e34 qz
 exact dm (hk.qe 2)
 have e1:=hk.qi 1
 have e36:=hk.qe 3
 refine wl_gyes rfl e36 ?_
 exact t1_rCheck_ok
 have e37:=hk.qe 4
 have e36:=hk.qe 3
 refine wl_gyes rfl e36 ?_
 have hcl:=own12_ok (rdTn qhn (w' := wF))
 refine Cl_ cl55 t4_rCheck_ok hcl ?_
 clear hcl
 rintro _ w7 ⟨cs7, rfl, hr7, hE7⟩
 exact qz ⟨hE7, _, rfl, hr7⟩
 have e1:=hk.qi 1
 have e36:=hk.qe 3
 refine wl_gyes rfl e36 ?_
 exact t1_rCheck_ok
 obtain ⟨u38, e38, h38⟩:=hk.qp 5
 obtain ⟨cs38, rfl, hr38⟩ := h38
 have e39:=hk.qe 6
 have e36:=hk.qe 3
 refine wl_gyes rfl e36 ?_
 have hcl:=rSame_ok hr38 (rdTn qhn (w' := wF))
 refine Cl_ cl17 t2_rCheck_ok hcl ?_
 clear hcl
 rintro _ w7 ⟨rfl, hE7⟩
 exact qz ⟨hE7, rfl⟩
 have e40:=hk.qe 7
 have e36:=hk.qe 3
 refine wl_gyes rfl e36 ?_
 first | exact Nd_ e40 qz | exact Nn_ e40 qz
 have e36:=hk.qe 3
 have e41:=hk.qe 8
 exact Pk_ e36 e41 qz
 intro F wD hED hini hdo
 refine wk_drop [(42, _)] ⟨dq hdo 9, trivial⟩ ?_
 clear hini hdo
 replace hp:=hp.ext hED
 refine so ?_
 refine Cd ?_ ?_<;>intro hc8<;>refine so ?_
 refine Pt ?_
 exact ⟨_, rfl, by first | (rw [if_neg (fun h => by obtain ⟨hm, hq⟩ := h; unfold MayN at hm; first | omega | (simp [hm.2.2.2.2.2.2.2] at hg1 hg2 hc3 hg4 hg5 hc6 hs7 hc8; done) | (simp [hq] at hg1 hg2 hc3 hg4 hg5 hc6 hs7 hc8; done))]; done) | (rw [if_pos ⟨⟨by omega, by omega, by omega, by omega, by omega, by omega, by omega, Decidable.byContradiction (fun hc => by simp [hc] at hg1 hg2 hc3 hg4 hg5 hc6 hs7 hc8)⟩, Decidable.byContradiction (fun hc => by simp [hc] at hg1 hg2 hc3 hg4 hg5 hc6 hs7 hc8)⟩]), hp.chg⟩
 refine Pt ?_
 exact ⟨_, rfl, by first | (rw [if_neg (fun h => by obtain ⟨hm, hq⟩ := h; unfold MayN at hm; first | omega | (simp [hm.2.2.2.2.2.2.2] at hg1 hg2 hc3 hg4 hg5 hc6 hs7 hc8; done) | (simp [hq] at hg1 hg2 hc3 hg4 hg5 hc6 hs7 hc8; done))]; done) | (rw [if_pos ⟨⟨by omega, by omega, by omega, by omega, by omega, by omega, by omega, Decidable.byContradiction (fun hc => by simp [hc] at hg1 hg2 hc3 hg4 hg5 hc6 hs7 hc8)⟩, Decidable.byContradiction (fun hc => by simp [hc] at hg1 hg2 hc3 hg4 hg5 hc6 hs7 hc8)⟩]), hp.chg⟩
 refine wdP 10 hp (fun wD hp hED => by refine pm ?_; exact PLe (rFits_ok (rdTn qhn)) (h := pl)) fun wD hp hED => ?_
 refine so ?_
 refine aT (so ?_)
 refine Pt ?_
 exact ⟨_, rfl, by first | (rw [if_neg (fun h => by obtain ⟨hm, hq⟩ := h; unfold MayN at hm; first | omega | (simp [hm.2.2.2.2.2.2.2] at hg1 hg2 hc3 hg4 hg5 hc6 hs7; done) | (simp [hq] at hg1 hg2 hc3 hg4 hg5 hc6 hs7; done))]; done) | (rw [if_pos ⟨⟨by omega, by omega, by omega, by omega, by omega, by omega, by omega, Decidable.byContradiction (fun hc => by simp [hc] at hg1 hg2 hc3 hg4 hg5 hc6 hs7)⟩, Decidable.byContradiction (fun hc => by simp [hc] at hg1 hg2 hc3 hg4 hg5 hc6 hs7)⟩]), hp.chg⟩
 refine aF (so ?_)
 by_cases hs9 : FitsN n
 apply wdL [.eq _,.eq (.bool true),.eq (.bool false),.eq (.bool false),.eq _,SP.rd noteR (fun b => b < w.heap.size) ((ownN n)),.eq _,.eq _,.eq _,.eq _]
 refine ⟨?_,?_,?_,?_,?_,?_,?_,?_,?_,?_,trivial⟩<;>intro F wF hER hk
 exact t0_rCheck_ok
 have e33:=hk.qe 0
 have hcl:=rFits_ok (rdTn qhn (w' := wF))
 refine Cl_ cl54 t3_rCheck_ok hcl ?_
 clear hcl
 rintro _ w7 ⟨rfl, hE7⟩
 refine wl_re (k := 34) (v := .bool true) rfl (congrArg Value.bool (decide_eq_true (by first | exact hs9 | omega | simpa using hs9))) ?_
 exact qy ⟨hE7, rfl⟩
 have e34:=hk.qe 1
 first | exact Nd_ e34 qz | exact Nn_ e34 qz
 exact dm (hk.qe 2)
 have e1:=hk.qi 1
 have e36:=hk.qe 3
 refine wl_gyes rfl e36 ?_
 exact t1_rCheck_ok
 have e37:=hk.qe 4
 have e36:=hk.qe 3
 refine wl_gyes rfl e36 ?_
 have hcl:=own12_ok (rdTn qhn (w' := wF))
 refine Cl_ cl55 t4_rCheck_ok hcl ?_
 clear hcl
 rintro _ w7 ⟨cs7, rfl, hr7, hE7⟩
 exact qz ⟨hE7, _, rfl, hr7⟩
 have e1:=hk.qi 1
 have e36:=hk.qe 3
 refine wl_gyes rfl e36 ?_
 exact t1_rCheck_ok
 obtain ⟨u38, e38, h38⟩:=hk.qp 5
 obtain ⟨cs38, rfl, hr38⟩ := h38
 have e39:=hk.qe 6
 have e36:=hk.qe 3
 refine wl_gyes rfl e36 ?_
 have hcl:=rSame_ok hr38 (rdTn qhn (w' := wF))
 refine Cl_ cl17 t2_rCheck_ok hcl ?_
 clear hcl
 rintro _ w7 ⟨rfl, hE7⟩
 exact qz ⟨hE7, rfl⟩
 have e40:=hk.qe 7
 have e36:=hk.qe 3
 refine wl_gyes rfl e36 ?_
 first | exact Nd_ e40 qz | exact Nn_ e40 qz
 have e36:=hk.qe 3
 have e41:=hk.qe 8
 exact Pk_ e36 e41 qz
 intro F wD hED hini hdo
 refine wk_drop [(42, _)] ⟨dq hdo 9, trivial⟩ ?_
 clear hini hdo
 replace hp:=hp.ext hED
 refine so ?_
 refine Cd ?_ ?_<;>intro hc10<;>refine so ?_
 refine Pt ?_
 exact ⟨_, rfl, by first | (rw [if_neg (fun h => by obtain ⟨hm, hq⟩ := h; unfold MayN at hm; first | omega | (simp [hm.2.2.2.2.2.2.2] at hg1 hg2 hc3 hg4 hg5 hs9 hc10; done) | (simp [hq] at hg1 hg2 hc3 hg4 hg5 hs9 hc10; done))]; done) | (rw [if_pos ⟨⟨by omega, by omega, by omega, by omega, by omega, by omega, by omega, Decidable.byContradiction (fun hc => by simp [hc] at hg1 hg2 hc3 hg4 hg5 hs9 hc10)⟩, Decidable.byContradiction (fun hc => by simp [hc] at hg1 hg2 hc3 hg4 hg5 hs9 hc10)⟩]), hp.chg⟩
 refine Pt ?_
 exact ⟨_, rfl, by first | (rw [if_neg (fun h => by obtain ⟨hm, hq⟩ := h; unfold MayN at hm; first | omega | (simp [hm.2.2.2.2.2.2.2] at hg1 hg2 hc3 hg4 hg5 hs9 hc10; done) | (simp [hq] at hg1 hg2 hc3 hg4 hg5 hs9 hc10; done))]; done) | (rw [if_pos ⟨⟨by omega, by omega, by omega, by omega, by omega, by omega, by omega, Decidable.byContradiction (fun hc => by simp [hc] at hg1 hg2 hc3 hg4 hg5 hs9 hc10)⟩, Decidable.byContradiction (fun hc => by simp [hc] at hg1 hg2 hc3 hg4 hg5 hs9 hc10)⟩]), hp.chg⟩
 refine wdP 10 hp (fun wD hp hED => by refine pm ?_; exact PLe (rFits_ok (rdTn qhn)) (h := pl)) fun wD hp hED => ?_
 refine so ?_
 refine aT (so ?_)
 refine Pt ?_
 exact ⟨_, rfl, by first | (rw [if_neg (fun h => by obtain ⟨hm, hq⟩ := h; unfold MayN at hm; first | omega | (simp [hm.2.2.2.2.2.2.2] at hg1 hg2 hc3 hg4 hg5 hs9; done) | (simp [hq] at hg1 hg2 hc3 hg4 hg5 hs9; done))]; done) | (rw [if_pos ⟨⟨by omega, by omega, by omega, by omega, by omega, by omega, by omega, Decidable.byContradiction (fun hc => by simp [hc] at hg1 hg2 hc3 hg4 hg5 hs9)⟩, Decidable.byContradiction (fun hc => by simp [hc] at hg1 hg2 hc3 hg4 hg5 hs9)⟩]), hp.chg⟩
 refine aF (so ?_)
 by_cases hs11 : FitsN n
 apply wdL [.eq _,.eq (.bool true),.eq (.bool false),.eq (.bool false),.eq _,SP.rd noteR (fun b => b < w.heap.size) ((ownN n)),.eq _,.eq _,.eq _,.eq _]
 refine ⟨?_,?_,?_,?_,?_,?_,?_,?_,?_,?_,trivial⟩<;>intro F wF hER hk
 exact t0_rCheck_ok
 have e33:=hk.qe 0
 have hcl:=rFits_ok (rdTn qhn (w' := wF))
 refine Cl_ cl54 t3_rCheck_ok hcl ?_
 clear hcl
 rintro _ w7 ⟨rfl, hE7⟩
 refine wl_re (k := 34) (v := .bool true) rfl (congrArg Value.bool (decide_eq_true (by first | exact hs11 | omega | simpa using hs11))) ?_
 exact qy ⟨hE7, rfl⟩
 have e34:=hk.qe 1
 first | exact Nd_ e34 qz | exact Nn_ e34 qz
 exact dm (hk.qe 2)
 have e1:=hk.qi 1
 have e36:=hk.qe 3
 refine wl_gyes rfl e36 ?_
 exact t1_rCheck_ok
 have e37:=hk.qe 4
 have e36:=hk.qe 3
 refine wl_gyes rfl e36 ?_
 have hcl:=own12_ok (rdTn qhn (w' := wF))
 refine Cl_ cl55 t4_rCheck_ok hcl ?_
 clear hcl
 rintro _ w7 ⟨cs7, rfl, hr7, hE7⟩
 exact qz ⟨hE7, _, rfl, hr7⟩
 have e1:=hk.qi 1
 have e36:=hk.qe 3
 refine wl_gyes rfl e36 ?_
 exact t1_rCheck_ok
 obtain ⟨u38, e38, h38⟩:=hk.qp 5
 obtain ⟨cs38, rfl, hr38⟩ := h38
 have e39:=hk.qe 6
 have e36:=hk.qe 3
 refine wl_gyes rfl e36 ?_
 have hcl:=rSame_ok hr38 (rdTn qhn (w' := wF))
 refine Cl_ cl17 t2_rCheck_ok hcl ?_
 clear hcl
 rintro _ w7 ⟨rfl, hE7⟩
 exact qz ⟨hE7, rfl⟩
 have e40:=hk.qe 7
 have e36:=hk.qe 3
 refine wl_gyes rfl e36 ?_
 first | exact Nd_ e40 qz | exact Nn_ e40 qz
 have e36:=hk.qe 3
 have e41:=hk.qe 8
 exact Pk_ e36 e41 qz
 intro F wD hED hini hdo
 refine wk_drop [(42, _)] ⟨dq hdo 9, trivial⟩ ?_
 clear hini hdo
 replace hp:=hp.ext hED
 refine so ?_
 refine Cd ?_ ?_<;>intro hc12<;>refine so ?_
 refine Pt ?_
 exact ⟨_, rfl, by first | (rw [if_neg (fun h => by obtain ⟨hm, hq⟩ := h; unfold MayN at hm; first | omega | (simp [hm.2.2.2.2.2.2.2] at hg1 hg2 hc3 hg4 hs11 hc12; done) | (simp [hq] at hg1 hg2 hc3 hg4 hs11 hc12; done))]; done) | (rw [if_pos ⟨⟨by omega, by omega, by omega, by omega, by omega, by omega, by omega, Decidable.byContradiction (fun hc => by simp [hc] at hg1 hg2 hc3 hg4 hs11 hc12)⟩, Decidable.byContradiction (fun hc => by simp [hc] at hg1 hg2 hc3 hg4 hs11 hc12)⟩]), hp.chg⟩
 refine Pt ?_
 exact ⟨_, rfl, by first | (rw [if_neg (fun h => by obtain ⟨hm, hq⟩ := h; unfold MayN at hm; first | omega | (simp [hm.2.2.2.2.2.2.2] at hg1 hg2 hc3 hg4 hs11 hc12; done) | (simp [hq] at hg1 hg2 hc3 hg4 hs11 hc12; done))]; done) | (rw [if_pos ⟨⟨by omega, by omega, by omega, by omega, by omega, by omega, by omega, Decidable.byContradiction (fun hc => by simp [hc] at hg1 hg2 hc3 hg4 hs11 hc12)⟩, Decidable.byContradiction (fun hc => by simp [hc] at hg1 hg2 hc3 hg4 hs11 hc12)⟩]), hp.chg⟩
 refine wdP 10 hp (fun wD hp hED => by refine pm ?_; exact PLe (rFits_ok (rdTn qhn)) (h := pl)) fun wD hp hED => ?_
 refine so ?_
 refine aT (so ?_)
 refine Pt ?_
 exact ⟨_, rfl, by first | (rw [if_neg (fun h => by obtain ⟨hm, hq⟩ := h; unfold MayN at hm; first | omega | (simp [hm.2.2.2.2.2.2.2] at hg1 hg2 hc3 hg4 hs11; done) | (simp [hq] at hg1 hg2 hc3 hg4 hs11; done))]; done) | (rw [if_pos ⟨⟨by omega, by omega, by omega, by omega, by omega, by omega, by omega, Decidable.byContradiction (fun hc => by simp [hc] at hg1 hg2 hc3 hg4 hs11)⟩, Decidable.byContradiction (fun hc => by simp [hc] at hg1 hg2 hc3 hg4 hs11)⟩]), hp.chg⟩
end Go.Proofs.YtkdoomglflikkaaGreat
