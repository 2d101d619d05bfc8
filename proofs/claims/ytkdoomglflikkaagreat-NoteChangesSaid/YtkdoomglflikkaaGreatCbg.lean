/- What each of these functions computes, for every argument that its theorem names; a part of what the proof of NoteChecks stands on. -/
import Derived.Test.YtkdoomglflikkaaGreatCac
import Derived.Test.YtkdoomglflikkaaGreatCad
import Derived.Test.YtkdoomglflikkaaGreatCag
import Derived.Test.YtkdoomglflikkaaGreatCah
import Derived.Test.YtkdoomglflikkaaGreatCaj
import Derived.Test.YtkdoomglflikkaaGreatCak
import Derived.Test.YtkdoomglflikkaaGreatCao
import Derived.Test.YtkdoomglflikkaaGreatCaq
import Derived.Test.YtkdoomglflikkaaGreatCau
import Derived.Test.YtkdoomglflikkaaGreatCbb
import Derived.Test.YtkdoomglflikkaaGreatCbc
import Derived.Test.YtkdoomglflikkaaGreatCbd
namespace Go.Proofs.YtkdoomglflikkaaGreat
open Go.RowKit Go.Eng Go.Eng _root_.Go.Proofs.Tryz
set_option maxRecDepth 100000
variable {w0 w : World} {M0 Fz : Nat → Prop} {H : List It} {A : Option Addr} {c : Nat}
theorem t0_rCheck_ok {p : Prop} (h : p := by exact Hx_ ([iv n.kind, iv n.from_, iv n.group, iv n.epoch, iv n.view, iv n.seq] ++ (digC n.dig ++ ([.slice An0 n.batch.length cn0, iv n.ans.err, .slice An1 n.ans.data.length cn1, iv n.ans.epoch, .slice An2 n.ans.nodes.length cn2, iv n.stamp, iv n.node, iv n.change.node, iv n.change.view, iv n.change.low, .slice An3 n.change.marks.length cn3, .slice An4 n.change.p.length cn4, .slice An5 n.change.q.length cn5, .slice An6 n.changes.length cn6, .slice An7 n.picks.length cn7, iv n.level, iv n.place, .slice An8 n.digs.length cn8, .slice An9 n.data.length cn9, .slice An10 n.nodes.length cn10]))) 0 ag38 (hk.qi 1) (hp.ext hER) rfl rfl rfl qz) : p := h
theorem t1_rCheck_ok {p : Prop} (h : p := by exact Hx_ ([iv n.kind, iv n.from_, iv n.group, iv n.epoch, iv n.view, iv n.seq] ++ (digC n.dig ++ ([.slice An0 n.batch.length cn0, iv n.ans.err, .slice An1 n.ans.data.length cn1, iv n.ans.epoch, .slice An2 n.ans.nodes.length cn2, iv n.stamp, iv n.node, iv n.change.node, iv n.change.view, iv n.change.low, .slice An3 n.change.marks.length cn3, .slice An4 n.change.p.length cn4, .slice An5 n.change.q.length cn5, .slice An6 n.changes.length cn6, .slice An7 n.picks.length cn7, iv n.level, iv n.place, .slice An8 n.digs.length cn8, .slice An9 n.data.length cn9, .slice An10 n.nodes.length cn10]))) 0 ag38 e1 (hp.ext hER) rfl rfl rfl qz) : p := h
set_option maxHeartbeats 40000000 in
theorem rCheck_ok {csn : List Value} {n : Nte} {Sn : Nat → Prop} (hn : noteR.rd Sn w csn n) : Ret prog 25 #[.agg csn.toArray] w (fun v w' => v = .int .i64 (if MayN n ∧ ownN n = n then 0 else 2) ∧ Ext w w') := by
 obtain ⟨hIn, An0, cn0, An1, cn1, An2, cn2, An3, cn3, An4, cn4, An5, cn5, An6, cn6, An7, cn7, An8, cn8, An9, cn9, An10, cn10, rfl, hn0, hn1, hn2, hn3, hn4, hn5, hn6, hn7, hn8, hn9, hn10⟩ := hn
 have mhn0:=hn0.mx
 have mhn1:=hn1.mx
 have mhn2:=hn2.mx
 have mhn3:=hn3.mx
 have mhn4:=hn4.mx
 have mhn5:=hn5.mx
 have mhn6:=hn6.mx
 have mhn7:=hn7.mx
 have mhn8:=hn8.mx
 have mhn9:=hn9.mx
 have mhn10:=hn10.mx
 refine ret_of_wk func25 rfl ntmps25 leB_ ?_
 have hp:=HP.begin_ w
 replace hn0:=hn0.now
 replace hn1:=hn1.now
 replace hn2:=hn2.now
 replace hn3:=hn3.now
 replace hn4:=hn4.now
 replace hn5:=hn5.now
 replace hn6:=hn6.now
 replace hn7:=hn7.now
 replace hn8:=hn8.now
 replace hn9:=hn9.now
 replace hn10:=hn10.now
 refine go ?_
 refine wl_hbox (by decide) rfl hp ?_
 rintro gs1 w1 hp1 hE1
 have q0:=hE1
 replace hp:=hp1
 refine go ?_
 refine Fd_ 0 fld38_0 rfl rfl ?_
 refine Hl_ 0 sc3 rfl hp rfl rfl ?_
 refine Cl_ cl52 rfl (r12_within) ?_
 rintro _ _ ⟨rfl, rfl⟩
 first | refine Nd_ rfl ?_ | refine Nn_ rfl ?_
 refine go ?_
 refine Gs 7 (fun hg1 => ?_) fun hg1 => ?_
 refine go ?_
 refine wc_cond_t rfl (go ?_)
 refine P1 results25 ?_
 exact ⟨_, rfl, by first | (rw [if_neg (fun h => by obtain ⟨hm, hq⟩ := h; unfold MayN at hm; first | omega | (simp [hm.2.2.2.2.2.2.2] at hg1; done) | (simp [hq] at hg1; done))]; done) | (rw [if_pos ⟨⟨by omega, by omega, by omega, by omega, by omega, by omega, by omega, Decidable.byContradiction (fun hc => by simp [hc] at hg1)⟩, Decidable.byContradiction (fun hc => by simp [hc] at hg1)⟩]), hp.chg⟩
 refine go ?_
 refine Fd_ 2 fld38_2 rfl rfl (go ?_)
 refine Hl_ 0 sc3 rfl hp rfl rfl (go ?_)
 refine Cl_ cl52 rfl (r12_within) ?_
 rintro _ _ ⟨rfl, rfl⟩
 refine go ?_
 first | refine Nd_ rfl ?_ | refine Nn_ rfl ?_
 refine go ?_
 refine Gs 13 (fun hg2 => ?_) fun hg2 => ?_
 refine go ?_
 refine wc_cond_t rfl (go ?_)
 refine P1 results25 ?_
 exact ⟨_, rfl, by first | (rw [if_neg (fun h => by obtain ⟨hm, hq⟩ := h; unfold MayN at hm; first | omega | (simp [hm.2.2.2.2.2.2.2] at hg1 hg2; done) | (simp [hq] at hg1 hg2; done))]; done) | (rw [if_pos ⟨⟨by omega, by omega, by omega, by omega, by omega, by omega, by omega, Decidable.byContradiction (fun hc => by simp [hc] at hg1 hg2)⟩, Decidable.byContradiction (fun hc => by simp [hc] at hg1 hg2)⟩]), hp.chg⟩
 refine go ?_
 refine Fd_ 3 fld38_3 rfl rfl (go ?_)
 refine Hl_ 0 sc3 rfl hp rfl rfl (go ?_)
 refine Cl_ cl52 rfl (r12_within) ?_
 rintro _ _ ⟨rfl, rfl⟩
 refine go ?_
 first | refine Nd_ rfl ?_ | refine Nn_ rfl ?_
 refine go ?_
 refine Cd (fun hc3 => ?_) fun hc3 => ?_
 refine go ?_
 refine P1 results25 ?_
 exact ⟨_, rfl, by first | (rw [if_neg (fun h => by obtain ⟨hm, hq⟩ := h; unfold MayN at hm; first | omega | (simp [hm.2.2.2.2.2.2.2] at hg1 hg2 hc3; done) | (simp [hq] at hg1 hg2 hc3; done))]; done) | (rw [if_pos ⟨⟨by omega, by omega, by omega, by omega, by omega, by omega, by omega, Decidable.byContradiction (fun hc => by simp [hc] at hg1 hg2 hc3)⟩, Decidable.byContradiction (fun hc => by simp [hc] at hg1 hg2 hc3)⟩]), hp.chg⟩
 refine go ?_
 refine Fd_ 0 fld38_0 rfl rfl ?_
 refine Hl_ 0 sc3 rfl hp rfl rfl ?_
 refine Ne_ rfl rfl (go ?_)
 refine Gs 22 (fun hg4 => ?_) fun hg4 => ?_
 refine go ?_
 refine Fd_ 0 fld38_0 rfl rfl (go ?_)
 refine Hl_ 0 sc3 rfl hp rfl rfl (go ?_)
 refine Ne_ rfl rfl (go ?_)
 refine Gs 27 (fun hg5 => ?_) fun hg5 => ?_
 refine go ?_
 refine Fd_ 1 fld38_1 rfl rfl (go ?_)
 refine Hl_ 0 sc3 rfl hp rfl rfl (go ?_)
 refine Cl_ cl53 rfl (r12_node) ?_
 rintro _ _ ⟨rfl, rfl⟩
 refine go ?_
 first | refine Nd_ rfl ?_ | refine Nn_ rfl ?_
 refine go ?_
 refine Cd (fun hc6 => ?_) fun hc6 => ?_
 refine go ?_
 refine P1 results25 ?_
 exact ⟨_, rfl, by first | (rw [if_neg (fun h => by obtain ⟨hm, hq⟩ := h; unfold MayN at hm; first | omega | (simp [hm.2.2.2.2.2.2.2] at hg1 hg2 hc3 hg4 hg5 hc6; done) | (simp [hq] at hg1 hg2 hc3 hg4 hg5 hc6; done))]; done) | (rw [if_pos ⟨⟨by omega, by omega, by omega, by omega, by omega, by omega, by omega, Decidable.byContradiction (fun hc => by simp [hc] at hg1 hg2 hc3 hg4 hg5 hc6)⟩, Decidable.byContradiction (fun hc => by simp [hc] at hg1 hg2 hc3 hg4 hg5 hc6)⟩]), hp.chg⟩
 refine go ?_
 by_cases hs7 : FitsN n
 apply wdL [.eq _,.eq (.bool true),.eq (.bool false),.eq (.bool false),.eq _,SP.rd noteR (fun b => b < w.heap.size) ((ownN n)),.eq _,.eq _,.eq _,.eq _]
 refine ⟨?_,?_,?_,?_,?_,?_,?_,?_,?_,?_,trivial⟩<;>intro F wF hER hk
 exact t0_rCheck_ok
 have e33:=hk.qe 0
 have hcl:=rFits_ok ⟨hIn, _, _, _, _, _, _, _, _, _, _, _, _, _, _, _, _, _, _, _, _, _, _, rfl, ((hn0.ext q0).ext hER), ((hn1.ext q0).ext hER), ((hn2.ext q0).ext hER), ((hn3.ext q0).ext hER), ((hn4.ext q0).ext hER), ((hn5.ext q0).ext hER), ((hn6.ext q0).ext hER), ((hn7.ext q0).ext hER), ((hn8.ext q0).ext hER), ((hn9.ext q0).ext hER), ((hn10.ext q0).ext hER)⟩
 refine Cl_ cl54 (by simp only [evs, ev, e33]; first | done | rfl) hcl ?_
 clear hcl
 rintro _ w7 ⟨rfl, hE7⟩
 refine wl_re (k := 34) (v := .bool true) rfl (congrArg Value.bool (decide_eq_true (by first | exact hs7 | omega | simpa using hs7))) ?_
 exact qy ⟨hE7, rfl⟩
 have e34:=hk.qe 1
 first | exact Nd_ e34 qz | exact Nn_ e34 qz
 exact dm (hk.qe 2)
 have e1:=hk.qi 1
 have e36:=hk.qe 3
 refine wl_gyes rfl e36 ?_
 exact t1_rCheck_ok
 have e37:=hk.qe 4
 have e36:=hk.qe 3
 refine wl_gyes rfl e36 ?_
 have hcl:=own12_ok ⟨hIn, _, _, _, _, _, _, _, _, _, _, _, _, _, _, _, _, _, _, _, _, _, _, rfl, ((hn0.ext q0).ext hER), ((hn1.ext q0).ext hER), ((hn2.ext q0).ext hER), ((hn3.ext q0).ext hER), ((hn4.ext q0).ext hER), ((hn5.ext q0).ext hER), ((hn6.ext q0).ext hER), ((hn7.ext q0).ext hER), ((hn8.ext q0).ext hER), ((hn9.ext q0).ext hER), ((hn10.ext q0).ext hER)⟩
 refine Cl_ cl55 (by simp only [evs, ev, e37]; first | done | rfl) hcl ?_
 clear hcl
 rintro _ w7 ⟨cs7, rfl, hr7, hE7⟩
 exact qz ⟨hE7, _, rfl, hr7⟩
 have e1:=hk.qi 1
 have e36:=hk.qe 3
 refine wl_gyes rfl e36 ?_
 exact t1_rCheck_ok
 obtain ⟨u38, e38, h38⟩:=hk.qp 5
 obtain ⟨cs38, rfl, hr38⟩ := h38
 have e39:=hk.qe 6
 have e36:=hk.qe 3
 refine wl_gyes rfl e36 ?_
 have hcl:=rSame_ok hr38 ⟨hIn, _, _, _, _, _, _, _, _, _, _, _, _, _, _, _, _, _, _, _, _, _, _, rfl, ((hn0.ext q0).ext hER), ((hn1.ext q0).ext hER), ((hn2.ext q0).ext hER), ((hn3.ext q0).ext hER), ((hn4.ext q0).ext hER), ((hn5.ext q0).ext hER), ((hn6.ext q0).ext hER), ((hn7.ext q0).ext hER), ((hn8.ext q0).ext hER), ((hn9.ext q0).ext hER), ((hn10.ext q0).ext hER)⟩
 refine Cl_ cl17 (by simp only [evs, ev, e38, e39]; first | done | rfl) hcl ?_
 clear hcl
 rintro _ w7 ⟨rfl, hE7⟩
 exact qz ⟨hE7, rfl⟩
 have e40:=hk.qe 7
 have e36:=hk.qe 3
 refine wl_gyes rfl e36 ?_
 first | exact Nd_ e40 qz | exact Nn_ e40 qz
 have e36:=hk.qe 3
 have e41:=hk.qe 8
 exact Pk_ e36 e41 qz
 intro F wD hED hini hdo
 refine wk_drop [(42, _)] ⟨dq hdo 9, trivial⟩ ?_
 clear hini hdo
 replace hp:=hp.ext hED
 refine go ?_
 refine Cd (fun hc8 => ?_) fun hc8 => ?_
 refine go ?_
 refine P1 results25 ?_
 exact ⟨_, rfl, by first | (rw [if_neg (fun h => by obtain ⟨hm, hq⟩ := h; unfold MayN at hm; first | omega | (simp [hm.2.2.2.2.2.2.2] at hg1 hg2 hc3 hg4 hg5 hc6 hs7 hc8; done) | (simp [hq] at hg1 hg2 hc3 hg4 hg5 hc6 hs7 hc8; done))]; done) | (rw [if_pos ⟨⟨by omega, by omega, by omega, by omega, by omega, by omega, by omega, Decidable.byContradiction (fun hc => by simp [hc] at hg1 hg2 hc3 hg4 hg5 hc6 hs7 hc8)⟩, Decidable.byContradiction (fun hc => by simp [hc] at hg1 hg2 hc3 hg4 hg5 hc6 hs7 hc8)⟩]), hp.chg⟩
 refine go ?_
 refine P1 results25 ?_
 exact ⟨_, rfl, by first | (rw [if_neg (fun h => by obtain ⟨hm, hq⟩ := h; unfold MayN at hm; first | omega | (simp [hm.2.2.2.2.2.2.2] at hg1 hg2 hc3 hg4 hg5 hc6 hs7 hc8; done) | (simp [hq] at hg1 hg2 hc3 hg4 hg5 hc6 hs7 hc8; done))]; done) | (rw [if_pos ⟨⟨by omega, by omega, by omega, by omega, by omega, by omega, by omega, Decidable.byContradiction (fun hc => by simp [hc] at hg1 hg2 hc3 hg4 hg5 hc6 hs7 hc8)⟩, Decidable.byContradiction (fun hc => by simp [hc] at hg1 hg2 hc3 hg4 hg5 hc6 hs7 hc8)⟩]), hp.chg⟩
 apply wdL [.eq _,.eq (.bool false),.eq (.bool true),.eq (.bool true),.eq undef,.eq undef,.eq undef,.eq undef,.eq undef,.eq (.bool true)]
 refine ⟨?_,?_,?_,?_,?_,?_,?_,?_,?_,?_,trivial⟩<;>intro F wF hER hk
 exact t0_rCheck_ok
 have e33:=hk.qe 0
 have hcl:=rFits_ok ⟨hIn, _, _, _, _, _, _, _, _, _, _, _, _, _, _, _, _, _, _, _, _, _, _, rfl, ((hn0.ext q0).ext hER), ((hn1.ext q0).ext hER), ((hn2.ext q0).ext hER), ((hn3.ext q0).ext hER), ((hn4.ext q0).ext hER), ((hn5.ext q0).ext hER), ((hn6.ext q0).ext hER), ((hn7.ext q0).ext hER), ((hn8.ext q0).ext hER), ((hn9.ext q0).ext hER), ((hn10.ext q0).ext hER)⟩
 refine Cl_ cl54 (by simp only [evs, ev, e33]; first | done | rfl) hcl ?_
 clear hcl
 rintro _ w7 ⟨rfl, hE7⟩
 refine wl_re (k := 34) (v := .bool false) rfl (congrArg Value.bool (decide_eq_false (by first | exact hs7 | omega | simpa using hs7))) ?_
 exact qy ⟨hE7, rfl⟩
 have e34:=hk.qe 1
 first | exact Nd_ e34 qz | exact Nn_ e34 qz
 exact dm (hk.qe 2)
 exact dn (hk.qe 3)
 exact dn (hk.qe 3)
 exact dn (hk.qe 3)
 exact dn (hk.qe 3)
 exact dn (hk.qe 3)
 have e36:=hk.qe 3
 have e41:=hk.qe 8
 exact Pk_ e36 rfl qz
 intro F wD hED hini hdo
 refine wk_drop [(42, _)] ⟨dq hdo 9, trivial⟩ ?_
 clear hini hdo
 replace hp:=hp.ext hED
 refine go ?_
 refine wc_cond_t rfl (go ?_)
 refine P1 results25 ?_
 exact ⟨_, rfl, by first | (rw [if_neg (fun h => by obtain ⟨hm, hq⟩ := h; unfold MayN at hm; first | omega | (simp [hm.2.2.2.2.2.2.2] at hg1 hg2 hc3 hg4 hg5 hc6 hs7; done) | (simp [hq] at hg1 hg2 hc3 hg4 hg5 hc6 hs7; done))]; done) | (rw [if_pos ⟨⟨by omega, by omega, by omega, by omega, by omega, by omega, by omega, Decidable.byContradiction (fun hc => by simp [hc] at hg1 hg2 hc3 hg4 hg5 hc6 hs7)⟩, Decidable.byContradiction (fun hc => by simp [hc] at hg1 hg2 hc3 hg4 hg5 hc6 hs7)⟩]), hp.chg⟩
 refine go ?_
 refine wc_cond_f rfl ?_
 refine go ?_
 by_cases hs9 : FitsN n
 apply wdL [.eq _,.eq (.bool true),.eq (.bool false),.eq (.bool false),.eq _,SP.rd noteR (fun b => b < w.heap.size) ((ownN n)),.eq _,.eq _,.eq _,.eq _]
 refine ⟨?_,?_,?_,?_,?_,?_,?_,?_,?_,?_,trivial⟩<;>intro F wF hER hk
 exact t0_rCheck_ok
 have e33:=hk.qe 0
 have hcl:=rFits_ok ⟨hIn, _, _, _, _, _, _, _, _, _, _, _, _, _, _, _, _, _, _, _, _, _, _, rfl, ((hn0.ext q0).ext hER), ((hn1.ext q0).ext hER), ((hn2.ext q0).ext hER), ((hn3.ext q0).ext hER), ((hn4.ext q0).ext hER), ((hn5.ext q0).ext hER), ((hn6.ext q0).ext hER), ((hn7.ext q0).ext hER), ((hn8.ext q0).ext hER), ((hn9.ext q0).ext hER), ((hn10.ext q0).ext hER)⟩
 refine Cl_ cl54 (by simp only [evs, ev, e33]; first | done | rfl) hcl ?_
 clear hcl
 rintro _ w7 ⟨rfl, hE7⟩
 refine wl_re (k := 34) (v := .bool true) rfl (congrArg Value.bool (decide_eq_true (by first | exact hs9 | omega | simpa using hs9))) ?_
 exact qy ⟨hE7, rfl⟩
 have e34:=hk.qe 1
 first | exact Nd_ e34 qz | exact Nn_ e34 qz
 exact dm (hk.qe 2)
 have e1:=hk.qi 1
 have e36:=hk.qe 3
 refine wl_gyes rfl e36 ?_
 exact t1_rCheck_ok
 have e37:=hk.qe 4
 have e36:=hk.qe 3
 refine wl_gyes rfl e36 ?_
 have hcl:=own12_ok ⟨hIn, _, _, _, _, _, _, _, _, _, _, _, _, _, _, _, _, _, _, _, _, _, _, rfl, ((hn0.ext q0).ext hER), ((hn1.ext q0).ext hER), ((hn2.ext q0).ext hER), ((hn3.ext q0).ext hER), ((hn4.ext q0).ext hER), ((hn5.ext q0).ext hER), ((hn6.ext q0).ext hER), ((hn7.ext q0).ext hER), ((hn8.ext q0).ext hER), ((hn9.ext q0).ext hER), ((hn10.ext q0).ext hER)⟩
 refine Cl_ cl55 (by simp only [evs, ev, e37]; first | done | rfl) hcl ?_
 clear hcl
 rintro _ w7 ⟨cs7, rfl, hr7, hE7⟩
 exact qz ⟨hE7, _, rfl, hr7⟩
 have e1:=hk.qi 1
 have e36:=hk.qe 3
 refine wl_gyes rfl e36 ?_
 exact t1_rCheck_ok
 obtain ⟨u38, e38, h38⟩:=hk.qp 5
 obtain ⟨cs38, rfl, hr38⟩ := h38
 have e39:=hk.qe 6
 have e36:=hk.qe 3
 refine wl_gyes rfl e36 ?_
 have hcl:=rSame_ok hr38 ⟨hIn, _, _, _, _, _, _, _, _, _, _, _, _, _, _, _, _, _, _, _, _, _, _, rfl, ((hn0.ext q0).ext hER), ((hn1.ext q0).ext hER), ((hn2.ext q0).ext hER), ((hn3.ext q0).ext hER), ((hn4.ext q0).ext hER), ((hn5.ext q0).ext hER), ((hn6.ext q0).ext hER), ((hn7.ext q0).ext hER), ((hn8.ext q0).ext hER), ((hn9.ext q0).ext hER), ((hn10.ext q0).ext hER)⟩
 refine Cl_ cl17 (by simp only [evs, ev, e38, e39]; first | done | rfl) hcl ?_
 clear hcl
 rintro _ w7 ⟨rfl, hE7⟩
 exact qz ⟨hE7, rfl⟩
 have e40:=hk.qe 7
 have e36:=hk.qe 3
 refine wl_gyes rfl e36 ?_
 first | exact Nd_ e40 qz | exact Nn_ e40 qz
 have e36:=hk.qe 3
 have e41:=hk.qe 8
 exact Pk_ e36 e41 qz
 intro F wD hED hini hdo
 refine wk_drop [(42, _)] ⟨dq hdo 9, trivial⟩ ?_
 clear hini hdo
 replace hp:=hp.ext hED
 refine go ?_
 refine Cd (fun hc10 => ?_) fun hc10 => ?_
 refine go ?_
 refine P1 results25 ?_
 exact ⟨_, rfl, by first | (rw [if_neg (fun h => by obtain ⟨hm, hq⟩ := h; unfold MayN at hm; first | omega | (simp [hm.2.2.2.2.2.2.2] at hg1 hg2 hc3 hg4 hg5 hs9 hc10; done) | (simp [hq] at hg1 hg2 hc3 hg4 hg5 hs9 hc10; done))]; done) | (rw [if_pos ⟨⟨by omega, by omega, by omega, by omega, by omega, by omega, by omega, Decidable.byContradiction (fun hc => by simp [hc] at hg1 hg2 hc3 hg4 hg5 hs9 hc10)⟩, Decidable.byContradiction (fun hc => by simp [hc] at hg1 hg2 hc3 hg4 hg5 hs9 hc10)⟩]), hp.chg⟩
 refine go ?_
 refine P1 results25 ?_
 exact ⟨_, rfl, by first | (rw [if_neg (fun h => by obtain ⟨hm, hq⟩ := h; unfold MayN at hm; first | omega | (simp [hm.2.2.2.2.2.2.2] at hg1 hg2 hc3 hg4 hg5 hs9 hc10; done) | (simp [hq] at hg1 hg2 hc3 hg4 hg5 hs9 hc10; done))]; done) | (rw [if_pos ⟨⟨by omega, by omega, by omega, by omega, by omega, by omega, by omega, Decidable.byContradiction (fun hc => by simp [hc] at hg1 hg2 hc3 hg4 hg5 hs9 hc10)⟩, Decidable.byContradiction (fun hc => by simp [hc] at hg1 hg2 hc3 hg4 hg5 hs9 hc10)⟩]), hp.chg⟩
 apply wdL [.eq _,.eq (.bool false),.eq (.bool true),.eq (.bool true),.eq undef,.eq undef,.eq undef,.eq undef,.eq undef,.eq (.bool true)]
 refine ⟨?_,?_,?_,?_,?_,?_,?_,?_,?_,?_,trivial⟩<;>intro F wF hER hk
 exact t0_rCheck_ok
 have e33:=hk.qe 0
 have hcl:=rFits_ok ⟨hIn, _, _, _, _, _, _, _, _, _, _, _, _, _, _, _, _, _, _, _, _, _, _, rfl, ((hn0.ext q0).ext hER), ((hn1.ext q0).ext hER), ((hn2.ext q0).ext hER), ((hn3.ext q0).ext hER), ((hn4.ext q0).ext hER), ((hn5.ext q0).ext hER), ((hn6.ext q0).ext hER), ((hn7.ext q0).ext hER), ((hn8.ext q0).ext hER), ((hn9.ext q0).ext hER), ((hn10.ext q0).ext hER)⟩
 refine Cl_ cl54 (by simp only [evs, ev, e33]; first | done | rfl) hcl ?_
 clear hcl
 rintro _ w7 ⟨rfl, hE7⟩
 refine wl_re (k := 34) (v := .bool false) rfl (congrArg Value.bool (decide_eq_false (by first | exact hs9 | omega | simpa using hs9))) ?_
 exact qy ⟨hE7, rfl⟩
 have e34:=hk.qe 1
 first | exact Nd_ e34 qz | exact Nn_ e34 qz
 exact dm (hk.qe 2)
 exact dn (hk.qe 3)
 exact dn (hk.qe 3)
 exact dn (hk.qe 3)
 exact dn (hk.qe 3)
 exact dn (hk.qe 3)
 have e36:=hk.qe 3
 have e41:=hk.qe 8
 exact Pk_ e36 rfl qz
 intro F wD hED hini hdo
 refine wk_drop [(42, _)] ⟨dq hdo 9, trivial⟩ ?_
 clear hini hdo
 replace hp:=hp.ext hED
 refine go ?_
 refine wc_cond_t rfl (go ?_)
 refine P1 results25 ?_
 exact ⟨_, rfl, by first | (rw [if_neg (fun h => by obtain ⟨hm, hq⟩ := h; unfold MayN at hm; first | omega | (simp [hm.2.2.2.2.2.2.2] at hg1 hg2 hc3 hg4 hg5 hs9; done) | (simp [hq] at hg1 hg2 hc3 hg4 hg5 hs9; done))]; done) | (rw [if_pos ⟨⟨by omega, by omega, by omega, by omega, by omega, by omega, by omega, Decidable.byContradiction (fun hc => by simp [hc] at hg1 hg2 hc3 hg4 hg5 hs9)⟩, Decidable.byContradiction (fun hc => by simp [hc] at hg1 hg2 hc3 hg4 hg5 hs9)⟩]), hp.chg⟩
 refine go ?_
 refine wc_cond_f rfl ?_
 refine go ?_
 by_cases hs11 : FitsN n
 apply wdL [.eq _,.eq (.bool true),.eq (.bool false),.eq (.bool false),.eq _,SP.rd noteR (fun b => b < w.heap.size) ((ownN n)),.eq _,.eq _,.eq _,.eq _]
 refine ⟨?_,?_,?_,?_,?_,?_,?_,?_,?_,?_,trivial⟩<;>intro F wF hER hk
 exact t0_rCheck_ok
 have e33:=hk.qe 0
 have hcl:=rFits_ok ⟨hIn, _, _, _, _, _, _, _, _, _, _, _, _, _, _, _, _, _, _, _, _, _, _, rfl, ((hn0.ext q0).ext hER), ((hn1.ext q0).ext hER), ((hn2.ext q0).ext hER), ((hn3.ext q0).ext hER), ((hn4.ext q0).ext hER), ((hn5.ext q0).ext hER), ((hn6.ext q0).ext hER), ((hn7.ext q0).ext hER), ((hn8.ext q0).ext hER), ((hn9.ext q0).ext hER), ((hn10.ext q0).ext hER)⟩
 refine Cl_ cl54 (by simp only [evs, ev, e33]; first | done | rfl) hcl ?_
 clear hcl
 rintro _ w7 ⟨rfl, hE7⟩
 refine wl_re (k := 34) (v := .bool true) rfl (congrArg Value.bool (decide_eq_true (by first | exact hs11 | omega | simpa using hs11))) ?_
 exact qy ⟨hE7, rfl⟩
 have e34:=hk.qe 1
 first | exact Nd_ e34 qz | exact Nn_ e34 qz
 exact dm (hk.qe 2)
 have e1:=hk.qi 1
 have e36:=hk.qe 3
 refine wl_gyes rfl e36 ?_
 exact t1_rCheck_ok
 have e37:=hk.qe 4
 have e36:=hk.qe 3
 refine wl_gyes rfl e36 ?_
 have hcl:=own12_ok ⟨hIn, _, _, _, _, _, _, _, _, _, _, _, _, _, _, _, _, _, _, _, _, _, _, rfl, ((hn0.ext q0).ext hER), ((hn1.ext q0).ext hER), ((hn2.ext q0).ext hER), ((hn3.ext q0).ext hER), ((hn4.ext q0).ext hER), ((hn5.ext q0).ext hER), ((hn6.ext q0).ext hER), ((hn7.ext q0).ext hER), ((hn8.ext q0).ext hER), ((hn9.ext q0).ext hER), ((hn10.ext q0).ext hER)⟩
 refine Cl_ cl55 (by simp only [evs, ev, e37]; first | done | rfl) hcl ?_
 clear hcl
 rintro _ w7 ⟨cs7, rfl, hr7, hE7⟩
 exact qz ⟨hE7, _, rfl, hr7⟩
 have e1:=hk.qi 1
 have e36:=hk.qe 3
 refine wl_gyes rfl e36 ?_
 exact t1_rCheck_ok
 obtain ⟨u38, e38, h38⟩:=hk.qp 5
 obtain ⟨cs38, rfl, hr38⟩ := h38
 have e39:=hk.qe 6
 have e36:=hk.qe 3
 refine wl_gyes rfl e36 ?_
 have hcl:=rSame_ok hr38 ⟨hIn, _, _, _, _, _, _, _, _, _, _, _, _, _, _, _, _, _, _, _, _, _, _, rfl, ((hn0.ext q0).ext hER), ((hn1.ext q0).ext hER), ((hn2.ext q0).ext hER), ((hn3.ext q0).ext hER), ((hn4.ext q0).ext hER), ((hn5.ext q0).ext hER), ((hn6.ext q0).ext hER), ((hn7.ext q0).ext hER), ((hn8.ext q0).ext hER), ((hn9.ext q0).ext hER), ((hn10.ext q0).ext hER)⟩
 refine Cl_ cl17 (by simp only [evs, ev, e38, e39]; first | done | rfl) hcl ?_
 clear hcl
 rintro _ w7 ⟨rfl, hE7⟩
 exact qz ⟨hE7, rfl⟩
 have e40:=hk.qe 7
 have e36:=hk.qe 3
 refine wl_gyes rfl e36 ?_
 first | exact Nd_ e40 qz | exact Nn_ e40 qz
 have e36:=hk.qe 3
 have e41:=hk.qe 8
 exact Pk_ e36 e41 qz
 intro F wD hED hini hdo
 refine wk_drop [(42, _)] ⟨dq hdo 9, trivial⟩ ?_
 clear hini hdo
 replace hp:=hp.ext hED
 refine go ?_
 refine Cd (fun hc12 => ?_) fun hc12 => ?_
 refine go ?_
 refine P1 results25 ?_
 exact ⟨_, rfl, by first | (rw [if_neg (fun h => by obtain ⟨hm, hq⟩ := h; unfold MayN at hm; first | omega | (simp [hm.2.2.2.2.2.2.2] at hg1 hg2 hc3 hg4 hs11 hc12; done) | (simp [hq] at hg1 hg2 hc3 hg4 hs11 hc12; done))]; done) | (rw [if_pos ⟨⟨by omega, by omega, by omega, by omega, by omega, by omega, by omega, Decidable.byContradiction (fun hc => by simp [hc] at hg1 hg2 hc3 hg4 hs11 hc12)⟩, Decidable.byContradiction (fun hc => by simp [hc] at hg1 hg2 hc3 hg4 hs11 hc12)⟩]), hp.chg⟩
 refine go ?_
 refine P1 results25 ?_
 exact ⟨_, rfl, by first | (rw [if_neg (fun h => by obtain ⟨hm, hq⟩ := h; unfold MayN at hm; first | omega | (simp [hm.2.2.2.2.2.2.2] at hg1 hg2 hc3 hg4 hs11 hc12; done) | (simp [hq] at hg1 hg2 hc3 hg4 hs11 hc12; done))]; done) | (rw [if_pos ⟨⟨by omega, by omega, by omega, by omega, by omega, by omega, by omega, Decidable.byContradiction (fun hc => by simp [hc] at hg1 hg2 hc3 hg4 hs11 hc12)⟩, Decidable.byContradiction (fun hc => by simp [hc] at hg1 hg2 hc3 hg4 hs11 hc12)⟩]), hp.chg⟩
 apply wdL [.eq _,.eq (.bool false),.eq (.bool true),.eq (.bool true),.eq undef,.eq undef,.eq undef,.eq undef,.eq undef,.eq (.bool true)]
 refine ⟨?_,?_,?_,?_,?_,?_,?_,?_,?_,?_,trivial⟩<;>intro F wF hER hk
 exact t0_rCheck_ok
 have e33:=hk.qe 0
 have hcl:=rFits_ok ⟨hIn, _, _, _, _, _, _, _, _, _, _, _, _, _, _, _, _, _, _, _, _, _, _, rfl, ((hn0.ext q0).ext hER), ((hn1.ext q0).ext hER), ((hn2.ext q0).ext hER), ((hn3.ext q0).ext hER), ((hn4.ext q0).ext hER), ((hn5.ext q0).ext hER), ((hn6.ext q0).ext hER), ((hn7.ext q0).ext hER), ((hn8.ext q0).ext hER), ((hn9.ext q0).ext hER), ((hn10.ext q0).ext hER)⟩
 refine Cl_ cl54 (by simp only [evs, ev, e33]; first | done | rfl) hcl ?_
 clear hcl
 rintro _ w7 ⟨rfl, hE7⟩
 refine wl_re (k := 34) (v := .bool false) rfl (congrArg Value.bool (decide_eq_false (by first | exact hs11 | omega | simpa using hs11))) ?_
 exact qy ⟨hE7, rfl⟩
 have e34:=hk.qe 1
 first | exact Nd_ e34 qz | exact Nn_ e34 qz
 exact dm (hk.qe 2)
 exact dn (hk.qe 3)
 exact dn (hk.qe 3)
 exact dn (hk.qe 3)
 exact dn (hk.qe 3)
 exact dn (hk.qe 3)
 have e36:=hk.qe 3
 have e41:=hk.qe 8
 exact Pk_ e36 rfl qz
 intro F wD hED hini hdo
 refine wk_drop [(42, _)] ⟨dq hdo 9, trivial⟩ ?_
 clear hini hdo
 replace hp:=hp.ext hED
 refine go ?_
 refine wc_cond_t rfl (go ?_)
 refine P1 results25 ?_
 exact ⟨_, rfl, by first | (rw [if_neg (fun h => by obtain ⟨hm, hq⟩ := h; unfold MayN at hm; first | omega | (simp [hm.2.2.2.2.2.2.2] at hg1 hg2 hc3 hg4 hs11; done) | (simp [hq] at hg1 hg2 hc3 hg4 hs11; done))]; done) | (rw [if_pos ⟨⟨by omega, by omega, by omega, by omega, by omega, by omega, by omega, Decidable.byContradiction (fun hc => by simp [hc] at hg1 hg2 hc3 hg4 hs11)⟩, Decidable.byContradiction (fun hc => by simp [hc] at hg1 hg2 hc3 hg4 hs11)⟩]), hp.chg⟩
theorem t0_gPick_ok {p : Prop} (h : p := by simp only [pickE, digE, List.length_append] at hlen ⊢; omega) : p := h
set_option maxHeartbeats 40000000 in
theorem gPick_ok {gw : Nat} {out : List UInt8} {pa : Addr} {pc : Addr} {cs : List Value} {x : Pck} (hp : HP w0 M0 Fz w (itB gw 89 [.slice A out.length c] :: itR 5 1 A out.length c (out.map bv) :: H)) (hatx : AtF Fz w pa cs) (hrd : pickR.rd Fz w cs x) (hok : pickOk x) (hlen : out.length + (pickE x).length ≤ 1000000) (hcap : AtF Fz w pc [.iface 87 (.pointer (some ⟨gw, 0, none⟩))]) : Ret prog 112 #[.pointer (some pa), .pointer (some pc)] w (WrP 5 89 gw w0 M0 Fz w H (out ++ pickE x)) := by
 obtain ⟨hIx, B0, d0, rfl, hx0⟩ := hrd
 refine ret_of_wk func112 rfl ntmps112 leB_ ?_
 refine so ?_
 refine wP 7 hp (h := fun wD hp hED => ?_)
 refine Ci rfl (gNum_ok hp (hatx.to.sub 0 1) hok.1 t0_gPick_ok) ?_
 rintro _ w1 ⟨A1, c1, hp, hF1⟩
 refine so ?_
 refine wP 7 hp (h := fun wD hp hED => ?_)
 refine Ci rfl (gDig_ok hp (hatx.to.sub 1 32) t0_gPick_ok) ?_
 rintro _ w2 ⟨A2, c2, hp, hF2⟩
 refine so ?_
 refine wP 7 hp (h := fun wD hp hED => ?_)
 refine Ci rfl (gBatch_ok hp (hatx.to.sub 33 1) hx0.to hok.2.2 t0_gPick_ok) ?_
 rintro _ w3 ⟨A3, c3, hp, hF3⟩
 refine so ?_
 refine wk_post0 (.inr rfl) results112  ?_
 rw [show out ++ pickE x = (((out ++ numE x.seq) ++ x.dig.l) ++ batchE x.batch) from by simp only [pickE, digE, ← List.append_assoc]]
 have hFr:=mv (S := Fz) (w := w) (w' := w3)
 exact ⟨_, rfl, _, _, hp.less hFr.sub, hFr.chg, fun _ h => h⟩
set_option maxHeartbeats 40000000 in
theorem rPick_ok {gr : Nat} {l : List UInt8} {bad : Bool} {X : List Value → It} {pX pc : Addr} (hp : HP w0 M0 Fz w (itB gr 103 [.slice A l.length c, .bool bad] :: X ([.int .i64 0] ++ (digC dig0 ++ ([.slice none 0 0]))) :: H)) (hS : Slot X pX 34) (hl : GS byteR Fz w A c l) (hcap : AtF Fz w pc [.iface 101 (.pointer (some ⟨gr, 0, none⟩))]) : Ret prog 112 #[.pointer (some pX), .pointer (some pc)] w (RdP 103 gr w0 M0 Fz w H X pickR pickP bad l) := by
 refine ret_of_wk func112 rfl ntmps112 leB_ ?_
 refine so ?_
 apply wdT 7 [.eq _,.eq _,.eq _,.eq _,.eq _,.eq _,.eq _]
 refine ⟨?_,?_,?_,?_,?_,?_,?_,trivial⟩<;>intro F wF hER hk
 exact Ld_ sc123 (hk.qi 1) (hcap.ext hER).head qz
 exact dm (hk.qi 0)
 exact Nc_ (hk.qe 1) qz
 have e5:=hk.qe 2
 refine Fe_ fld66_0 e5 ?_
 rw [add_zero']
 exact qz
 have e3:=hk.qe 0
 exact wl_makeFunc (first := [.tmp 3]) (cap := []) (by decide) (by simp only [evs, ev, e3]; rfl) rfl qz
 exact wl_nilCheckM (t := 101) (by decide) mt188 (hk.qe 4) qz
 exact dm (hk.qe 0)
 intro F wD hED hini hdo
 refine wl_drop [(0, _), (1, _), (6, _), (9, _)] ⟨di hini 0, di hini 1, dr hdo 3, dr hdo 6, trivial⟩ ?_
 clear hini hdo
 replace hp:=hp.ext hED
 refine Ci rfl (nNum_ok (X := (fun cs => X (([]) ++ (cs ++ (digC dig0 ++ ([s0])))))) (pX := pX) (v0 := 0) hp (hS.sub ([]) (digC dig0 ++ ([s0])) rfl) hl.to (by unfold i64; omega)) ?_
 rintro _ w1 ⟨F1, A1, c1, l1, b1, cs1, x1, hp, hF1, hl1, hrd1, hst1⟩
 obtain ⟨hI1, rfl⟩ := hrd1
 refine so ?_
 refine wP 7 hp (h := fun wD hp hED => ?_)
 refine Ci rfl (nDigest_ok (X := (fun cs => X (([iv x1]) ++ (cs ++ ([s0]))))) (pX := (pX.add 1)) (d0 := dig0) hp (hS.sub ([iv x1]) ([s0]) rfl) hl1.to) ?_
 rintro _ w2 ⟨F2, A2, c2, l2, b2, cs2, x2, hp, hF2, hl2, hrd2, hst2⟩
 obtain rfl := hrd2
 refine so ?_
 refine wP 7 hp (h := fun wD hp hED => ?_)
 refine Ci rfl (nBatch_ok (X := (fun cs => X (([iv x1] ++ (digC x2)) ++ (cs ++ ([]))))) (pX := (pX.add 33)) hp (hS.sub ([iv x1] ++ (digC x2)) ([]) rfl) hl2.to) ?_
 rintro _ w3 ⟨F3, A3, c3, l3, b3, cs3, x3, hp, hF3, hl3, hrd3, hst3⟩
 obtain ⟨B3, d3, rfl, hg3⟩ := hrd3
 refine so ?_
 refine wk_post0 (.inr rfl) results112  ?_
 exact ⟨_, rfl, _, A3, c3, l3, b3, _, ({ seq := x1, dig := x2, batch := x3 } : Pck), ((hp.up 1 rfl).up 1 rfl), mv, hl3, ⟨hI1, _, _, rfl, hg3⟩, StepP.bind hst1 (StepP.bind hst2 (StepP.bind hst3 (StepP.pure _ _)))⟩
theorem chapL_pm {i : Nat} (h : i < 16) : PackMay ((chapL 16).getD i note0) := by
 rw [chapL_getD h]
 exact chapN_may _ (by omega) (by omega)
end Go.Proofs.YtkdoomglflikkaaGreat
