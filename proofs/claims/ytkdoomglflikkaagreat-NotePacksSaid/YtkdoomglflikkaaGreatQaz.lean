/- What each of these functions computes, for every argument that its theorem names; a part of what the proof of NotePacks stands on. -/
import Derived.Test.YtkdoomglflikkaaGreatQac
import Derived.Test.YtkdoomglflikkaaGreatQad
import Derived.Test.YtkdoomglflikkaaGreatQae
import Derived.Test.YtkdoomglflikkaaGreatQag
import Derived.Test.YtkdoomglflikkaaGreatQah
import Derived.Test.YtkdoomglflikkaaGreatQaj
import Derived.Test.YtkdoomglflikkaaGreatQak
import Derived.Test.YtkdoomglflikkaaGreatQan
import Derived.Test.YtkdoomglflikkaaGreatQao
import Derived.Test.YtkdoomglflikkaaGreatQap
import Derived.Test.YtkdoomglflikkaaGreatQas
import Derived.Test.YtkdoomglflikkaaGreatQat
import Derived.Test.YtkdoomglflikkaaGreatQau
namespace Go.Proofs.YtkdoomglflikkaaGreat
open Go.RowKit Go.Eng Go.Eng _root_.Go.Proofs.Tryz
set_option maxRecDepth 100000
variable {w0 w : World} {M0 Fz : Nat → Prop} {H : List It} {A : Option Addr} {c : Nat}
set_option maxHeartbeats 40000000 in
theorem efW_ok {Aa : Option Addr} {ca : Nat} {a : List Wsh} {Sa : Nat → Prop} {Ab : Option Addr} {cb : Nat} {b : List Wsh} {Sb : Nat → Prop} (ha : GS wishR Sa w Aa ca a) (hb : GS wishR Sb w Ab cb b) : Ret prog 115 #[.slice Aa a.length ca, .slice Ab b.length cb, .func (.func 116) #[] #[]] w (fun v w' => v = .bool (decide (a = b)) ∧ Ext w w') := by
 have mha:=ha.mx
 have mhb:=hb.mx
 refine ret_of_wk func115 rfl ntmps115 leB_ ?_
 have hp:=HP.begin_ w
 refine so ?_
 refine Cd ?_ ?_<;>intro hne
 refine so ?_
 refine Pt ?_
 exact ⟨_, rfl, bool_f (fun e => hne (by rw [e])), hp.chg⟩
 have hll : a.length = b.length := by omega
 refine so ?_
 refine Lp [1, 2, 15, 16, 17] (fun L' w' mes => ∃ (k : Nat), L' = [(1, .slice Ab b.length cb), (2, .func (.func 116) #[] #[]), (15, .slice Aa a.length ca), (16, iv (a.length : Int)), (17, iv (k : Int))] ∧ (k ≤ a.length) ∧ (a.take k = b.take k) ∧ (GS wishR (fun b => b < w.heap.size) w' Aa ca a) ∧ (GS wishR (fun b => b < w.heap.size) w' Ab cb b) ∧ (HP w (fun _ => False) (fun b => b < w.heap.size) w' ([])) ∧ a.length - k = mes) (a.length - 0) ⟨0, rfl, by omega, by simp, ha.tn, hb.tn, hp, rfl⟩ ?_
 rintro _ wr _ ⟨k, rfl, hk, htk, ha, hb, hp, rfl⟩ KL1 hKL1
 refine so ?_
 refine Cd ?_ ?_<;>intro hlt
 refine so ?_
 obtain ⟨ae1, pe1_0, qe1_0, pe1_1, qe1_1, hAe1, hate1, hIe1, he1_0, he1_1⟩ := wishR_el ha k (by omega)
 refine so ?_
 refine Alo hp (h := fun gs8 w2 hp hE2 => so ?_)
 refine Hs 0 hp (h := fun w3 hp hC3 => so ?_)
 obtain ⟨ae4, pe4_0, qe4_0, pe4_1, qe4_1, hAe4, hate4, hIe4, he4_0, he4_1⟩ := wishR_el (hb.to (w' := w3)) k (by omega)
 refine so ?_
 refine Alo hp (h := fun gs9 w5 hp hE5 => ?_)
 refine Hs 0 hp (h := fun w6 hp hC6 => so ?_)
 have hcl:=wSame_ok ⟨hIe1, _, _, _, _, rfl, (he1_0.to (w' := w6)), (he1_1.to (w' := w6))⟩ ⟨hIe4, _, _, _, _, rfl, (he4_0.to (w' := w6)), (he4_1.to (w' := w6))⟩
 refine wl_callv (f := 116) (first := []) (cap := []) (by decide) cl116 rfl rfl hcl ?_
 clear hcl
 rintro _ w7 ⟨rfl, hE7⟩
 replace hp:=hp.ext hE7
 refine so ?_
 refine Cd ?_ ?_<;>intro hne2
 refine so ?_
 refine Pt ?_
 exact ⟨_, rfl, bool_f (fun e => hne2 (by rw [e])), hp.chg⟩
 replace hne2:=Decidable.not_not.1 hne2
 refine so ?_
 refine Kl [1, 2, 15, 16, 17] hKL1 (a.length - (k + 1)) ⟨(k + 1), rfl, by omega, ?_, ha.to, hb.to, hp.tail.tail, rfl⟩ (by omega)
 rw [take_snoc wish0 (by omega : k < a.length), take_snoc wish0 (by omega : k < b.length), htk, hne2]
 have hkl : k = a.length := by omega
 refine so ?_
 refine Pt ?_
 exact ⟨_, rfl, bool_t (by rw [hkl, List.take_length, hll, List.take_length] at htk; exact htk), hp.chg⟩
theorem t0_rNewMay_ok {p : Prop} (h : p := by exact wl_re (k := 81) (v := .bool true) rfl (congrArg Value.bool (decide_eq_true (by first | exact hs10 | omega | simpa using hs10))) qy) : p := h
theorem t1_rNewMay_ok {p : Prop} (h : p := by exact wl_re (k := 85) (v := .bool true) rfl (congrArg Value.bool (decide_eq_true (by first | exact hs11 | omega | simpa using hs11))) qy) : p := h
theorem t2_rNewMay_ok {p : Prop} (h : p := by exact Hx_ ([iv n.kind, iv n.from_, iv n.group, iv n.epoch, iv n.view, iv n.seq] ++ (digC n.dig ++ ([.slice An0 n.batch.length cn0, iv n.ans.err, .slice An1 n.ans.data.length cn1, iv n.ans.epoch, .slice An2 n.ans.nodes.length cn2, iv n.stamp, iv n.node, iv n.change.node, iv n.change.view, iv n.change.low, .slice An3 n.change.marks.length cn3, .slice An4 n.change.p.length cn4, .slice An5 n.change.q.length cn5, .slice An6 n.changes.length cn6, .slice An7 n.picks.length cn7, iv n.level, iv n.place, .slice An8 n.digs.length cn8, .slice An9 n.data.length cn9, .slice An10 n.nodes.length cn10]))) 1 ag38 e1 (hp.ext hER) rfl rfl rfl qz) : p := h
set_option maxHeartbeats 40000000 in
theorem rNewMay_ok {csn : List Value} {n : Nte} {Sn : Nat → Prop} (hn : noteR.rd Sn w csn n) : Ret prog 91 #[.agg csn.toArray] w (fun v w' => v = .bool (decide (NewMay n)) ∧ Ext w w') := by
 obtain ⟨hIn, An0, cn0, An1, cn1, An2, cn2, An3, cn3, An4, cn4, An5, cn5, An6, cn6, An7, cn7, An8, cn8, An9, cn9, An10, cn10, rfl, hn0, hn1, hn2, hn3, hn4, hn5, hn6, hn7, hn8, hn9, hn10⟩ := hn
 have mhn0:=hn0.mx
 have mhn1:=hn1.mx
 have mhn2:=hn2.mx
 have mhn3:=hn3.mx
 have mhn4:=hn4.mx
 have mhn5:=hn5.mx
 have mhn6:=hn6.mx
 have mhn7:=hn7.mx
 have mhn8:=hn8.mx
 have mhn9:=hn9.mx
 have mhn10:=hn10.mx
 refine ret_of_wk func91 rfl ntmps91 leB_ ?_
 have hp:=HP.begin_ w
 replace hn0:=hn0.now
 replace hn1:=hn1.now
 replace hn2:=hn2.now
 replace hn3:=hn3.now
 replace hn4:=hn4.now
 replace hn5:=hn5.now
 replace hn6:=hn6.now
 replace hn7:=hn7.now
 replace hn8:=hn8.now
 replace hn9:=hn9.now
 replace hn10:=hn10.now
 refine go ?_
 refine wl_hbox (by decide) rfl hp ?_
 rintro gs1 w1 hp1 hE1
 have q0:=hE1
 replace hp:=hp1
 refine go ?_
 refine Fd_ 51 fld38_12 rfl rfl ?_
 refine Hl_ 0 sc34 rfl hp rfl rfl ?_
 refine Ln_ underlying34 rfl ?_
 refine Cl_ cl52 rfl (r12_within) ?_
 rintro _ _ ⟨rfl, rfl⟩
 first | refine Nd_ rfl ?_ | refine Nn_ rfl ?_
 refine go ?_
 refine Gs 11 (fun hg1 => ?_) fun hg1 => ?_
 refine go ?_
 refine wc_cond_t rfl (go ?_)
 refine P1 results91 ?_
 exact ⟨_, rfl, bool_f (by unfold NewMay; omega), hp.chg⟩
 refine go ?_
 refine Fd_ 52 fld38_13 rfl rfl (go ?_)
 refine Hl_ 0 sc35 rfl hp rfl rfl (go ?_)
 refine Ln_ underlying35 rfl (go ?_)
 refine Gt_ rfl rfl (go ?_)
 refine Gs 17 (fun hg2 => ?_) fun hg2 => ?_
 refine go ?_
 refine wc_cond_t rfl (go ?_)
 refine P1 results91 ?_
 exact ⟨_, rfl, bool_f (by unfold NewMay; omega), hp.chg⟩
 refine go ?_
 refine Fd_ 4 fld38_4 rfl rfl (go ?_)
 refine Hl_ 0 sc3 rfl hp rfl rfl (go ?_)
 refine Ls_ rfl rfl (go ?_)
 refine Cd (fun hc3 => ?_) fun hc3 => ?_
 refine go ?_
 refine P1 results91 ?_
 exact ⟨_, rfl, bool_f (by unfold NewMay; omega), hp.chg⟩
 refine go ?_
 refine wc_loop (fun L' w' mes => ∃ (k : Nat), L' = [(1, pt gs1 0), (3, iv (k : Int))] ∧ (k ≤ n.changes.length) ∧ (∀ i, i < k → ChAt n.changes n.view i) ∧ (1 ≤ n.changes.length ∧ n.changes.length ≤ 7 ∧ n.picks.length ≤ 8 ∧ 1 ≤ n.view) ∧ (GS wishR (fun b => b < w.heap.size) w' An0 cn0 n.batch) ∧ (GS byteR (fun b => b < w.heap.size) w' An1 cn1 n.ans.data) ∧ (GS intR (fun b => b < w.heap.size) w' An2 cn2 n.ans.nodes) ∧ (GS markR (fun b => b < w.heap.size) w' An3 cn3 n.change.marks) ∧ (GS standR (fun b => b < w.heap.size) w' An4 cn4 n.change.p) ∧ (GS standR (fun b => b < w.heap.size) w' An5 cn5 n.change.q) ∧ (GS changeR (fun b => b < w.heap.size) w' An6 cn6 n.changes) ∧ (GS pickR (fun b => b < w.heap.size) w' An7 cn7 n.picks) ∧ (GS digR (fun b => b < w.heap.size) w' An8 cn8 n.digs) ∧ (GS byteR (fun b => b < w.heap.size) w' An9 cn9 n.data) ∧ (GS intR (fun b => b < w.heap.size) w' An10 cn10 n.nodes) ∧ (HP w (fun _ => False) (fun b => b < w.heap.size) w' (itB gs1 38 ([iv n.kind, iv n.from_, iv n.group, iv n.epoch, iv n.view, iv n.seq] ++ (digC n.dig ++ ([.slice An0 n.batch.length cn0, iv n.ans.err, .slice An1 n.ans.data.length cn1, iv n.ans.epoch, .slice An2 n.ans.nodes.length cn2, iv n.stamp, iv n.node, iv n.change.node, iv n.change.view, iv n.change.low, .slice An3 n.change.marks.length cn3, .slice An4 n.change.p.length cn4, .slice An5 n.change.q.length cn5, .slice An6 n.changes.length cn6, .slice An7 n.picks.length cn7, iv n.level, iv n.place, .slice An8 n.digs.length cn8, .slice An9 n.data.length cn9, .slice An10 n.nodes.length cn10]))) :: [])) ∧ n.changes.length - k = mes) [(1, pt gs1 0), (3, iv (0 : Int))] (n.changes.length - 0) (by
     refine ⟨0, rfl, ?_, ?_, ?_, ?_, ?_, ?_, ?_, ?_, ?_, ?_, ?_, ?_, ?_, ?_, ?_, rfl⟩
     · omega
     · intro i hi; omega
     · omega
     · exact (hn0.ext q0)
     · exact (hn1.ext q0)
     · exact (hn2.ext q0)
     · exact (hn3.ext q0)
     · exact (hn4.ext q0)
     · exact (hn5.ext q0)
     · exact (hn6.ext q0)
     · exact (hn7.ext q0)
     · exact (hn8.ext q0)
     · exact (hn9.ext q0)
     · exact (hn10.ext q0)
     · exact hp) ⟨rfl, rfl, trivial⟩ ?_
 rintro _ wr _ ⟨k, rfl, hk, hcs, hpre, hn0, hn1, hn2, hn3, hn4, hn5, hn6, hn7, hn8, hn9, hn10, hp, rfl⟩ KL1 hKL1
 refine go ?_
 refine Fd_ 51 fld38_12 rfl rfl ?_
 refine Hl_ 0 sc34 rfl hp rfl rfl ?_
 refine Ln_ underlying34 rfl ?_
 refine Ls_ rfl rfl (go ?_)
 refine Cd (fun hc4 => ?_) fun hc4 => ?_
 refine go ?_
 by_cases hs5 : ChangeMay (n.changes.getD k change0)
 by_cases hs6 : (n.changes.getD k change0).view ≠ n.view
 obtain ⟨aw3, pw3_0, qw3_0, pw3_1, qw3_1, pw3_2, qw3_2, hAw3, hatw3, hIw3, hw3_0, hw3_1, hw3_2⟩ := changeR_el hn6 k (by omega)
 obtain ⟨aw11, pw11_0, qw11_0, pw11_1, qw11_1, pw11_2, qw11_2, hAw11, hatw11, hIw11, hw11_0, hw11_1, hw11_2⟩ := changeR_el hn6 k (by omega)
 apply wdL [SP.eq _, SP.eq _, SP.eq _, SP.eq _, SP.eq _, SP.eq (.bool true), SP.eq (.bool false), SP.eq (.bool false), SP.eq _, SP.eq _, SP.eq _, SP.eq _, SP.eq _, SP.eq _, SP.eq _, SP.eq _, SP.eq (.bool true), SP.eq (.bool true), SP.eq (.bool true), SP.eq undef, SP.eq undef, SP.eq undef, SP.eq undef, SP.eq undef, SP.eq undef, SP.eq undef, SP.eq undef, SP.eq undef, SP.eq undef, SP.eq undef, SP.eq undef, SP.eq undef, SP.eq undef, SP.eq undef, SP.eq undef, SP.eq undef, SP.eq undef, SP.eq (.bool true)]
 refine ⟨?_,?_,?_,?_,?_,?_,?_,?_,?_,?_,?_,?_,?_,?_,?_,?_,?_,?_,?_,?_,?_,?_,?_,?_,?_,?_,?_,?_,?_,?_,?_,?_,?_,?_,?_,?_,?_,?_,trivial⟩<;>intro F wF hER hk
 exact Fd_ 51 fld38_12 (hk.pi 1) rfl qz
 exact Hl_ 0 sc34 (hk.pe 0) (hp.ext hER) rfl rfl qz
 exact dm (hk.pi 3)
 have e30:=hk.pe 1
 have e31:=hk.pe 2
 exact wl_idx0 (by decide) sl34 e30 e31 hAw3 k rfl (by omega) qz
 exact wl_loadA (by decide) ag33 (hk.pe 3) (hatw3.ext hER).at_ rfl qz
 have e33:=hk.pe 4
 have hcl:=rChangeMay_ok ⟨hIw3, _, _, _, _, _, _, rfl, (hw3_0.ext hER), (hw3_1.ext hER), (hw3_2.ext hER)⟩
 refine Cl_ cl58 (by simp only [evs, ev, e33]; first | done | rfl) hcl ?_
 clear hcl
 rintro _ w7 ⟨rfl, hE7⟩
 refine wl_re (k := 34) (v := .bool true) rfl (congrArg Value.bool (decide_eq_true (by first | exact hs5 | omega | simpa using hs5))) ?_
 exact qy ⟨hE7, rfl⟩
 have e34:=hk.pe 5
 first | exact Nd_ e34 qz | exact Nn_ e34 qz
 exact dm (hk.pe 6)
 have e1:=hk.pi 1
 have e36:=hk.pe 7
 refine wl_gyes rfl e36 ?_
 exact Fd_ 51 fld38_12 e1 rfl qz
 have e37:=hk.pe 8
 have e36:=hk.pe 7
 refine wl_gyes rfl e36 ?_
 exact Hl_ 0 sc34 e37 (hp.ext hER) rfl rfl qz
 have e3:=hk.pi 3
 have e36:=hk.pe 7
 refine wl_gyes rfl e36 ?_
 exact Mv_ e3 qz
 have e38:=hk.pe 9
 have e39:=hk.pe 10
 have e36:=hk.pe 7
 refine wl_gyes rfl e36 ?_
 exact wl_idx0 (by decide) sl34 e38 e39 hAw11 k rfl (by omega) qz
 have e40:=hk.pe 11
 have e36:=hk.pe 7
 refine wl_gyes rfl e36 ?_
 exact Fe_ fld33_1 e40 qz
 have e41:=hk.pe 12
 have e36:=hk.pe 7
 refine wl_gyes rfl e36 ?_
 exact Ld_ sc3 e41 ((hatw11.ext hER).get rfl) qz
 have e1:=hk.pi 1
 have e36:=hk.pe 7
 refine wl_gyes rfl e36 ?_
 exact Fd_ 4 fld38_4 e1 rfl qz
 have e43:=hk.pe 14
 have e36:=hk.pe 7
 refine wl_gyes rfl e36 ?_
 exact Hl_ 0 sc3 e43 (hp.ext hER) rfl rfl qz
 have e42:=hk.pe 13
 have e44:=hk.pe 15
 have e36:=hk.pe 7
 refine wl_gyes rfl e36 ?_
 refine Ne_ e42 e44 ?_
 exact wl_re (k := 45) (v := .bool true) rfl (congrArg Value.bool (decide_eq_true (by first | exact hs6 | omega | simpa using hs6))) qy
 have e36:=hk.pe 7
 have e45:=hk.pe 16
 exact Pk_ e36 e45 qz
 exact dm (hk.pe 17)
 exact dn (hk.pe 18)
 exact dn (hk.pe 18)
 exact dn (hk.pe 18)
 exact dn (hk.pe 21)
 exact dn (hk.pe 21)
 exact dn (hk.pe 21)
 exact dn (hk.pe 21)
 exact dn (hk.pe 21)
 exact dn (hk.pe 21)
 exact dn (hk.pe 21)
 exact dn (hk.pe 21)
 exact dn (hk.pe 21)
 exact dn (hk.pe 21)
 exact dn (hk.pe 21)
 exact dn (hk.pe 21)
 exact dn (hk.pe 21)
 exact dn (hk.pe 21)
 exact dn (hk.pe 18)
 have e47:=hk.pe 18
 have e65:=hk.pe 36
 exact Pk_ e47 rfl qz
 intro F wD hED hini hdo
 refine wk_drop [(1, _), (3, _), (66, _)] ⟨di hini 1, di hini 3, dq hdo 37, trivial⟩ ?_
 clear hini hdo
 replace hp:=hp.ext hED
 refine go ?_
 refine wc_cond_t rfl (go ?_)
 refine P1 results91 ?_
 exact ⟨_, rfl, bool_f (fun h => by have := h.2.2.2.2.1 k (by omega); unfold ChAt at this; first | omega | simp_all | (simp_all; omega)), hp.chg⟩
 by_cases hs7 : (k : Int) > 0
 obtain ⟨aw3, pw3_0, qw3_0, pw3_1, qw3_1, pw3_2, qw3_2, hAw3, hatw3, hIw3, hw3_0, hw3_1, hw3_2⟩ := changeR_el hn6 k (by omega)
 obtain ⟨aw11, pw11_0, qw11_0, pw11_1, qw11_1, pw11_2, qw11_2, hAw11, hatw11, hIw11, hw11_0, hw11_1, hw11_2⟩ := changeR_el hn6 k (by omega)
 obtain ⟨aw25, pw25_0, qw25_0, pw25_1, qw25_1, pw25_2, qw25_2, hAw25, hatw25, hIw25, hw25_0, hw25_1, hw25_2⟩ := changeR_el hn6 k (by omega)
 obtain ⟨aw32, pw32_0, qw32_0, pw32_1, qw32_1, pw32_2, qw32_2, hAw32, hatw32, hIw32, hw32_0, hw32_1, hw32_2⟩ := changeR_el hn6 (k - 1) (by omega)
 apply wdL [SP.eq _, SP.eq _, SP.eq _, SP.eq _, SP.eq _, SP.eq (.bool true), SP.eq (.bool false), SP.eq (.bool false), SP.eq _, SP.eq _, SP.eq _, SP.eq _, SP.eq _, SP.eq _, SP.eq _, SP.eq _, SP.eq (.bool false), SP.eq (.bool false), SP.eq (.bool false), SP.eq _, SP.eq (.bool true), SP.eq (.bool true), SP.eq _, SP.eq _, SP.eq _, SP.eq _, SP.eq _, SP.eq _, SP.eq _, SP.eq _, SP.eq _, SP.eq _, SP.eq _, SP.eq _, SP.eq _, SP.eq _, SP.eq _, SP.eq _]
 refine ⟨?_,?_,?_,?_,?_,?_,?_,?_,?_,?_,?_,?_,?_,?_,?_,?_,?_,?_,?_,?_,?_,?_,?_,?_,?_,?_,?_,?_,?_,?_,?_,?_,?_,?_,?_,?_,?_,?_,trivial⟩<;>intro F wF hER hk
 exact Fd_ 51 fld38_12 (hk.pi 1) rfl qz
 exact Hl_ 0 sc34 (hk.pe 0) (hp.ext hER) rfl rfl qz
 exact dm (hk.pi 3)
 have e30:=hk.pe 1
 have e31:=hk.pe 2
 exact wl_idx0 (by decide) sl34 e30 e31 hAw3 k rfl (by omega) qz
 exact wl_loadA (by decide) ag33 (hk.pe 3) (hatw3.ext hER).at_ rfl qz
 have e33:=hk.pe 4
 have hcl:=rChangeMay_ok ⟨hIw3, _, _, _, _, _, _, rfl, (hw3_0.ext hER), (hw3_1.ext hER), (hw3_2.ext hER)⟩
 refine Cl_ cl58 (by simp only [evs, ev, e33]; first | done | rfl) hcl ?_
 clear hcl
 rintro _ w7 ⟨rfl, hE7⟩
 refine wl_re (k := 34) (v := .bool true) rfl (congrArg Value.bool (decide_eq_true (by first | exact hs5 | omega | simpa using hs5))) ?_
 exact qy ⟨hE7, rfl⟩
 have e34:=hk.pe 5
 first | exact Nd_ e34 qz | exact Nn_ e34 qz
 exact dm (hk.pe 6)
 have e1:=hk.pi 1
 have e36:=hk.pe 7
 refine wl_gyes rfl e36 ?_
 exact Fd_ 51 fld38_12 e1 rfl qz
 have e37:=hk.pe 8
 have e36:=hk.pe 7
 refine wl_gyes rfl e36 ?_
 exact Hl_ 0 sc34 e37 (hp.ext hER) rfl rfl qz
 have e3:=hk.pi 3
 have e36:=hk.pe 7
 refine wl_gyes rfl e36 ?_
 exact Mv_ e3 qz
 have e38:=hk.pe 9
 have e39:=hk.pe 10
 have e36:=hk.pe 7
 refine wl_gyes rfl e36 ?_
 exact wl_idx0 (by decide) sl34 e38 e39 hAw11 k rfl (by omega) qz
 have e40:=hk.pe 11
 have e36:=hk.pe 7
 refine wl_gyes rfl e36 ?_
 exact Fe_ fld33_1 e40 qz
 have e41:=hk.pe 12
 have e36:=hk.pe 7
 refine wl_gyes rfl e36 ?_
 exact Ld_ sc3 e41 ((hatw11.ext hER).get rfl) qz
 have e1:=hk.pi 1
 have e36:=hk.pe 7
 refine wl_gyes rfl e36 ?_
 exact Fd_ 4 fld38_4 e1 rfl qz
 have e43:=hk.pe 14
 have e36:=hk.pe 7
 refine wl_gyes rfl e36 ?_
 exact Hl_ 0 sc3 e43 (hp.ext hER) rfl rfl qz
 have e42:=hk.pe 13
 have e44:=hk.pe 15
 have e36:=hk.pe 7
 refine wl_gyes rfl e36 ?_
 refine Ne_ e42 e44 ?_
 exact wl_re (k := 45) (v := .bool false) rfl (congrArg Value.bool (decide_eq_false (by first | exact hs6 | omega | simpa using hs6))) qy
 have e36:=hk.pe 7
 have e45:=hk.pe 16
 exact Pk_ e36 e45 qz
 exact dm (hk.pe 17)
 have e3:=hk.pi 3
 have e47:=hk.pe 18
 refine wl_gyes rfl e47 ?_
 exact Mv_ e3 qz
 have e48:=hk.pe 19
 have e47:=hk.pe 18
 refine wl_gyes rfl e47 ?_
 refine Gt_ e48 rfl ?_
 exact wl_re (k := 49) (v := .bool true) rfl (congrArg Value.bool (decide_eq_true (by first | exact hs7 | omega | simpa using hs7))) qy
 have e49:=hk.pe 20
 have e47:=hk.pe 18
 refine wl_gyes rfl e47 ?_
 exact Mv_ e49 qz
 have e1:=hk.pi 1
 have e50:=hk.pe 21
 refine wl_gyes rfl e50 ?_
 exact Fd_ 51 fld38_12 e1 rfl qz
 have e51:=hk.pe 22
 have e50:=hk.pe 21
 refine wl_gyes rfl e50 ?_
 exact Hl_ 0 sc34 e51 (hp.ext hER) rfl rfl qz
 have e3:=hk.pi 3
 have e50:=hk.pe 21
 refine wl_gyes rfl e50 ?_
 exact Mv_ e3 qz
 have e52:=hk.pe 23
 have e53:=hk.pe 24
 have e50:=hk.pe 21
 refine wl_gyes rfl e50 ?_
 exact wl_idx0 (by decide) sl34 e52 e53 hAw25 k rfl (by omega) qz
 have e54:=hk.pe 25
 have e50:=hk.pe 21
 refine wl_gyes rfl e50 ?_
 exact Fe_ fld33_0 e54 qz
 have e55:=hk.pe 26
 have e50:=hk.pe 21
 refine wl_gyes rfl e50 ?_
 exact Ld_ sc3 e55 ((hatw25.ext hER).get rfl) qz
 have e1:=hk.pi 1
 have e50:=hk.pe 21
 refine wl_gyes rfl e50 ?_
 exact Fd_ 51 fld38_12 e1 rfl qz
 have e57:=hk.pe 28
 have e50:=hk.pe 21
 refine wl_gyes rfl e50 ?_
 exact Hl_ 0 sc34 e57 (hp.ext hER) rfl rfl qz
 have e3:=hk.pi 3
 have e50:=hk.pe 21
 refine wl_gyes rfl e50 ?_
 exact Mv_ e3 qz
 have e59:=hk.pe 30
 have e50:=hk.pe 21
 refine wl_gyes rfl e50 ?_
 exact wl_sub (by decide) e59 rfl (w64 (by omega) (by omega)) qz
 have e58:=hk.pe 29
 have e60:=hk.pe 31
 have e50:=hk.pe 21
 refine wl_gyes rfl e50 ?_
 exact wl_idx0 (by decide) sl34 e58 e60 hAw32 (k - 1) (by omega) (by omega) qz
 have e61:=hk.pe 32
 have e50:=hk.pe 21
 refine wl_gyes rfl e50 ?_
 exact Fe_ fld33_0 e61 qz
 have e62:=hk.pe 33
 have e50:=hk.pe 21
 refine wl_gyes rfl e50 ?_
 exact Ld_ sc3 e62 ((hatw32.ext hER).get rfl) qz
 have e56:=hk.pe 27
 have e63:=hk.pe 34
 have e50:=hk.pe 21
 refine wl_gyes rfl e50 ?_
 exact Lq_ e56 e63 qz
 have e50:=hk.pe 21
 have e64:=hk.pe 35
 have e47:=hk.pe 18
 refine wl_gyes rfl e47 ?_
 exact Pk_ e50 e64 qz
 have e47:=hk.pe 18
 have e65:=hk.pe 36
 exact Pk_ e47 e65 qz
 intro F wD hED hini hdo
 refine wk_drop [(1, _), (3, _), (66, _)] ⟨di hini 1, di hini 3, dq hdo 37, trivial⟩ ?_
 clear hini hdo
 have q1:=hED
 replace hp:=hp.ext hED
 refine go ?_
 refine Cd (fun hc8 => ?_) fun hc8 => ?_
 refine go ?_
 refine P1 results91 ?_
 exact ⟨_, rfl, bool_f (fun h => by have := h.2.2.2.2.1 k (by omega); unfold ChAt at this; first | omega | simp_all | (simp_all; omega)), hp.chg⟩
 refine go ?_
 refine wl_add (by decide) rfl rfl (w64 (by omega) (by omega)) (gl ?_)
 refine wk_drop [(1, pt gs1 0), (3, iv ((k + 1) : Int))] ⟨rfl, rfl, trivial⟩ (hKL1 _ _ (m2 := n.changes.length - (k + 1)) ?_ ?_)
 refine ⟨(k + 1), rfl, ?_, ?_, ?_, ?_, ?_, ?_, ?_, ?_, ?_, ?_, ?_, ?_, ?_, ?_, ?_, rfl⟩
 omega
 refine upto hcs ⟨by simp_all, by omega, fun _ => by omega⟩
 exact hpre
 exact (hn0.ext q1)
 exact (hn1.ext q1)
 exact (hn2.ext q1)
 exact (hn3.ext q1)
 exact (hn4.ext q1)
 exact (hn5.ext q1)
 exact (hn6.ext q1)
 exact (hn7.ext q1)
 exact (hn8.ext q1)
 exact (hn9.ext q1)
 exact (hn10.ext q1)
 exact hp
 omega
 obtain ⟨aw3, pw3_0, qw3_0, pw3_1, qw3_1, pw3_2, qw3_2, hAw3, hatw3, hIw3, hw3_0, hw3_1, hw3_2⟩ := changeR_el hn6 k (by omega)
 obtain ⟨aw11, pw11_0, qw11_0, pw11_1, qw11_1, pw11_2, qw11_2, hAw11, hatw11, hIw11, hw11_0, hw11_1, hw11_2⟩ := changeR_el hn6 k (by omega)
 apply wdL [SP.eq _, SP.eq _, SP.eq _, SP.eq _, SP.eq _, SP.eq (.bool true), SP.eq (.bool false), SP.eq (.bool false), SP.eq _, SP.eq _, SP.eq _, SP.eq _, SP.eq _, SP.eq _, SP.eq _, SP.eq _, SP.eq (.bool false), SP.eq (.bool false), SP.eq (.bool false), SP.eq _, SP.eq (.bool false), SP.eq (.bool false), SP.eq undef, SP.eq undef, SP.eq undef, SP.eq undef, SP.eq undef, SP.eq undef, SP.eq undef, SP.eq undef, SP.eq undef, SP.eq undef, SP.eq undef, SP.eq undef, SP.eq undef, SP.eq undef, SP.eq (.bool false), SP.eq (.bool false)]
 refine ⟨?_,?_,?_,?_,?_,?_,?_,?_,?_,?_,?_,?_,?_,?_,?_,?_,?_,?_,?_,?_,?_,?_,?_,?_,?_,?_,?_,?_,?_,?_,?_,?_,?_,?_,?_,?_,?_,?_,trivial⟩<;>intro F wF hER hk
 exact Fd_ 51 fld38_12 (hk.pi 1) rfl qz
 exact Hl_ 0 sc34 (hk.pe 0) (hp.ext hER) rfl rfl qz
 exact dm (hk.pi 3)
 have e30:=hk.pe 1
 have e31:=hk.pe 2
 exact wl_idx0 (by decide) sl34 e30 e31 hAw3 k rfl (by omega) qz
 exact wl_loadA (by decide) ag33 (hk.pe 3) (hatw3.ext hER).at_ rfl qz
 have e33:=hk.pe 4
 have hcl:=rChangeMay_ok ⟨hIw3, _, _, _, _, _, _, rfl, (hw3_0.ext hER), (hw3_1.ext hER), (hw3_2.ext hER)⟩
 refine Cl_ cl58 (by simp only [evs, ev, e33]; first | done | rfl) hcl ?_
 clear hcl
 rintro _ w7 ⟨rfl, hE7⟩
 refine wl_re (k := 34) (v := .bool true) rfl (congrArg Value.bool (decide_eq_true (by first | exact hs5 | omega | simpa using hs5))) ?_
 exact qy ⟨hE7, rfl⟩
 have e34:=hk.pe 5
 first | exact Nd_ e34 qz | exact Nn_ e34 qz
 exact dm (hk.pe 6)
 have e1:=hk.pi 1
 have e36:=hk.pe 7
 refine wl_gyes rfl e36 ?_
 exact Fd_ 51 fld38_12 e1 rfl qz
 have e37:=hk.pe 8
 have e36:=hk.pe 7
 refine wl_gyes rfl e36 ?_
 exact Hl_ 0 sc34 e37 (hp.ext hER) rfl rfl qz
 have e3:=hk.pi 3
 have e36:=hk.pe 7
 refine wl_gyes rfl e36 ?_
 exact Mv_ e3 qz
 have e38:=hk.pe 9
 have e39:=hk.pe 10
 have e36:=hk.pe 7
 refine wl_gyes rfl e36 ?_
 exact wl_idx0 (by decide) sl34 e38 e39 hAw11 k rfl (by omega) qz
 have e40:=hk.pe 11
 have e36:=hk.pe 7
 refine wl_gyes rfl e36 ?_
 exact Fe_ fld33_1 e40 qz
 have e41:=hk.pe 12
 have e36:=hk.pe 7
 refine wl_gyes rfl e36 ?_
 exact Ld_ sc3 e41 ((hatw11.ext hER).get rfl) qz
 have e1:=hk.pi 1
 have e36:=hk.pe 7
 refine wl_gyes rfl e36 ?_
 exact Fd_ 4 fld38_4 e1 rfl qz
 have e43:=hk.pe 14
 have e36:=hk.pe 7
 refine wl_gyes rfl e36 ?_
 exact Hl_ 0 sc3 e43 (hp.ext hER) rfl rfl qz
 have e42:=hk.pe 13
 have e44:=hk.pe 15
 have e36:=hk.pe 7
 refine wl_gyes rfl e36 ?_
 refine Ne_ e42 e44 ?_
 exact wl_re (k := 45) (v := .bool false) rfl (congrArg Value.bool (decide_eq_false (by first | exact hs6 | omega | simpa using hs6))) qy
 have e36:=hk.pe 7
 have e45:=hk.pe 16
 exact Pk_ e36 e45 qz
 exact dm (hk.pe 17)
 have e3:=hk.pi 3
 have e47:=hk.pe 18
 refine wl_gyes rfl e47 ?_
 exact Mv_ e3 qz
 have e48:=hk.pe 19
 have e47:=hk.pe 18
 refine wl_gyes rfl e47 ?_
 refine Gt_ e48 rfl ?_
 exact wl_re (k := 49) (v := .bool false) rfl (congrArg Value.bool (decide_eq_false (by first | exact hs7 | omega | simpa using hs7))) qy
 have e49:=hk.pe 20
 have e47:=hk.pe 18
 refine wl_gyes rfl e47 ?_
 exact Mv_ e49 qz
 exact dn (hk.pe 21)
 exact dn (hk.pe 21)
 exact dn (hk.pe 21)
 exact dn (hk.pe 21)
 exact dn (hk.pe 21)
 exact dn (hk.pe 21)
 exact dn (hk.pe 21)
 exact dn (hk.pe 21)
 exact dn (hk.pe 21)
 exact dn (hk.pe 21)
 exact dn (hk.pe 21)
 exact dn (hk.pe 21)
 exact dn (hk.pe 21)
 exact dn (hk.pe 21)
 have e50:=hk.pe 21
 have e64:=hk.pe 35
 have e47:=hk.pe 18
 refine wl_gyes rfl e47 ?_
 exact Pk_ e50 rfl qz
 have e47:=hk.pe 18
 have e65:=hk.pe 36
 exact Pk_ e47 e65 qz
 intro F wD hED hini hdo
 refine wk_drop [(1, _), (3, _), (66, _)] ⟨di hini 1, di hini 3, dq hdo 37, trivial⟩ ?_
 clear hini hdo
 have q2:=hED
 replace hp:=hp.ext hED
 refine go ?_
 refine wc_cond_f rfl ?_
 refine go ?_
 refine wl_add (by decide) rfl rfl (w64 (by omega) (by omega)) (gl ?_)
 refine wk_drop [(1, pt gs1 0), (3, iv ((k + 1) : Int))] ⟨rfl, rfl, trivial⟩ (hKL1 _ _ (m2 := n.changes.length - (k + 1)) ?_ ?_)
 refine ⟨(k + 1), rfl, ?_, ?_, ?_, ?_, ?_, ?_, ?_, ?_, ?_, ?_, ?_, ?_, ?_, ?_, ?_, rfl⟩
 omega
 refine upto hcs ⟨by simp_all, by omega, fun _ => by omega⟩
 exact hpre
 exact (hn0.ext q2)
 exact (hn1.ext q2)
 exact (hn2.ext q2)
 exact (hn3.ext q2)
 exact (hn4.ext q2)
 exact (hn5.ext q2)
 exact (hn6.ext q2)
 exact (hn7.ext q2)
 exact (hn8.ext q2)
 exact (hn9.ext q2)
 exact (hn10.ext q2)
 exact hp
 omega
 obtain ⟨aw3, pw3_0, qw3_0, pw3_1, qw3_1, pw3_2, qw3_2, hAw3, hatw3, hIw3, hw3_0, hw3_1, hw3_2⟩ := changeR_el hn6 k (by omega)
 apply wdL [SP.eq _, SP.eq _, SP.eq _, SP.eq _, SP.eq _, SP.eq (.bool false), SP.eq (.bool true), SP.eq (.bool true), SP.eq undef, SP.eq undef, SP.eq undef, SP.eq undef, SP.eq undef, SP.eq undef, SP.eq undef, SP.eq undef, SP.eq undef, SP.eq (.bool true), SP.eq (.bool true), SP.eq undef, SP.eq undef, SP.eq undef, SP.eq undef, SP.eq undef, SP.eq undef, SP.eq undef, SP.eq undef, SP.eq undef, SP.eq undef, SP.eq undef, SP.eq undef, SP.eq undef, SP.eq undef, SP.eq undef, SP.eq undef, SP.eq undef, SP.eq undef, SP.eq (.bool true)]
 refine ⟨?_,?_,?_,?_,?_,?_,?_,?_,?_,?_,?_,?_,?_,?_,?_,?_,?_,?_,?_,?_,?_,?_,?_,?_,?_,?_,?_,?_,?_,?_,?_,?_,?_,?_,?_,?_,?_,?_,trivial⟩<;>intro F wF hER hk
 exact Fd_ 51 fld38_12 (hk.pi 1) rfl qz
 exact Hl_ 0 sc34 (hk.pe 0) (hp.ext hER) rfl rfl qz
 exact dm (hk.pi 3)
 have e30:=hk.pe 1
 have e31:=hk.pe 2
 exact wl_idx0 (by decide) sl34 e30 e31 hAw3 k rfl (by omega) qz
 exact wl_loadA (by decide) ag33 (hk.pe 3) (hatw3.ext hER).at_ rfl qz
 have e33:=hk.pe 4
 have hcl:=rChangeMay_ok ⟨hIw3, _, _, _, _, _, _, rfl, (hw3_0.ext hER), (hw3_1.ext hER), (hw3_2.ext hER)⟩
 refine Cl_ cl58 (by simp only [evs, ev, e33]; first | done | rfl) hcl ?_
 clear hcl
 rintro _ w7 ⟨rfl, hE7⟩
 refine wl_re (k := 34) (v := .bool false) rfl (congrArg Value.bool (decide_eq_false (by first | exact hs5 | omega | simpa using hs5))) ?_
 exact qy ⟨hE7, rfl⟩
 have e34:=hk.pe 5
 first | exact Nd_ e34 qz | exact Nn_ e34 qz
 exact dm (hk.pe 6)
 exact dn (hk.pe 7)
 exact dn (hk.pe 7)
 exact dn (hk.pe 7)
 exact dn (hk.pe 7)
 exact dn (hk.pe 7)
 exact dn (hk.pe 7)
 exact dn (hk.pe 7)
 exact dn (hk.pe 7)
 exact dn (hk.pe 7)
 have e36:=hk.pe 7
 have e45:=hk.pe 16
 exact Pk_ e36 rfl qz
 exact dm (hk.pe 17)
 exact dn (hk.pe 18)
 exact dn (hk.pe 18)
 exact dn (hk.pe 18)
 exact dn (hk.pe 21)
 exact dn (hk.pe 21)
 exact dn (hk.pe 21)
 exact dn (hk.pe 21)
 exact dn (hk.pe 21)
 exact dn (hk.pe 21)
 exact dn (hk.pe 21)
 exact dn (hk.pe 21)
 exact dn (hk.pe 21)
 exact dn (hk.pe 21)
 exact dn (hk.pe 21)
 exact dn (hk.pe 21)
 exact dn (hk.pe 21)
 exact dn (hk.pe 21)
 exact dn (hk.pe 18)
 have e47:=hk.pe 18
 have e65:=hk.pe 36
 exact Pk_ e47 rfl qz
 intro F wD hED hini hdo
 refine wk_drop [(1, _), (3, _), (66, _)] ⟨di hini 1, di hini 3, dq hdo 37, trivial⟩ ?_
 clear hini hdo
 replace hp:=hp.ext hED
 refine go ?_
 refine wc_cond_t rfl (go ?_)
 refine P1 results91 ?_
 exact ⟨_, rfl, bool_f (fun h => by have := h.2.2.2.2.1 k (by omega); unfold ChAt at this; first | omega | simp_all | (simp_all; omega)), hp.chg⟩
 refine go ?_
 refine wc_loop (fun L' w' mes => ∃ (k : Nat), L' = [(1, pt gs1 0), (4, iv (k : Int))] ∧ (k ≤ n.picks.length) ∧ (∀ i, i < k → PkAt n.picks n.group n.epoch i) ∧ (GS wishR (fun b => b < w.heap.size) w' An0 cn0 n.batch) ∧ (GS byteR (fun b => b < w.heap.size) w' An1 cn1 n.ans.data) ∧ (GS intR (fun b => b < w.heap.size) w' An2 cn2 n.ans.nodes) ∧ (GS markR (fun b => b < w.heap.size) w' An3 cn3 n.change.marks) ∧ (GS standR (fun b => b < w.heap.size) w' An4 cn4 n.change.p) ∧ (GS standR (fun b => b < w.heap.size) w' An5 cn5 n.change.q) ∧ (GS changeR (fun b => b < w.heap.size) w' An6 cn6 n.changes) ∧ (GS pickR (fun b => b < w.heap.size) w' An7 cn7 n.picks) ∧ (GS digR (fun b => b < w.heap.size) w' An8 cn8 n.digs) ∧ (GS byteR (fun b => b < w.heap.size) w' An9 cn9 n.data) ∧ (GS intR (fun b => b < w.heap.size) w' An10 cn10 n.nodes) ∧ (HP w (fun _ => False) (fun b => b < w.heap.size) w' (itB gs1 38 ([iv n.kind, iv n.from_, iv n.group, iv n.epoch, iv n.view, iv n.seq] ++ (digC n.dig ++ ([.slice An0 n.batch.length cn0, iv n.ans.err, .slice An1 n.ans.data.length cn1, iv n.ans.epoch, .slice An2 n.ans.nodes.length cn2, iv n.stamp, iv n.node, iv n.change.node, iv n.change.view, iv n.change.low, .slice An3 n.change.marks.length cn3, .slice An4 n.change.p.length cn4, .slice An5 n.change.q.length cn5, .slice An6 n.changes.length cn6, .slice An7 n.picks.length cn7, iv n.level, iv n.place, .slice An8 n.digs.length cn8, .slice An9 n.data.length cn9, .slice An10 n.nodes.length cn10]))) :: [])) ∧ n.picks.length - k = mes) [(1, pt gs1 0), (4, iv (0 : Int))] (n.picks.length - 0) (by
     refine ⟨0, rfl, ?_, ?_, ?_, ?_, ?_, ?_, ?_, ?_, ?_, ?_, ?_, ?_, ?_, ?_, rfl⟩
     · omega
     · intro i hi; omega
     · exact hn0
     · exact hn1
     · exact hn2
     · exact hn3
     · exact hn4
     · exact hn5
     · exact hn6
     · exact hn7
     · exact hn8
     · exact hn9
     · exact hn10
     · exact hp) ⟨rfl, rfl, trivial⟩ ?_
 rintro _ wp _ ⟨k, rfl, hk, hps, hn0, hn1, hn2, hn3, hn4, hn5, hn6, hn7, hn8, hn9, hn10, hp, rfl⟩ KL2 hKL2
 refine go ?_
 refine Fd_ 52 fld38_13 rfl rfl ?_
 refine Hl_ 0 sc35 rfl hp rfl rfl ?_
 refine Ln_ underlying35 rfl ?_
 refine Ls_ rfl rfl (go ?_)
 refine Cd (fun hc9 => ?_) fun hc9 => ?_
 refine go ?_
 refine Fd_ 52 fld38_13 rfl rfl ?_
 refine Hl_ 0 sc35 rfl hp rfl rfl (go ?_)
 obtain ⟨ae3, pe3_0, qe3_0, hAe3, hate3, hIe3, he3_0⟩ := pickR_el hn7 k (by omega)
 refine wl_idx0 (by decide) sl35 rfl rfl hAe3 k rfl (by omega) ?_
 refine wl_loadA (by decide) ag66 rfl hate3.at_ rfl ?_
 refine wl_halloc (e := 66) (z := .agg #[iv 0, .int .u8 0, .int .u8 0, .int .u8 0, .int .u8 0, .int .u8 0, .int .u8 0, .int .u8 0, .int .u8 0, .int .u8 0, .int .u8 0, .int .u8 0, .int .u8 0, .int .u8 0, .int .u8 0, .int .u8 0, .int .u8 0, .int .u8 0, .int .u8 0, .int .u8 0, .int .u8 0, .int .u8 0, .int .u8 0, .int .u8 0, .int .u8 0, .int .u8 0, .int .u8 0, .int .u8 0, .int .u8 0, .int .u8 0, .int .u8 0, .int .u8 0, .int .u8 0, s0]) (by decide) (by kernel_rfl) hp ?_
 rintro gs5 w4 hp4 hE4
 have q3:=hE4
 replace hp:=hp4
 refine wl_hstore (i := 0) rfl rfl hp rfl sz66 leB_ (List.all_eq_true.1 rfl) ?_
 rintro w5 hp5 hC5
 have q4:=hn0.tk.ext q3
 replace q4:=q4.fz hC5
 replace hp:=hp5
 refine go ?_
 by_cases hs10 : 1 ≤ ((n.picks.getD k pick0).seq) ∧ ((n.picks.getD k pick0).seq) ≤ 9007199254740991
 by_cases hs11 : (k : Int) > 0
 by_cases hs12 : ((n.picks.getD k pick0).seq - 1) ≠ (n.picks.getD (k - 1) pick0).seq
 obtain ⟨aw15, pw15_0, qw15_0, hAw15, hatw15, hIw15, hw15_0⟩ := pickR_el (hn7.fr q4) (k - 1) (by omega)
 apply wdL [SP.eq _, SP.eq _, SP.eq (.bool true), SP.eq (.bool false), SP.eq (.bool false), SP.eq _, SP.eq (.bool true), SP.eq (.bool true), SP.eq _, SP.eq _, SP.eq _, SP.eq _, SP.eq _, SP.eq _, SP.eq _, SP.eq _, SP.eq _, SP.eq _, SP.eq (.bool true), SP.eq (.bool true), SP.eq (.bool true), SP.eq (.bool true), SP.eq undef, SP.eq undef, SP.eq undef, SP.eq undef, SP.eq undef, SP.eq (.bool true), SP.eq (.bool true), SP.eq undef, SP.eq undef, SP.eq undef, SP.eq undef, SP.eq undef, SP.eq undef, SP.eq undef, SP.eq undef, SP.eq undef, SP.eq undef, SP.eq (.bool true)]
 refine ⟨?_,?_,?_,?_,?_,?_,?_,?_,?_,?_,?_,?_,?_,?_,?_,?_,?_,?_,?_,?_,?_,?_,?_,?_,?_,?_,?_,?_,?_,?_,?_,?_,?_,?_,?_,?_,?_,?_,?_,?_,trivial⟩<;>intro F wF hER hk
 exact Fd_ 0 fld66_0 (hk.pi 5) rfl qz
 exact Hl_ 0 sc3 (hk.pe 0) (hp.ext hER) rfl rfl qz
 have e80:=hk.pe 1
 refine Cl_ cl52 (by simp only [evs, ev, e80]; first | done | rfl) (r12_within) ?_
 rintro _ _ ⟨rfl, rfl⟩
 exact t0_rNewMay_ok
 have e81:=hk.pe 2
 first | exact Nd_ e81 qz | exact Nn_ e81 qz
 exact dm (hk.pe 3)
 have e4:=hk.pi 4
 have e83:=hk.pe 4
 refine wl_gyes rfl e83 ?_
 exact Mv_ e4 qz
 have e84:=hk.pe 5
 have e83:=hk.pe 4
 refine wl_gyes rfl e83 ?_
 refine Gt_ e84 rfl ?_
 exact t1_rNewMay_ok
 have e85:=hk.pe 6
 have e83:=hk.pe 4
 refine wl_gyes rfl e83 ?_
 exact Mv_ e85 qz
 have e5:=hk.pi 5
 have e86:=hk.pe 7
 refine wl_gyes rfl e86 ?_
 exact Fd_ 0 fld66_0 e5 rfl qz
 have e87:=hk.pe 8
 have e86:=hk.pe 7
 refine wl_gyes rfl e86 ?_
 exact Hl_ 0 sc3 e87 (hp.ext hER) rfl rfl qz
 have e88:=hk.pe 9
 have e86:=hk.pe 7
 refine wl_gyes rfl e86 ?_
 exact wl_sub (by decide) e88 rfl (w64 (by omega) (by omega)) qz
 have e1:=hk.pi 1
 have e86:=hk.pe 7
 refine wl_gyes rfl e86 ?_
 exact Fd_ 52 fld38_13 e1 rfl qz
 have e90:=hk.pe 11
 have e86:=hk.pe 7
 refine wl_gyes rfl e86 ?_
 exact Hl_ 1 sc35 e90 (hp.ext hER) rfl rfl qz
 have e4:=hk.pi 4
 have e86:=hk.pe 7
 refine wl_gyes rfl e86 ?_
 exact Mv_ e4 qz
 have e92:=hk.pe 13
 have e86:=hk.pe 7
 refine wl_gyes rfl e86 ?_
 exact wl_sub (by decide) e92 rfl (w64 (by omega) (by omega)) qz
 have e91:=hk.pe 12
 have e93:=hk.pe 14
 have e86:=hk.pe 7
 refine wl_gyes rfl e86 ?_
 exact wl_idx0 (by decide) sl35 e91 e93 hAw15 (k - 1) (by omega) (by omega) qz
 have e94:=hk.pe 15
 have e86:=hk.pe 7
 refine wl_gyes rfl e86 ?_
 exact Fe_ fld66_0 e94 qz
 have e95:=hk.pe 16
 have e86:=hk.pe 7
 refine wl_gyes rfl e86 ?_
 exact Ld_ sc3 e95 ((hatw15.ext hER).get rfl) qz
 have e89:=hk.pe 10
 have e96:=hk.pe 17
 have e86:=hk.pe 7
 refine wl_gyes rfl e86 ?_
 refine Ne_ e89 e96 ?_
 exact wl_re (k := 97) (v := .bool true) rfl (congrArg Value.bool (decide_eq_true (by first | exact hs12 | omega | simpa using hs12))) qy
 have e86:=hk.pe 7
 have e97:=hk.pe 18
 have e83:=hk.pe 4
 refine wl_gyes rfl e83 ?_
 exact Pk_ e86 e97 qz
 have e83:=hk.pe 4
 have e98:=hk.pe 19
 exact Pk_ e83 e98 qz
 exact dm (hk.pe 20)
 exact dn (hk.pe 21)
 exact dn (hk.pe 21)
 exact dn (hk.pe 21)
 exact dn (hk.pe 21)
 exact dn (hk.pe 21)
 have e100:=hk.pe 21
 have e105:=hk.pe 26
 exact Pk_ e100 rfl qz
 exact dm (hk.pe 27)
 exact dn (hk.pe 28)
 exact dn (hk.pe 28)
 exact dn (hk.pe 28)
 exact dn (hk.pe 28)
 exact dn (hk.pe 28)
 exact dn (hk.pe 33)
 exact dn (hk.pe 33)
 exact dn (hk.pe 33)
 exact dn (hk.pe 33)
 exact dn (hk.pe 28)
 have e107:=hk.pe 28
 have e117:=hk.pe 38
 exact Pk_ e107 rfl qz
 intro F wD hED hini hdo
 refine wk_drop [(1, _), (4, _), (118, _)] ⟨di hini 1, di hini 4, dq hdo 39, trivial⟩ ?_
 clear hini hdo
 replace hp:=hp.ext hED
 refine go ?_
 refine wc_cond_t rfl (go ?_)
 refine P1 results91 ?_
 exact ⟨_, rfl, bool_f (fun h => by have := h.2.2.2.2.2 k (by omega); unfold PkAt at this; first | omega | simp_all | (simp_all; omega)), hp.chg⟩
 by_cases hs13 : BatchMay ((n.picks.getD k pick0).batch) n.group n.epoch
 by_cases hs14 : (n.picks.getD k pick0).dig = dig0
 obtain ⟨aw15, pw15_0, qw15_0, hAw15, hatw15, hIw15, hw15_0⟩ := pickR_el (hn7.fr q4) (k - 1) (by omega)
 apply wdL [SP.eq _, SP.eq _, SP.eq (.bool true), SP.eq (.bool false), SP.eq (.bool false), SP.eq _, SP.eq (.bool true), SP.eq (.bool true), SP.eq _, SP.eq _, SP.eq _, SP.eq _, SP.eq _, SP.eq _, SP.eq _, SP.eq _, SP.eq _, SP.eq _, SP.eq (.bool false), SP.eq (.bool false), SP.eq (.bool false), SP.eq (.bool false), SP.eq _, SP.eq _, SP.eq _, SP.eq (.bool true), SP.eq (.bool false), SP.eq (.bool false), SP.eq (.bool false), SP.eq _, SP.eq _, SP.eq _, SP.eq (.bool true), SP.eq (.bool true), SP.eq _, SP.eq _, SP.eq _, SP.eq _, SP.eq _, SP.eq _]
 refine ⟨?_,?_,?_,?_,?_,?_,?_,?_,?_,?_,?_,?_,?_,?_,?_,?_,?_,?_,?_,?_,?_,?_,?_,?_,?_,?_,?_,?_,?_,?_,?_,?_,?_,?_,?_,?_,?_,?_,?_,?_,trivial⟩<;>intro F wF hER hk
 exact Fd_ 0 fld66_0 (hk.pi 5) rfl qz
 exact Hl_ 0 sc3 (hk.pe 0) (hp.ext hER) rfl rfl qz
 have e80:=hk.pe 1
 refine Cl_ cl52 (by simp only [evs, ev, e80]; first | done | rfl) (r12_within) ?_
 rintro _ _ ⟨rfl, rfl⟩
 exact t0_rNewMay_ok
 have e81:=hk.pe 2
 first | exact Nd_ e81 qz | exact Nn_ e81 qz
 exact dm (hk.pe 3)
 have e4:=hk.pi 4
 have e83:=hk.pe 4
 refine wl_gyes rfl e83 ?_
 exact Mv_ e4 qz
 have e84:=hk.pe 5
 have e83:=hk.pe 4
 refine wl_gyes rfl e83 ?_
 refine Gt_ e84 rfl ?_
 exact t1_rNewMay_ok
 have e85:=hk.pe 6
 have e83:=hk.pe 4
 refine wl_gyes rfl e83 ?_
 exact Mv_ e85 qz
 have e5:=hk.pi 5
 have e86:=hk.pe 7
 refine wl_gyes rfl e86 ?_
 exact Fd_ 0 fld66_0 e5 rfl qz
 have e87:=hk.pe 8
 have e86:=hk.pe 7
 refine wl_gyes rfl e86 ?_
 exact Hl_ 0 sc3 e87 (hp.ext hER) rfl rfl qz
 have e88:=hk.pe 9
 have e86:=hk.pe 7
 refine wl_gyes rfl e86 ?_
 exact wl_sub (by decide) e88 rfl (w64 (by omega) (by omega)) qz
 have e1:=hk.pi 1
 have e86:=hk.pe 7
 refine wl_gyes rfl e86 ?_
 exact Fd_ 52 fld38_13 e1 rfl qz
 have e90:=hk.pe 11
 have e86:=hk.pe 7
 refine wl_gyes rfl e86 ?_
 exact Hl_ 1 sc35 e90 (hp.ext hER) rfl rfl qz
 have e4:=hk.pi 4
 have e86:=hk.pe 7
 refine wl_gyes rfl e86 ?_
 exact Mv_ e4 qz
 have e92:=hk.pe 13
 have e86:=hk.pe 7
 refine wl_gyes rfl e86 ?_
 exact wl_sub (by decide) e92 rfl (w64 (by omega) (by omega)) qz
 have e91:=hk.pe 12
 have e93:=hk.pe 14
 have e86:=hk.pe 7
 refine wl_gyes rfl e86 ?_
 exact wl_idx0 (by decide) sl35 e91 e93 hAw15 (k - 1) (by omega) (by omega) qz
 have e94:=hk.pe 15
 have e86:=hk.pe 7
 refine wl_gyes rfl e86 ?_
 exact Fe_ fld66_0 e94 qz
 have e95:=hk.pe 16
 have e86:=hk.pe 7
 refine wl_gyes rfl e86 ?_
 exact Ld_ sc3 e95 ((hatw15.ext hER).get rfl) qz
 have e89:=hk.pe 10
 have e96:=hk.pe 17
 have e86:=hk.pe 7
 refine wl_gyes rfl e86 ?_
 refine Ne_ e89 e96 ?_
 exact wl_re (k := 97) (v := .bool false) rfl (congrArg Value.bool (decide_eq_false (by first | exact hs12 | omega | simpa using hs12))) qy
 have e86:=hk.pe 7
 have e97:=hk.pe 18
 have e83:=hk.pe 4
 refine wl_gyes rfl e83 ?_
 exact Pk_ e86 e97 qz
 have e83:=hk.pe 4
 have e98:=hk.pe 19
 exact Pk_ e83 e98 qz
 exact dm (hk.pe 20)
 have e5:=hk.pi 5
 have e100:=hk.pe 21
 refine wl_gyes rfl e100 ?_
 exact Fd_ 33 fld66_2 e5 rfl qz
 have e101:=hk.pe 22
 have e100:=hk.pe 21
 refine wl_gyes rfl e100 ?_
 exact Hl_ 0 sc24 e101 (hp.ext hER) rfl rfl qz
 have e1:=hk.pi 1
 have e100:=hk.pe 21
 refine wl_gyes rfl e100 ?_
 exact t2_rNewMay_ok
 have e102:=hk.pe 23
 have e103:=hk.pe 24
 have e100:=hk.pe 21
 refine wl_gyes rfl e100 ?_
 have hcl:=rBatchMay_ok ((he3_0.fr q4).ext hER) ⟨hIn, _, _, _, _, _, _, _, _, _, _, _, _, _, _, _, _, _, _, _, _, _, _, rfl, ((hn0.fr q4).ext hER), ((hn1.fr q4).ext hER), ((hn2.fr q4).ext hER), ((hn3.fr q4).ext hER), ((hn4.fr q4).ext hER), ((hn5.fr q4).ext hER), ((hn6.fr q4).ext hER), ((hn7.fr q4).ext hER), ((hn8.fr q4).ext hER), ((hn9.fr q4).ext hER), ((hn10.fr q4).ext hER)⟩
 refine Cl_ cl90 (by simp only [evs, ev, e102, e103]; first | done | rfl) hcl ?_
 clear hcl
 rintro _ w7 ⟨rfl, hE7⟩
 refine wl_re (k := 104) (v := .bool true) rfl (congrArg Value.bool (decide_eq_true (by first | exact hs13 | omega | simpa using hs13))) ?_
 exact qy ⟨hE7, rfl⟩
 have e104:=hk.pe 25
 have e100:=hk.pe 21
 refine wl_gyes rfl e100 ?_
 first | exact Nd_ e104 qz | exact Nn_ e104 qz
 have e100:=hk.pe 21
 have e105:=hk.pe 26
 exact Pk_ e100 e105 qz
 exact dm (hk.pe 27)
 have e5:=hk.pi 5
 have e107:=hk.pe 28
 refine wl_gyes rfl e107 ?_
 exact Fd_ 1 fld66_1 e5 rfl qz
 have e108:=hk.pe 29
 have e107:=hk.pe 28
 refine wl_gyes rfl e107 ?_
 exact Hx_ (digC ((n.picks.getD k pick0).dig)) 0 ag23 e108 (hp.ext hER) rfl rfl rfl qz
 have e107:=hk.pe 28
 refine wl_gyes rfl e107 ?_
 exact wl_builtS (cells := digC dig0) (ps := []) (by decide) bld23 (by simp only [evp]; first | done | rfl) rfl qz
 have e109:=hk.pe 30
 have e110:=hk.pe 31
 have e107:=hk.pe 28
 refine wl_gyes rfl e107 ?_
 refine wl_eqlK (m := 6) ((n.picks.getD k pick0).dig = dig0) (by decide) key23 eg23 e109 e110 (digC_fit _) (digC_fit _) digC_inj ?_
 exact wl_re (k := 111) (v := .bool true) rfl (congrArg Value.bool (decide_eq_true (by first | exact hs14 | omega | simpa using hs14))) qy
 have e111:=hk.pe 32
 have e107:=hk.pe 28
 refine wl_gyes rfl e107 ?_
 exact Mv_ e111 qz
 have e5:=hk.pi 5
 have e112:=hk.pe 33
 refine wl_gyes rfl e112 ?_
 exact Fd_ 33 fld66_2 e5 rfl qz
 have e113:=hk.pe 34
 have e112:=hk.pe 33
 refine wl_gyes rfl e112 ?_
 exact Hl_ 0 sc24 e113 (hp.ext hER) rfl rfl qz
 have e114:=hk.pe 35
 have e112:=hk.pe 33
 refine wl_gyes rfl e112 ?_
 exact Ln_ underlying24 e114 qz
 have e115:=hk.pe 36
 have e112:=hk.pe 33
 refine wl_gyes rfl e112 ?_
 exact Gt_ e115 rfl qz
 have e112:=hk.pe 33
 have e116:=hk.pe 37
 have e107:=hk.pe 28
 refine wl_gyes rfl e107 ?_
 exact Pk_ e112 e116 qz
 have e107:=hk.pe 28
 have e117:=hk.pe 38
 exact Pk_ e107 e117 qz
 intro F wD hED hini hdo
 refine wk_drop [(1, _), (4, _), (118, _)] ⟨di hini 1, di hini 4, dq hdo 39, trivial⟩ ?_
 clear hini hdo
 replace q4:=q4.ext hED
 replace hp:=hp.ext hED
 refine go ?_
 refine Cd (fun hc15 => ?_) fun hc15 => ?_
 refine go ?_
 refine P1 results91 ?_
 exact ⟨_, rfl, bool_f (fun h => by have := h.2.2.2.2.2 k (by omega); unfold PkAt at this; first | omega | simp_all | (simp_all; omega)), hp.chg⟩
 refine go ?_
 refine wl_add (by decide) rfl rfl (w64 (by omega) (by omega)) (gl ?_)
 refine wk_drop [(1, pt gs1 0), (4, iv ((k + 1) : Int))] ⟨rfl, rfl, trivial⟩ (hKL2 _ _ (m2 := n.picks.length - (k + 1)) ?_ ?_)
 refine ⟨(k + 1), rfl, ?_, ?_, ?_, ?_, ?_, ?_, ?_, ?_, ?_, ?_, ?_, ?_, ?_, ?_, rfl⟩
 omega
 refine upto hps ⟨by omega, by omega, fun _ => by omega, by simp_all, by simp_all⟩
 exact (hn0.fr q4)
 exact (hn1.fr q4)
 exact (hn2.fr q4)
 exact (hn3.fr q4)
 exact (hn4.fr q4)
 exact (hn5.fr q4)
 exact (hn6.fr q4)
 exact (hn7.fr q4)
 exact (hn8.fr q4)
 exact (hn9.fr q4)
 exact (hn10.fr q4)
 exact hp.tail
 omega
 obtain ⟨aw15, pw15_0, qw15_0, hAw15, hatw15, hIw15, hw15_0⟩ := pickR_el (hn7.fr q4) (k - 1) (by omega)
 apply wdL [SP.eq _, SP.eq _, SP.eq (.bool true), SP.eq (.bool false), SP.eq (.bool false), SP.eq _, SP.eq (.bool true), SP.eq (.bool true), SP.eq _, SP.eq _, SP.eq _, SP.eq _, SP.eq _, SP.eq _, SP.eq _, SP.eq _, SP.eq _, SP.eq _, SP.eq (.bool false), SP.eq (.bool false), SP.eq (.bool false), SP.eq (.bool false), SP.eq _, SP.eq _, SP.eq _, SP.eq (.bool true), SP.eq (.bool false), SP.eq (.bool false), SP.eq (.bool false), SP.eq _, SP.eq _, SP.eq _, SP.eq (.bool false), SP.eq (.bool false), SP.eq undef, SP.eq undef, SP.eq undef, SP.eq undef, SP.eq (.bool false), SP.eq (.bool false)]
 refine ⟨?_,?_,?_,?_,?_,?_,?_,?_,?_,?_,?_,?_,?_,?_,?_,?_,?_,?_,?_,?_,?_,?_,?_,?_,?_,?_,?_,?_,?_,?_,?_,?_,?_,?_,?_,?_,?_,?_,?_,?_,trivial⟩<;>intro F wF hER hk
 exact Fd_ 0 fld66_0 (hk.pi 5) rfl qz
 exact Hl_ 0 sc3 (hk.pe 0) (hp.ext hER) rfl rfl qz
 have e80:=hk.pe 1
 refine Cl_ cl52 (by simp only [evs, ev, e80]; first | done | rfl) (r12_within) ?_
 rintro _ _ ⟨rfl, rfl⟩
 exact t0_rNewMay_ok
 have e81:=hk.pe 2
 first | exact Nd_ e81 qz | exact Nn_ e81 qz
 exact dm (hk.pe 3)
 have e4:=hk.pi 4
 have e83:=hk.pe 4
 refine wl_gyes rfl e83 ?_
 exact Mv_ e4 qz
 have e84:=hk.pe 5
 have e83:=hk.pe 4
 refine wl_gyes rfl e83 ?_
 refine Gt_ e84 rfl ?_
 exact t1_rNewMay_ok
 have e85:=hk.pe 6
 have e83:=hk.pe 4
 refine wl_gyes rfl e83 ?_
 exact Mv_ e85 qz
 have e5:=hk.pi 5
 have e86:=hk.pe 7
 refine wl_gyes rfl e86 ?_
 exact Fd_ 0 fld66_0 e5 rfl qz
 have e87:=hk.pe 8
 have e86:=hk.pe 7
 refine wl_gyes rfl e86 ?_
 exact Hl_ 0 sc3 e87 (hp.ext hER) rfl rfl qz
 have e88:=hk.pe 9
 have e86:=hk.pe 7
 refine wl_gyes rfl e86 ?_
 exact wl_sub (by decide) e88 rfl (w64 (by omega) (by omega)) qz
 have e1:=hk.pi 1
 have e86:=hk.pe 7
 refine wl_gyes rfl e86 ?_
 exact Fd_ 52 fld38_13 e1 rfl qz
 have e90:=hk.pe 11
 have e86:=hk.pe 7
 refine wl_gyes rfl e86 ?_
 exact Hl_ 1 sc35 e90 (hp.ext hER) rfl rfl qz
 have e4:=hk.pi 4
 have e86:=hk.pe 7
 refine wl_gyes rfl e86 ?_
 exact Mv_ e4 qz
 have e92:=hk.pe 13
 have e86:=hk.pe 7
 refine wl_gyes rfl e86 ?_
 exact wl_sub (by decide) e92 rfl (w64 (by omega) (by omega)) qz
 have e91:=hk.pe 12
 have e93:=hk.pe 14
 have e86:=hk.pe 7
 refine wl_gyes rfl e86 ?_
 exact wl_idx0 (by decide) sl35 e91 e93 hAw15 (k - 1) (by omega) (by omega) qz
 have e94:=hk.pe 15
 have e86:=hk.pe 7
 refine wl_gyes rfl e86 ?_
 exact Fe_ fld66_0 e94 qz
 have e95:=hk.pe 16
 have e86:=hk.pe 7
 refine wl_gyes rfl e86 ?_
 exact Ld_ sc3 e95 ((hatw15.ext hER).get rfl) qz
 have e89:=hk.pe 10
 have e96:=hk.pe 17
 have e86:=hk.pe 7
 refine wl_gyes rfl e86 ?_
 refine Ne_ e89 e96 ?_
 exact wl_re (k := 97) (v := .bool false) rfl (congrArg Value.bool (decide_eq_false (by first | exact hs12 | omega | simpa using hs12))) qy
 have e86:=hk.pe 7
 have e97:=hk.pe 18
 have e83:=hk.pe 4
 refine wl_gyes rfl e83 ?_
 exact Pk_ e86 e97 qz
 have e83:=hk.pe 4
 have e98:=hk.pe 19
 exact Pk_ e83 e98 qz
 exact dm (hk.pe 20)
 have e5:=hk.pi 5
 have e100:=hk.pe 21
 refine wl_gyes rfl e100 ?_
 exact Fd_ 33 fld66_2 e5 rfl qz
 have e101:=hk.pe 22
 have e100:=hk.pe 21
 refine wl_gyes rfl e100 ?_
 exact Hl_ 0 sc24 e101 (hp.ext hER) rfl rfl qz
 have e1:=hk.pi 1
 have e100:=hk.pe 21
 refine wl_gyes rfl e100 ?_
 exact t2_rNewMay_ok
 have e102:=hk.pe 23
 have e103:=hk.pe 24
 have e100:=hk.pe 21
 refine wl_gyes rfl e100 ?_
 have hcl:=rBatchMay_ok ((he3_0.fr q4).ext hER) ⟨hIn, _, _, _, _, _, _, _, _, _, _, _, _, _, _, _, _, _, _, _, _, _, _, rfl, ((hn0.fr q4).ext hER), ((hn1.fr q4).ext hER), ((hn2.fr q4).ext hER), ((hn3.fr q4).ext hER), ((hn4.fr q4).ext hER), ((hn5.fr q4).ext hER), ((hn6.fr q4).ext hER), ((hn7.fr q4).ext hER), ((hn8.fr q4).ext hER), ((hn9.fr q4).ext hER), ((hn10.fr q4).ext hER)⟩
 refine Cl_ cl90 (by simp only [evs, ev, e102, e103]; first | done | rfl) hcl ?_
 clear hcl
 rintro _ w7 ⟨rfl, hE7⟩
 refine wl_re (k := 104) (v := .bool true) rfl (congrArg Value.bool (decide_eq_true (by first | exact hs13 | omega | simpa using hs13))) ?_
 exact qy ⟨hE7, rfl⟩
 have e104:=hk.pe 25
 have e100:=hk.pe 21
 refine wl_gyes rfl e100 ?_
 first | exact Nd_ e104 qz | exact Nn_ e104 qz
 have e100:=hk.pe 21
 have e105:=hk.pe 26
 exact Pk_ e100 e105 qz
 exact dm (hk.pe 27)
 have e5:=hk.pi 5
 have e107:=hk.pe 28
 refine wl_gyes rfl e107 ?_
 exact Fd_ 1 fld66_1 e5 rfl qz
 have e108:=hk.pe 29
 have e107:=hk.pe 28
 refine wl_gyes rfl e107 ?_
 exact Hx_ (digC ((n.picks.getD k pick0).dig)) 0 ag23 e108 (hp.ext hER) rfl rfl rfl qz
 have e107:=hk.pe 28
 refine wl_gyes rfl e107 ?_
 exact wl_builtS (cells := digC dig0) (ps := []) (by decide) bld23 (by simp only [evp]; first | done | rfl) rfl qz
 have e109:=hk.pe 30
 have e110:=hk.pe 31
 have e107:=hk.pe 28
 refine wl_gyes rfl e107 ?_
 refine wl_eqlK (m := 6) ((n.picks.getD k pick0).dig = dig0) (by decide) key23 eg23 e109 e110 (digC_fit _) (digC_fit _) digC_inj ?_
 exact wl_re (k := 111) (v := .bool false) rfl (congrArg Value.bool (decide_eq_false (by first | exact hs14 | omega | simpa using hs14))) qy
 have e111:=hk.pe 32
 have e107:=hk.pe 28
 refine wl_gyes rfl e107 ?_
 exact Mv_ e111 qz
 exact dn (hk.pe 33)
 exact dn (hk.pe 33)
 exact dn (hk.pe 33)
 exact dn (hk.pe 33)
 have e112:=hk.pe 33
 have e116:=hk.pe 37
 have e107:=hk.pe 28
 refine wl_gyes rfl e107 ?_
 exact Pk_ e112 rfl qz
 have e107:=hk.pe 28
 have e117:=hk.pe 38
 exact Pk_ e107 e117 qz
 intro F wD hED hini hdo
 refine wk_drop [(1, _), (4, _), (118, _)] ⟨di hini 1, di hini 4, dq hdo 39, trivial⟩ ?_
 clear hini hdo
 replace q4:=q4.ext hED
 replace hp:=hp.ext hED
 refine go ?_
 refine wc_cond_f rfl ?_
 refine go ?_
 refine wl_add (by decide) rfl rfl (w64 (by omega) (by omega)) (gl ?_)
 refine wk_drop [(1, pt gs1 0), (4, iv ((k + 1) : Int))] ⟨rfl, rfl, trivial⟩ (hKL2 _ _ (m2 := n.picks.length - (k + 1)) ?_ ?_)
 refine ⟨(k + 1), rfl, ?_, ?_, ?_, ?_, ?_, ?_, ?_, ?_, ?_, ?_, ?_, ?_, ?_, ?_, rfl⟩
 omega
 refine upto hps ⟨by omega, by omega, fun _ => by omega, by simp_all, by simp_all⟩
 exact (hn0.fr q4)
 exact (hn1.fr q4)
 exact (hn2.fr q4)
 exact (hn3.fr q4)
 exact (hn4.fr q4)
 exact (hn5.fr q4)
 exact (hn6.fr q4)
 exact (hn7.fr q4)
 exact (hn8.fr q4)
 exact (hn9.fr q4)
 exact (hn10.fr q4)
 exact hp.tail
 omega
 obtain ⟨aw15, pw15_0, qw15_0, hAw15, hatw15, hIw15, hw15_0⟩ := pickR_el (hn7.fr q4) (k - 1) (by omega)
 apply wdL [SP.eq _, SP.eq _, SP.eq (.bool true), SP.eq (.bool false), SP.eq (.bool false), SP.eq _, SP.eq (.bool true), SP.eq (.bool true), SP.eq _, SP.eq _, SP.eq _, SP.eq _, SP.eq _, SP.eq _, SP.eq _, SP.eq _, SP.eq _, SP.eq _, SP.eq (.bool false), SP.eq (.bool false), SP.eq (.bool false), SP.eq (.bool false), SP.eq _, SP.eq _, SP.eq _, SP.eq (.bool false), SP.eq (.bool true), SP.eq (.bool true), SP.eq (.bool true), SP.eq undef, SP.eq undef, SP.eq undef, SP.eq undef, SP.eq undef, SP.eq undef, SP.eq undef, SP.eq undef, SP.eq undef, SP.eq undef, SP.eq (.bool true)]
 refine ⟨?_,?_,?_,?_,?_,?_,?_,?_,?_,?_,?_,?_,?_,?_,?_,?_,?_,?_,?_,?_,?_,?_,?_,?_,?_,?_,?_,?_,?_,?_,?_,?_,?_,?_,?_,?_,?_,?_,?_,?_,trivial⟩<;>intro F wF hER hk
 exact Fd_ 0 fld66_0 (hk.pi 5) rfl qz
 exact Hl_ 0 sc3 (hk.pe 0) (hp.ext hER) rfl rfl qz
 have e80:=hk.pe 1
 refine Cl_ cl52 (by simp only [evs, ev, e80]; first | done | rfl) (r12_within) ?_
 rintro _ _ ⟨rfl, rfl⟩
 exact t0_rNewMay_ok
 have e81:=hk.pe 2
 first | exact Nd_ e81 qz | exact Nn_ e81 qz
 exact dm (hk.pe 3)
 have e4:=hk.pi 4
 have e83:=hk.pe 4
 refine wl_gyes rfl e83 ?_
 exact Mv_ e4 qz
 have e84:=hk.pe 5
 have e83:=hk.pe 4
 refine wl_gyes rfl e83 ?_
 refine Gt_ e84 rfl ?_
 exact t1_rNewMay_ok
 have e85:=hk.pe 6
 have e83:=hk.pe 4
 refine wl_gyes rfl e83 ?_
 exact Mv_ e85 qz
 have e5:=hk.pi 5
 have e86:=hk.pe 7
 refine wl_gyes rfl e86 ?_
 exact Fd_ 0 fld66_0 e5 rfl qz
 have e87:=hk.pe 8
 have e86:=hk.pe 7
 refine wl_gyes rfl e86 ?_
 exact Hl_ 0 sc3 e87 (hp.ext hER) rfl rfl qz
 have e88:=hk.pe 9
 have e86:=hk.pe 7
 refine wl_gyes rfl e86 ?_
 exact wl_sub (by decide) e88 rfl (w64 (by omega) (by omega)) qz
 have e1:=hk.pi 1
 have e86:=hk.pe 7
 refine wl_gyes rfl e86 ?_
 exact Fd_ 52 fld38_13 e1 rfl qz
 have e90:=hk.pe 11
 have e86:=hk.pe 7
 refine wl_gyes rfl e86 ?_
 exact Hl_ 1 sc35 e90 (hp.ext hER) rfl rfl qz
 have e4:=hk.pi 4
 have e86:=hk.pe 7
 refine wl_gyes rfl e86 ?_
 exact Mv_ e4 qz
 have e92:=hk.pe 13
 have e86:=hk.pe 7
 refine wl_gyes rfl e86 ?_
 exact wl_sub (by decide) e92 rfl (w64 (by omega) (by omega)) qz
 have e91:=hk.pe 12
 have e93:=hk.pe 14
 have e86:=hk.pe 7
 refine wl_gyes rfl e86 ?_
 exact wl_idx0 (by decide) sl35 e91 e93 hAw15 (k - 1) (by omega) (by omega) qz
 have e94:=hk.pe 15
 have e86:=hk.pe 7
 refine wl_gyes rfl e86 ?_
 exact Fe_ fld66_0 e94 qz
 have e95:=hk.pe 16
 have e86:=hk.pe 7
 refine wl_gyes rfl e86 ?_
 exact Ld_ sc3 e95 ((hatw15.ext hER).get rfl) qz
 have e89:=hk.pe 10
 have e96:=hk.pe 17
 have e86:=hk.pe 7
 refine wl_gyes rfl e86 ?_
 refine Ne_ e89 e96 ?_
 exact wl_re (k := 97) (v := .bool false) rfl (congrArg Value.bool (decide_eq_false (by first | exact hs12 | omega | simpa using hs12))) qy
 have e86:=hk.pe 7
 have e97:=hk.pe 18
 have e83:=hk.pe 4
 refine wl_gyes rfl e83 ?_
 exact Pk_ e86 e97 qz
 have e83:=hk.pe 4
 have e98:=hk.pe 19
 exact Pk_ e83 e98 qz
 exact dm (hk.pe 20)
 have e5:=hk.pi 5
 have e100:=hk.pe 21
 refine wl_gyes rfl e100 ?_
 exact Fd_ 33 fld66_2 e5 rfl qz
 have e101:=hk.pe 22
 have e100:=hk.pe 21
 refine wl_gyes rfl e100 ?_
 exact Hl_ 0 sc24 e101 (hp.ext hER) rfl rfl qz
 have e1:=hk.pi 1
 have e100:=hk.pe 21
 refine wl_gyes rfl e100 ?_
 exact t2_rNewMay_ok
 have e102:=hk.pe 23
 have e103:=hk.pe 24
 have e100:=hk.pe 21
 refine wl_gyes rfl e100 ?_
 have hcl:=rBatchMay_ok ((he3_0.fr q4).ext hER) ⟨hIn, _, _, _, _, _, _, _, _, _, _, _, _, _, _, _, _, _, _, _, _, _, _, rfl, ((hn0.fr q4).ext hER), ((hn1.fr q4).ext hER), ((hn2.fr q4).ext hER), ((hn3.fr q4).ext hER), ((hn4.fr q4).ext hER), ((hn5.fr q4).ext hER), ((hn6.fr q4).ext hER), ((hn7.fr q4).ext hER), ((hn8.fr q4).ext hER), ((hn9.fr q4).ext hER), ((hn10.fr q4).ext hER)⟩
 refine Cl_ cl90 (by simp only [evs, ev, e102, e103]; first | done | rfl) hcl ?_
 clear hcl
 rintro _ w7 ⟨rfl, hE7⟩
 refine wl_re (k := 104) (v := .bool false) rfl (congrArg Value.bool (decide_eq_false (by first | exact hs13 | omega | simpa using hs13))) ?_
 exact qy ⟨hE7, rfl⟩
 have e104:=hk.pe 25
 have e100:=hk.pe 21
 refine wl_gyes rfl e100 ?_
 first | exact Nd_ e104 qz | exact Nn_ e104 qz
 have e100:=hk.pe 21
 have e105:=hk.pe 26
 exact Pk_ e100 e105 qz
 exact dm (hk.pe 27)
 exact dn (hk.pe 28)
 exact dn (hk.pe 28)
 exact dn (hk.pe 28)
 exact dn (hk.pe 28)
 exact dn (hk.pe 28)
 exact dn (hk.pe 33)
 exact dn (hk.pe 33)
 exact dn (hk.pe 33)
 exact dn (hk.pe 33)
 exact dn (hk.pe 28)
 have e107:=hk.pe 28
 have e117:=hk.pe 38
 exact Pk_ e107 rfl qz
 intro F wD hED hini hdo
 refine wk_drop [(1, _), (4, _), (118, _)] ⟨di hini 1, di hini 4, dq hdo 39, trivial⟩ ?_
 clear hini hdo
 replace hp:=hp.ext hED
 refine go ?_
 refine wc_cond_t rfl (go ?_)
 refine P1 results91 ?_
 exact ⟨_, rfl, bool_f (fun h => by have := h.2.2.2.2.2 k (by omega); unfold PkAt at this; first | omega | simp_all | (simp_all; omega)), hp.chg⟩
 by_cases hs16 : BatchMay ((n.picks.getD k pick0).batch) n.group n.epoch
 by_cases hs17 : (n.picks.getD k pick0).dig = dig0
 apply wdL [SP.eq _, SP.eq _, SP.eq (.bool true), SP.eq (.bool false), SP.eq (.bool false), SP.eq _, SP.eq (.bool false), SP.eq (.bool false), SP.eq undef, SP.eq undef, SP.eq undef, SP.eq undef, SP.eq undef, SP.eq undef, SP.eq undef, SP.eq undef, SP.eq undef, SP.eq undef, SP.eq undef, SP.eq (.bool false), SP.eq (.bool false), SP.eq (.bool false), SP.eq _, SP.eq _, SP.eq _, SP.eq (.bool true), SP.eq (.bool false), SP.eq (.bool false), SP.eq (.bool false), SP.eq _, SP.eq _, SP.eq _, SP.eq (.bool true), SP.eq (.bool true), SP.eq _, SP.eq _, SP.eq _, SP.eq _, SP.eq _, SP.eq _]
 refine ⟨?_,?_,?_,?_,?_,?_,?_,?_,?_,?_,?_,?_,?_,?_,?_,?_,?_,?_,?_,?_,?_,?_,?_,?_,?_,?_,?_,?_,?_,?_,?_,?_,?_,?_,?_,?_,?_,?_,?_,?_,trivial⟩<;>intro F wF hER hk
 exact Fd_ 0 fld66_0 (hk.pi 5) rfl qz
 exact Hl_ 0 sc3 (hk.pe 0) (hp.ext hER) rfl rfl qz
 have e80:=hk.pe 1
 refine Cl_ cl52 (by simp only [evs, ev, e80]; first | done | rfl) (r12_within) ?_
 rintro _ _ ⟨rfl, rfl⟩
 exact t0_rNewMay_ok
 have e81:=hk.pe 2
 first | exact Nd_ e81 qz | exact Nn_ e81 qz
 exact dm (hk.pe 3)
 have e4:=hk.pi 4
 have e83:=hk.pe 4
 refine wl_gyes rfl e83 ?_
 exact Mv_ e4 qz
 have e84:=hk.pe 5
 have e83:=hk.pe 4
 refine wl_gyes rfl e83 ?_
 refine Gt_ e84 rfl ?_
 exact wl_re (k := 85) (v := .bool false) rfl (congrArg Value.bool (decide_eq_false (by first | exact hs11 | omega | simpa using hs11))) qy
 have e85:=hk.pe 6
 have e83:=hk.pe 4
 refine wl_gyes rfl e83 ?_
 exact Mv_ e85 qz
 exact dn (hk.pe 7)
 exact dn (hk.pe 7)
 exact dn (hk.pe 7)
 exact dn (hk.pe 7)
 exact dn (hk.pe 7)
 exact dn (hk.pe 7)
 exact dn (hk.pe 7)
 exact dn (hk.pe 7)
 exact dn (hk.pe 7)
 exact dn (hk.pe 7)
 exact dn (hk.pe 7)
 have e86:=hk.pe 7
 have e97:=hk.pe 18
 have e83:=hk.pe 4
 refine wl_gyes rfl e83 ?_
 exact Pk_ e86 rfl qz
 have e83:=hk.pe 4
 have e98:=hk.pe 19
 exact Pk_ e83 e98 qz
 exact dm (hk.pe 20)
 have e5:=hk.pi 5
 have e100:=hk.pe 21
 refine wl_gyes rfl e100 ?_
 exact Fd_ 33 fld66_2 e5 rfl qz
 have e101:=hk.pe 22
 have e100:=hk.pe 21
 refine wl_gyes rfl e100 ?_
 exact Hl_ 0 sc24 e101 (hp.ext hER) rfl rfl qz
 have e1:=hk.pi 1
 have e100:=hk.pe 21
 refine wl_gyes rfl e100 ?_
 exact t2_rNewMay_ok
 have e102:=hk.pe 23
 have e103:=hk.pe 24
 have e100:=hk.pe 21
 refine wl_gyes rfl e100 ?_
 have hcl:=rBatchMay_ok ((he3_0.fr q4).ext hER) ⟨hIn, _, _, _, _, _, _, _, _, _, _, _, _, _, _, _, _, _, _, _, _, _, _, rfl, ((hn0.fr q4).ext hER), ((hn1.fr q4).ext hER), ((hn2.fr q4).ext hER), ((hn3.fr q4).ext hER), ((hn4.fr q4).ext hER), ((hn5.fr q4).ext hER), ((hn6.fr q4).ext hER), ((hn7.fr q4).ext hER), ((hn8.fr q4).ext hER), ((hn9.fr q4).ext hER), ((hn10.fr q4).ext hER)⟩
 refine Cl_ cl90 (by simp only [evs, ev, e102, e103]; first | done | rfl) hcl ?_
 clear hcl
 rintro _ w7 ⟨rfl, hE7⟩
 refine wl_re (k := 104) (v := .bool true) rfl (congrArg Value.bool (decide_eq_true (by first | exact hs16 | omega | simpa using hs16))) ?_
 exact qy ⟨hE7, rfl⟩
 have e104:=hk.pe 25
 have e100:=hk.pe 21
 refine wl_gyes rfl e100 ?_
 first | exact Nd_ e104 qz | exact Nn_ e104 qz
 have e100:=hk.pe 21
 have e105:=hk.pe 26
 exact Pk_ e100 e105 qz
 exact dm (hk.pe 27)
 have e5:=hk.pi 5
 have e107:=hk.pe 28
 refine wl_gyes rfl e107 ?_
 exact Fd_ 1 fld66_1 e5 rfl qz
 have e108:=hk.pe 29
 have e107:=hk.pe 28
 refine wl_gyes rfl e107 ?_
 exact Hx_ (digC ((n.picks.getD k pick0).dig)) 0 ag23 e108 (hp.ext hER) rfl rfl rfl qz
 have e107:=hk.pe 28
 refine wl_gyes rfl e107 ?_
 exact wl_builtS (cells := digC dig0) (ps := []) (by decide) bld23 (by simp only [evp]; first | done | rfl) rfl qz
 have e109:=hk.pe 30
 have e110:=hk.pe 31
 have e107:=hk.pe 28
 refine wl_gyes rfl e107 ?_
 refine wl_eqlK (m := 6) ((n.picks.getD k pick0).dig = dig0) (by decide) key23 eg23 e109 e110 (digC_fit _) (digC_fit _) digC_inj ?_
 exact wl_re (k := 111) (v := .bool true) rfl (congrArg Value.bool (decide_eq_true (by first | exact hs17 | omega | simpa using hs17))) qy
 have e111:=hk.pe 32
 have e107:=hk.pe 28
 refine wl_gyes rfl e107 ?_
 exact Mv_ e111 qz
 have e5:=hk.pi 5
 have e112:=hk.pe 33
 refine wl_gyes rfl e112 ?_
 exact Fd_ 33 fld66_2 e5 rfl qz
 have e113:=hk.pe 34
 have e112:=hk.pe 33
 refine wl_gyes rfl e112 ?_
 exact Hl_ 0 sc24 e113 (hp.ext hER) rfl rfl qz
 have e114:=hk.pe 35
 have e112:=hk.pe 33
 refine wl_gyes rfl e112 ?_
 exact Ln_ underlying24 e114 qz
 have e115:=hk.pe 36
 have e112:=hk.pe 33
 refine wl_gyes rfl e112 ?_
 exact Gt_ e115 rfl qz
 have e112:=hk.pe 33
 have e116:=hk.pe 37
 have e107:=hk.pe 28
 refine wl_gyes rfl e107 ?_
 exact Pk_ e112 e116 qz
 have e107:=hk.pe 28
 have e117:=hk.pe 38
 exact Pk_ e107 e117 qz
 intro F wD hED hini hdo
 refine wk_drop [(1, _), (4, _), (118, _)] ⟨di hini 1, di hini 4, dq hdo 39, trivial⟩ ?_
 clear hini hdo
 replace q4:=q4.ext hED
 replace hp:=hp.ext hED
 refine go ?_
 refine Cd (fun hc18 => ?_) fun hc18 => ?_
 refine go ?_
 refine P1 results91 ?_
 exact ⟨_, rfl, bool_f (fun h => by have := h.2.2.2.2.2 k (by omega); unfold PkAt at this; first | omega | simp_all | (simp_all; omega)), hp.chg⟩
 refine go ?_
 refine wl_add (by decide) rfl rfl (w64 (by omega) (by omega)) (gl ?_)
 refine wk_drop [(1, pt gs1 0), (4, iv ((k + 1) : Int))] ⟨rfl, rfl, trivial⟩ (hKL2 _ _ (m2 := n.picks.length - (k + 1)) ?_ ?_)
 refine ⟨(k + 1), rfl, ?_, ?_, ?_, ?_, ?_, ?_, ?_, ?_, ?_, ?_, ?_, ?_, ?_, ?_, rfl⟩
 omega
 refine upto hps ⟨by omega, by omega, fun _ => by omega, by simp_all, by simp_all⟩
 exact (hn0.fr q4)
 exact (hn1.fr q4)
 exact (hn2.fr q4)
 exact (hn3.fr q4)
 exact (hn4.fr q4)
 exact (hn5.fr q4)
 exact (hn6.fr q4)
 exact (hn7.fr q4)
 exact (hn8.fr q4)
 exact (hn9.fr q4)
 exact (hn10.fr q4)
 exact hp.tail
 omega
 apply wdL [SP.eq _, SP.eq _, SP.eq (.bool true), SP.eq (.bool false), SP.eq (.bool false), SP.eq _, SP.eq (.bool false), SP.eq (.bool false), SP.eq undef, SP.eq undef, SP.eq undef, SP.eq undef, SP.eq undef, SP.eq undef, SP.eq undef, SP.eq undef, SP.eq undef, SP.eq undef, SP.eq undef, SP.eq (.bool false), SP.eq (.bool false), SP.eq (.bool false), SP.eq _, SP.eq _, SP.eq _, SP.eq (.bool true), SP.eq (.bool false), SP.eq (.bool false), SP.eq (.bool false), SP.eq _, SP.eq _, SP.eq _, SP.eq (.bool false), SP.eq (.bool false), SP.eq undef, SP.eq undef, SP.eq undef, SP.eq undef, SP.eq (.bool false), SP.eq (.bool false)]
 refine ⟨?_,?_,?_,?_,?_,?_,?_,?_,?_,?_,?_,?_,?_,?_,?_,?_,?_,?_,?_,?_,?_,?_,?_,?_,?_,?_,?_,?_,?_,?_,?_,?_,?_,?_,?_,?_,?_,?_,?_,?_,trivial⟩<;>intro F wF hER hk
 exact Fd_ 0 fld66_0 (hk.pi 5) rfl qz
 exact Hl_ 0 sc3 (hk.pe 0) (hp.ext hER) rfl rfl qz
 have e80:=hk.pe 1
 refine Cl_ cl52 (by simp only [evs, ev, e80]; first | done | rfl) (r12_within) ?_
 rintro _ _ ⟨rfl, rfl⟩
 exact t0_rNewMay_ok
 have e81:=hk.pe 2
 first | exact Nd_ e81 qz | exact Nn_ e81 qz
 exact dm (hk.pe 3)
 have e4:=hk.pi 4
 have e83:=hk.pe 4
 refine wl_gyes rfl e83 ?_
 exact Mv_ e4 qz
 have e84:=hk.pe 5
 have e83:=hk.pe 4
 refine wl_gyes rfl e83 ?_
 refine Gt_ e84 rfl ?_
 exact wl_re (k := 85) (v := .bool false) rfl (congrArg Value.bool (decide_eq_false (by first | exact hs11 | omega | simpa using hs11))) qy
 have e85:=hk.pe 6
 have e83:=hk.pe 4
 refine wl_gyes rfl e83 ?_
 exact Mv_ e85 qz
 exact dn (hk.pe 7)
 exact dn (hk.pe 7)
 exact dn (hk.pe 7)
 exact dn (hk.pe 7)
 exact dn (hk.pe 7)
 exact dn (hk.pe 7)
 exact dn (hk.pe 7)
 exact dn (hk.pe 7)
 exact dn (hk.pe 7)
 exact dn (hk.pe 7)
 exact dn (hk.pe 7)
 have e86:=hk.pe 7
 have e97:=hk.pe 18
 have e83:=hk.pe 4
 refine wl_gyes rfl e83 ?_
 exact Pk_ e86 rfl qz
 have e83:=hk.pe 4
 have e98:=hk.pe 19
 exact Pk_ e83 e98 qz
 exact dm (hk.pe 20)
 have e5:=hk.pi 5
 have e100:=hk.pe 21
 refine wl_gyes rfl e100 ?_
 exact Fd_ 33 fld66_2 e5 rfl qz
 have e101:=hk.pe 22
 have e100:=hk.pe 21
 refine wl_gyes rfl e100 ?_
 exact Hl_ 0 sc24 e101 (hp.ext hER) rfl rfl qz
 have e1:=hk.pi 1
 have e100:=hk.pe 21
 refine wl_gyes rfl e100 ?_
 exact t2_rNewMay_ok
 have e102:=hk.pe 23
 have e103:=hk.pe 24
 have e100:=hk.pe 21
 refine wl_gyes rfl e100 ?_
 have hcl:=rBatchMay_ok ((he3_0.fr q4).ext hER) ⟨hIn, _, _, _, _, _, _, _, _, _, _, _, _, _, _, _, _, _, _, _, _, _, _, rfl, ((hn0.fr q4).ext hER), ((hn1.fr q4).ext hER), ((hn2.fr q4).ext hER), ((hn3.fr q4).ext hER), ((hn4.fr q4).ext hER), ((hn5.fr q4).ext hER), ((hn6.fr q4).ext hER), ((hn7.fr q4).ext hER), ((hn8.fr q4).ext hER), ((hn9.fr q4).ext hER), ((hn10.fr q4).ext hER)⟩
 refine Cl_ cl90 (by simp only [evs, ev, e102, e103]; first | done | rfl) hcl ?_
 clear hcl
 rintro _ w7 ⟨rfl, hE7⟩
 refine wl_re (k := 104) (v := .bool true) rfl (congrArg Value.bool (decide_eq_true (by first | exact hs16 | omega | simpa using hs16))) ?_
 exact qy ⟨hE7, rfl⟩
 have e104:=hk.pe 25
 have e100:=hk.pe 21
 refine wl_gyes rfl e100 ?_
 first | exact Nd_ e104 qz | exact Nn_ e104 qz
 have e100:=hk.pe 21
 have e105:=hk.pe 26
 exact Pk_ e100 e105 qz
 exact dm (hk.pe 27)
 have e5:=hk.pi 5
 have e107:=hk.pe 28
 refine wl_gyes rfl e107 ?_
 exact Fd_ 1 fld66_1 e5 rfl qz
 have e108:=hk.pe 29
 have e107:=hk.pe 28
 refine wl_gyes rfl e107 ?_
 exact Hx_ (digC ((n.picks.getD k pick0).dig)) 0 ag23 e108 (hp.ext hER) rfl rfl rfl qz
 have e107:=hk.pe 28
 refine wl_gyes rfl e107 ?_
 exact wl_builtS (cells := digC dig0) (ps := []) (by decide) bld23 (by simp only [evp]; first | done | rfl) rfl qz
 have e109:=hk.pe 30
 have e110:=hk.pe 31
 have e107:=hk.pe 28
 refine wl_gyes rfl e107 ?_
 refine wl_eqlK (m := 6) ((n.picks.getD k pick0).dig = dig0) (by decide) key23 eg23 e109 e110 (digC_fit _) (digC_fit _) digC_inj ?_
 exact wl_re (k := 111) (v := .bool false) rfl (congrArg Value.bool (decide_eq_false (by first | exact hs17 | omega | simpa using hs17))) qy
 have e111:=hk.pe 32
 have e107:=hk.pe 28
 refine wl_gyes rfl e107 ?_
 exact Mv_ e111 qz
 exact dn (hk.pe 33)
 exact dn (hk.pe 33)
 exact dn (hk.pe 33)
 exact dn (hk.pe 33)
 have e112:=hk.pe 33
 have e116:=hk.pe 37
 have e107:=hk.pe 28
 refine wl_gyes rfl e107 ?_
 exact Pk_ e112 rfl qz
 have e107:=hk.pe 28
 have e117:=hk.pe 38
 exact Pk_ e107 e117 qz
 intro F wD hED hini hdo
 refine wk_drop [(1, _), (4, _), (118, _)] ⟨di hini 1, di hini 4, dq hdo 39, trivial⟩ ?_
 clear hini hdo
 replace q4:=q4.ext hED
 replace hp:=hp.ext hED
 refine go ?_
 refine wc_cond_f rfl ?_
 refine go ?_
 refine wl_add (by decide) rfl rfl (w64 (by omega) (by omega)) (gl ?_)
 refine wk_drop [(1, pt gs1 0), (4, iv ((k + 1) : Int))] ⟨rfl, rfl, trivial⟩ (hKL2 _ _ (m2 := n.picks.length - (k + 1)) ?_ ?_)
 refine ⟨(k + 1), rfl, ?_, ?_, ?_, ?_, ?_, ?_, ?_, ?_, ?_, ?_, ?_, ?_, ?_, ?_, rfl⟩
 omega
 refine upto hps ⟨by omega, by omega, fun _ => by omega, by simp_all, by simp_all⟩
 exact (hn0.fr q4)
 exact (hn1.fr q4)
 exact (hn2.fr q4)
 exact (hn3.fr q4)
 exact (hn4.fr q4)
 exact (hn5.fr q4)
 exact (hn6.fr q4)
 exact (hn7.fr q4)
 exact (hn8.fr q4)
 exact (hn9.fr q4)
 exact (hn10.fr q4)
 exact hp.tail
 omega
 apply wdL [SP.eq _, SP.eq _, SP.eq (.bool true), SP.eq (.bool false), SP.eq (.bool false), SP.eq _, SP.eq (.bool false), SP.eq (.bool false), SP.eq undef, SP.eq undef, SP.eq undef, SP.eq undef, SP.eq undef, SP.eq undef, SP.eq undef, SP.eq undef, SP.eq undef, SP.eq undef, SP.eq undef, SP.eq (.bool false), SP.eq (.bool false), SP.eq (.bool false), SP.eq _, SP.eq _, SP.eq _, SP.eq (.bool false), SP.eq (.bool true), SP.eq (.bool true), SP.eq (.bool true), SP.eq undef, SP.eq undef, SP.eq undef, SP.eq undef, SP.eq undef, SP.eq undef, SP.eq undef, SP.eq undef, SP.eq undef, SP.eq undef, SP.eq (.bool true)]
 refine ⟨?_,?_,?_,?_,?_,?_,?_,?_,?_,?_,?_,?_,?_,?_,?_,?_,?_,?_,?_,?_,?_,?_,?_,?_,?_,?_,?_,?_,?_,?_,?_,?_,?_,?_,?_,?_,?_,?_,?_,?_,trivial⟩<;>intro F wF hER hk
 exact Fd_ 0 fld66_0 (hk.pi 5) rfl qz
 exact Hl_ 0 sc3 (hk.pe 0) (hp.ext hER) rfl rfl qz
 have e80:=hk.pe 1
 refine Cl_ cl52 (by simp only [evs, ev, e80]; first | done | rfl) (r12_within) ?_
 rintro _ _ ⟨rfl, rfl⟩
 exact t0_rNewMay_ok
 have e81:=hk.pe 2
 first | exact Nd_ e81 qz | exact Nn_ e81 qz
 exact dm (hk.pe 3)
 have e4:=hk.pi 4
 have e83:=hk.pe 4
 refine wl_gyes rfl e83 ?_
 exact Mv_ e4 qz
 have e84:=hk.pe 5
 have e83:=hk.pe 4
 refine wl_gyes rfl e83 ?_
 refine Gt_ e84 rfl ?_
 exact wl_re (k := 85) (v := .bool false) rfl (congrArg Value.bool (decide_eq_false (by first | exact hs11 | omega | simpa using hs11))) qy
 have e85:=hk.pe 6
 have e83:=hk.pe 4
 refine wl_gyes rfl e83 ?_
 exact Mv_ e85 qz
 exact dn (hk.pe 7)
 exact dn (hk.pe 7)
 exact dn (hk.pe 7)
 exact dn (hk.pe 7)
 exact dn (hk.pe 7)
 exact dn (hk.pe 7)
 exact dn (hk.pe 7)
 exact dn (hk.pe 7)
 exact dn (hk.pe 7)
 exact dn (hk.pe 7)
 exact dn (hk.pe 7)
 have e86:=hk.pe 7
 have e97:=hk.pe 18
 have e83:=hk.pe 4
 refine wl_gyes rfl e83 ?_
 exact Pk_ e86 rfl qz
 have e83:=hk.pe 4
 have e98:=hk.pe 19
 exact Pk_ e83 e98 qz
 exact dm (hk.pe 20)
 have e5:=hk.pi 5
 have e100:=hk.pe 21
 refine wl_gyes rfl e100 ?_
 exact Fd_ 33 fld66_2 e5 rfl qz
 have e101:=hk.pe 22
 have e100:=hk.pe 21
 refine wl_gyes rfl e100 ?_
 exact Hl_ 0 sc24 e101 (hp.ext hER) rfl rfl qz
 have e1:=hk.pi 1
 have e100:=hk.pe 21
 refine wl_gyes rfl e100 ?_
 exact t2_rNewMay_ok
 have e102:=hk.pe 23
 have e103:=hk.pe 24
 have e100:=hk.pe 21
 refine wl_gyes rfl e100 ?_
 have hcl:=rBatchMay_ok ((he3_0.fr q4).ext hER) ⟨hIn, _, _, _, _, _, _, _, _, _, _, _, _, _, _, _, _, _, _, _, _, _, _, rfl, ((hn0.fr q4).ext hER), ((hn1.fr q4).ext hER), ((hn2.fr q4).ext hER), ((hn3.fr q4).ext hER), ((hn4.fr q4).ext hER), ((hn5.fr q4).ext hER), ((hn6.fr q4).ext hER), ((hn7.fr q4).ext hER), ((hn8.fr q4).ext hER), ((hn9.fr q4).ext hER), ((hn10.fr q4).ext hER)⟩
 refine Cl_ cl90 (by simp only [evs, ev, e102, e103]; first | done | rfl) hcl ?_
 clear hcl
 rintro _ w7 ⟨rfl, hE7⟩
 refine wl_re (k := 104) (v := .bool false) rfl (congrArg Value.bool (decide_eq_false (by first | exact hs16 | omega | simpa using hs16))) ?_
 exact qy ⟨hE7, rfl⟩
 have e104:=hk.pe 25
 have e100:=hk.pe 21
 refine wl_gyes rfl e100 ?_
 first | exact Nd_ e104 qz | exact Nn_ e104 qz
 have e100:=hk.pe 21
 have e105:=hk.pe 26
 exact Pk_ e100 e105 qz
 exact dm (hk.pe 27)
 exact dn (hk.pe 28)
 exact dn (hk.pe 28)
 exact dn (hk.pe 28)
 exact dn (hk.pe 28)
 exact dn (hk.pe 28)
 exact dn (hk.pe 33)
 exact dn (hk.pe 33)
 exact dn (hk.pe 33)
 exact dn (hk.pe 33)
 exact dn (hk.pe 28)
 have e107:=hk.pe 28
 have e117:=hk.pe 38
 exact Pk_ e107 rfl qz
 intro F wD hED hini hdo
 refine wk_drop [(1, _), (4, _), (118, _)] ⟨di hini 1, di hini 4, dq hdo 39, trivial⟩ ?_
 clear hini hdo
 replace hp:=hp.ext hED
 refine go ?_
 refine wc_cond_t rfl (go ?_)
 refine P1 results91 ?_
 exact ⟨_, rfl, bool_f (fun h => by have := h.2.2.2.2.2 k (by omega); unfold PkAt at this; first | omega | simp_all | (simp_all; omega)), hp.chg⟩
 apply wdL [SP.eq _, SP.eq _, SP.eq (.bool false), SP.eq (.bool true), SP.eq (.bool true), SP.eq undef, SP.eq undef, SP.eq undef, SP.eq undef, SP.eq undef, SP.eq undef, SP.eq undef, SP.eq undef, SP.eq undef, SP.eq undef, SP.eq undef, SP.eq undef, SP.eq undef, SP.eq undef, SP.eq undef, SP.eq (.bool true), SP.eq (.bool true), SP.eq undef, SP.eq undef, SP.eq undef, SP.eq undef, SP.eq undef, SP.eq (.bool true), SP.eq (.bool true), SP.eq undef, SP.eq undef, SP.eq undef, SP.eq undef, SP.eq undef, SP.eq undef, SP.eq undef, SP.eq undef, SP.eq undef, SP.eq undef, SP.eq (.bool true)]
 refine ⟨?_,?_,?_,?_,?_,?_,?_,?_,?_,?_,?_,?_,?_,?_,?_,?_,?_,?_,?_,?_,?_,?_,?_,?_,?_,?_,?_,?_,?_,?_,?_,?_,?_,?_,?_,?_,?_,?_,?_,?_,trivial⟩<;>intro F wF hER hk
 exact Fd_ 0 fld66_0 (hk.pi 5) rfl qz
 exact Hl_ 0 sc3 (hk.pe 0) (hp.ext hER) rfl rfl qz
 have e80:=hk.pe 1
 refine Cl_ cl52 (by simp only [evs, ev, e80]; first | done | rfl) (r12_within) ?_
 rintro _ _ ⟨rfl, rfl⟩
 exact wl_re (k := 81) (v := .bool false) rfl (congrArg Value.bool (decide_eq_false (by first | exact hs10 | omega | simpa using hs10))) qy
 have e81:=hk.pe 2
 first | exact Nd_ e81 qz | exact Nn_ e81 qz
 exact dm (hk.pe 3)
 exact dn (hk.pe 4)
 exact dn (hk.pe 4)
 exact dn (hk.pe 4)
 exact dn (hk.pe 7)
 exact dn (hk.pe 7)
 exact dn (hk.pe 7)
 exact dn (hk.pe 7)
 exact dn (hk.pe 7)
 exact dn (hk.pe 7)
 exact dn (hk.pe 7)
 exact dn (hk.pe 7)
 exact dn (hk.pe 7)
 exact dn (hk.pe 7)
 exact dn (hk.pe 7)
 exact dn (hk.pe 4)
 have e83:=hk.pe 4
 have e98:=hk.pe 19
 exact Pk_ e83 rfl qz
 exact dm (hk.pe 20)
 exact dn (hk.pe 21)
 exact dn (hk.pe 21)
 exact dn (hk.pe 21)
 exact dn (hk.pe 21)
 exact dn (hk.pe 21)
 have e100:=hk.pe 21
 have e105:=hk.pe 26
 exact Pk_ e100 rfl qz
 exact dm (hk.pe 27)
 exact dn (hk.pe 28)
 exact dn (hk.pe 28)
 exact dn (hk.pe 28)
 exact dn (hk.pe 28)
 exact dn (hk.pe 28)
 exact dn (hk.pe 33)
 exact dn (hk.pe 33)
 exact dn (hk.pe 33)
 exact dn (hk.pe 33)
 exact dn (hk.pe 28)
 have e107:=hk.pe 28
 have e117:=hk.pe 38
 exact Pk_ e107 rfl qz
 intro F wD hED hini hdo
 refine wk_drop [(1, _), (4, _), (118, _)] ⟨di hini 1, di hini 4, dq hdo 39, trivial⟩ ?_
 clear hini hdo
 replace hp:=hp.ext hED
 refine go ?_
 refine wc_cond_t rfl (go ?_)
 refine P1 results91 ?_
 exact ⟨_, rfl, bool_f (fun h => by have := h.2.2.2.2.2 k (by omega); unfold PkAt at this; first | omega | simp_all | (simp_all; omega)), hp.chg⟩
 refine go ?_
 refine P1 results91 ?_
 exact ⟨_, rfl, bool_t ⟨hpre.1, hpre.2.1, hpre.2.2.1, hpre.2.2.2, fun i hi => hcs i (by omega), fun i hi => hps i (by omega)⟩, hp.chg⟩
set_option maxHeartbeats 40000000 in
theorem wBatch_ok {Al : Option Addr} {cl : Nat} {l : List Wsh} {Sl : Nat → Prop} (hl : GS wishR Sl w Al cl l) (hok : batchOk l) : Ret prog 179 #[.slice Al l.length cl] w (fun v w' => ∃ A' c', v = .tuple #[.slice A' (blistE l).length c', .int .i64 0] ∧ OwnB 5 w.heap.size w' A' c' (blistE l) ∧ Ext w w') := by
 have hnl : isNum (l.length : Int) := by have := hok.1; unfold isNum; omega
 have hbl4:=hok.1
 have hbe : blistE l = numE (l.length : Int) ++ flatE witemE l := rfl
 refine ret_of_wk func179 rfl ntmps179 leB_ ?_
 have hp:=HP.begin_ w
 refine so ?_
 refine Cd ?_ ?_<;>intro hc<;>refine so ?_
 omega
 refine wl_bsliceI (xs := [.tmp 14]) (l := [(l.length : Int)]) (by decide) sl27 rfl rfl rfl leB_ ?_
 intro gb9 wb9 hbs1 hEb9
 replace hp:=hp.ext hEb9
 have hn1 : flatE numE [(l.length : Int)] = numE (l.length : Int) := by simp [flatE]
 refine Ce (nums_ok (l := [(l.length : Int)]) hbs1 (by intro y hy; rw [List.mem_singleton.1 hy]; exact hnl) leB_) ?_
 rintro _ w9 ⟨A9, c9, rfl, ho9, hE9⟩
 rw [hn1] at ho9 ⊢
 replace hp:=((hp.ownRow hE9 ho9).as_ (H' := itR 5 1 A9 (numE (l.length : Int)).length c9 ((numE (l.length : Int)).map bv) :: _) rfl)
 refine so ?_
 refine wc_loop (fun L' w' mes => ∃ (k : Nat), ∃ (A2 : Option Addr), ∃ (c2 : Nat), L' = [(4, .slice A2 (numE (l.length : Int) ++ flatE witemE (l.take k)).length c2), (17, .slice Al l.length cl), (18, iv (l.length : Int)), (19, iv (k : Int))] ∧ (k ≤ l.length) ∧ (GS wishR (fun b => b < w.heap.size) w' Al cl l) ∧ (HP w (fun _ => False) (fun b => b < w.heap.size) w' (itR 5 1 A2 (numE (l.length : Int) ++ flatE witemE (l.take k)).length c2 ((numE (l.length : Int) ++ flatE witemE (l.take k)).map bv) :: [])) ∧ l.length - k = mes) [(4, .slice A9 (numE (l.length : Int) ++ flatE witemE (l.take 0)).length c9), (17, .slice Al l.length cl), (18, iv (l.length : Int)), (19, iv (0 : Int))] (l.length - 0) (by
     refine ⟨0, A9, c9, rfl, ?_, ?_, ?_, rfl⟩
     · exact Nat.zero_le _
     · exact hl.tn
     · rw [List.take_zero, flatE_nil, List.append_nil]; exact hp) ⟨(by rw [List.take_zero, flatE_nil, List.append_nil]; rfl), rfl, rfl, rfl, trivial⟩ ?_
 rintro _ wr _ ⟨k, A2, c2, rfl, hk, hl, hp, rfl⟩ KL1 hKL1
 refine so ?_
 refine Cd ?_ ?_<;>intro hk8
 have hk9 : k < l.length := by omega
 have hsucc:=flat_takeD witemE l k wish0 hk9
 refine so ?_
 obtain ⟨ae1, pe1_0, qe1_0, pe1_1, qe1_1, hAe1, hate1, hIe1, he1_0, he1_1⟩ := wishR_el hl k (by omega)
 refine so ?_
 refine Alo hp (h := fun gs6 w2 hp hE2 => ?_)
 refine Hs 0 hp (h := fun w3 hp hC3 => so ?_)
 have hmx : WishMay (l.getD k wish0) := getD_may hok.2 hk9
 refine Ce (wBytes_ok (x := (l.getD k wish0)) ⟨hIe1, _, _, _, _, rfl, he1_0.to, he1_1.to⟩ hmx) ?_
 rintro _ w4 ⟨A4, c4, rfl, ho4, hE4⟩
 replace hp:=hp.ext hE4
 refine so ?_
 refine aF (so ?_)
 have hsl : (wishE (l.getD k wish0)).length ≤ 65536 := (by have := (wish_fine hmx).2; omega)
 have hcl:=str_ok ho4.bs
 rw [str_good hsl] at hcl
 dsimp only at hcl
 refine Ce (hcl) ?_
 rintro _ w5 ⟨A5, c5, rfl, ho5, hE5⟩
 replace hp:=hp.ext hE5
 refine so ?_
 refine aF (so ?_)
 have hit8:=strE_len _ hsl
 have hf8:=flatE_len witemE (l.take k) 164 (fun y hy => witem_len (hok.2 y (List.mem_of_mem_take hy)))
 rw [List.length_take] at hf8
 have hn8:=numE_len hnl
 refine wl_happendB (i := 1) (l2 := (strE (wishE (l.getD k wish0)))) (by decide) sl26 rfl rfl hp rfl ho5.bs (by rw [List.length_append]; omega) ?_
 rintro A8 c8 w6 hp hC6
 refine sl ?_
 refine wc_region ?_
 refine sl ?_
 refine wk_drop [(4, .slice A8 (numE (l.length : Int) ++ flatE witemE (l.take (k + 1))).length c8), (17, .slice Al l.length cl), (18, iv (l.length : Int)), (19, iv ((k + 1) : Int))] ⟨(by rw [hsucc, ← List.append_assoc]; rfl), rfl, rfl, rfl, trivial⟩ (hKL1 _ _ (m2 := l.length - (k + 1)) ?_ ?_)
 refine ⟨(k + 1), A8, c8, rfl, by omega, hl.to, ?_, rfl⟩
 rw [hsucc, ← List.append_assoc]; exact hp.tail
 omega
 have hkl : k = l.length := by omega
 refine so ?_
 refine P2 results179 ?_
 subst hkl
 rw [List.take_length] at hp ⊢
 exact ⟨_, rfl, A2, c2, rfl, hp.rowLo (i := 0) rfl, hp.chg⟩
theorem kN_st {out : List UInt8} {n : Int} (hp : HP w0 M0 Fz w (itR 5 1 A out.length c (out.map bv) :: H)) (hn : isNum n := by first | assumption | (unfold isNum; omega)) (hl : out.length + (numE n).length ≤ 1000000 := by (try simp only [List.length_append]); omega) : Ret prog 42 #[.slice A out.length c, .int .i64 n] w (RwP 5 w0 M0 Fz w H (out ++ numE n)) := qNum_ok hp hn hl
theorem rm_st {p : Prop} (h : p := by (try simp only [List.length_append]); omega) : p := h
set_option maxHeartbeats 4000000 in
theorem qStands_ok {out : List UInt8} {l : List Stn} {B : Option Addr} {d : Nat} (hp : HP w0 M0 Fz w (itR 5 1 A out.length c (out.map bv) :: H)) (hl : GS standR Fz w B d l) (hok : ∀ x ∈ l, standOk x) (hnl : isNum (l.length : Int)) (hlen : out.length + (listE standE l).length ≤ 1000000) : Ret prog 77 #[.slice A out.length c, .slice B l.length d] w (RwP 5 w0 M0 Fz w H (out ++ listE standE l)) := by
 simp only [listE, List.length_append] at hlen
 have mx := hl.mx
 refine ret_of_wk func77 rfl ntmps77 leB_ ?_
 refine so ?_
 refine Cr (kN_st (n := (l.length : Int)) hp) fun A1 c1 w1 hp F1 => so ?_
 refine Lp [0, 1, 5] (fun L' w' mes => ∃ (k : Nat), ∃ (A2 : Option Addr), ∃ (c2 : Nat), L' = [(0, .slice A2 (catE standE (out ++ numE (l.length : Int)) l k).length c2), (1, .slice B l.length d), (5, iv (k : Int))] ∧ k ≤ l.length ∧ Frz Fz Fz w w' ∧ HP w0 M0 Fz w' (itR 5 1 A2 (catE standE (out ++ numE (l.length : Int)) l k).length c2 ((catE standE (out ++ numE (l.length : Int)) l k).map bv) :: H) ∧ l.length - k = mes) (l.length - 0) ⟨0, A1, c1, by rw [catE_0]; rfl, Nat.zero_le _, mv, by rw [catE_0]; exact hp, rfl⟩ ?_
 rintro _ wr _ ⟨k, A2, c2, rfl, hk, F2, hp, rfl⟩ KL hKL
 refine so ?_
 refine Cd ?_ ?_ <;> intro hc
 · have hk9 : k < l.length := by omega
   have hr := catE_room (E := standE) (o := out ++ numE (l.length : Int)) stand0 hk9
   simp only [standE, digE, List.length_append] at hr
   obtain ⟨o1, _, o3⟩ := getD_ok hok stand0 hk9
   obtain ⟨ae, hA, hat, hI⟩ := standR_el (hl.to (F := Fz) (w' := wr)) k hk9
   refine so ?_
   refine Cr (kN_st (n := (l.getD k stand0).seq) hp) fun A3 c3 w3 hp F3 => so ?_
   refine wl_sliceA (by decide) ar23 rfl ?_
   have hd3 := hat.to (F := Fz) (w' := w3)
   refine Ar (l2 := (l.getD k stand0).dig.l) hp (((hd3.at_.drop 1).take 32).bs rfl hd3.inS hd3.lt) rm_st (fun A5 c5 w5 hp C5 => so ?_) (hm := by rw [Dig.h])
   refine Cr (kN_st (n := (l.getD k stand0).view) hp) fun A6 c6 w6 hp F6 => so ?_
   have e := catE_s (E := standE) (o := out ++ numE (l.length : Int)) stand0 hk9
   simp only [standE, digE, ← List.append_assoc] at e
   refine Kl [0, 1, 5] hKL (l.length - (k + 1)) ⟨k + 1, A6, c6, by rw [e]; rfl, hk9, mv, by rw [e]; exact hp, rfl⟩ (by omega)
 obtain rfl : k = l.length := by omega
 refine so ?_
 refine Pt ?_
 exact enR hp (by rw [catE_all, listE, List.append_assoc])
set_option maxHeartbeats 40000000 in
theorem qInts_ok {out : List UInt8} {l : List Int} {B : Option Addr} {d : Nat} (hp : HP w0 M0 Fz w (itR 5 1 A out.length c (out.map bv) :: H)) (hl : GS intR Fz w B d l) (hok : ∀ x ∈ l, isNum x) (hnl : isNum (l.length : Int)) (hlen : out.length + (listE numE l).length ≤ 1000000) : Ret prog 45 #[.slice A out.length c, .slice B l.length d] w (RwP 5 w0 M0 Fz w H (out ++ listE numE l)) := by
 simp only [listE, List.length_append] at hlen
 have hnl0:=hnl
 unfold isNum at hnl0
 refine ret_of_wk func45 rfl ntmps45 leB_ ?_
 refine so ?_
 refine Ce (qNum_ok (n := (l.length : Int)) hp (by first | assumption | (unfold isNum; omega)) (by (try simp only [List.length_append]); omega)) ?_
 rintro _ w1 ⟨A1, c1, rfl, hp, hF1⟩
 refine so ?_
 refine wc_loop (fun L' w' mes => ∃ (k : Nat), ∃ (A2 : Option Addr), ∃ (c2 : Nat), L' = [(0, .slice A2 ((out ++ numE (l.length : Int)) ++ flatE numE (l.take k)).length c2), (1, .slice B l.length d), (5, iv (k : Int))] ∧ (k ≤ l.length) ∧ (Frz Fz Fz w w') ∧ (GS intR Fz w' B d l) ∧ (HP w0 M0 Fz w' (itR 5 1 A2 ((out ++ numE (l.length : Int)) ++ flatE numE (l.take k)).length c2 (((out ++ numE (l.length : Int)) ++ flatE numE (l.take k)).map bv) :: H)) ∧ l.length - k = mes) [(0, .slice A1 ((out ++ numE (l.length : Int)) ++ flatE numE (l.take 0)).length c1), (1, .slice B l.length d), (5, iv (0 : Int))] (l.length - 0) (by
     refine ⟨0, A1, c1, rfl, ?_, ?_, ?_, ?_, rfl⟩
     · exact Nat.zero_le _
     · exact mv
     · exact hl.to
     · rw [List.take_zero, flatE_nil, List.append_nil]; exact hp) ⟨(by rw [List.take_zero, flatE_nil, List.append_nil]; rfl), rfl, rfl, trivial⟩ ?_
 rintro _ wr _ ⟨k, A2, c2, rfl, hk, hFr, hl, hp, rfl⟩ KL1 hKL1
 refine so ?_
 refine Cd ?_ ?_<;>intro hlt
 have hk9 : k < l.length := by omega
 have hrm:=flat_roomD numE l k 0 hk9
 (try simp only [List.length_append, digE, List.length_append] at hrm)
 have hko:=getD_ok hok 0 hk9
 refine so ?_
 obtain ⟨ae2, hAe2, hate2⟩ := GS.elI hl k (by omega)
 refine so ?_
 refine Ce (qNum_ok (n := (l.getD k 0)) hp (by first | assumption | (unfold isNum; omega)) (by (try simp only [List.length_append]); omega)) ?_
 rintro _ w3 ⟨A3, c3, rfl, hp, hF3⟩
 refine so ?_
 have hnx : ((out ++ numE (l.length : Int)) ++ flatE numE (l.take (k + 1))) = (((out ++ numE (l.length : Int)) ++ flatE numE (l.take k)) ++ numE (l.getD k 0)) := by
   rw [flat_takeD numE l k 0 hk9]
   simp only [← List.append_assoc]
 refine wk_drop [(0, .slice A3 ((out ++ numE (l.length : Int)) ++ flatE numE (l.take (k + 1))).length c3), (1, .slice B l.length d), (5, iv ((k + 1) : Int))] ⟨(by rw [hnx]; rfl), rfl, rfl, trivial⟩ (hKL1 _ _ (m2 := l.length - (k + 1)) ?_ ?_)
 refine ⟨(k + 1), A3, c3, rfl, by omega, mv, hl.to, ?_, rfl⟩
 rw [hnx]; exact hp
 omega
 obtain rfl : k = l.length := by omega
 refine so ?_
 refine Pt ?_
 rw [List.take_length, List.append_assoc] at hp
 exact ⟨_, by rw [List.take_length, List.append_assoc]; rfl, _, _, rfl, hp.less hFr.sub, hFr.chg, fun _ h => h⟩
set_option maxHeartbeats 40000000 in
theorem rAnswer_ok {gr : Nat} {l : List UInt8} {bad : Bool} {X : List Value → It} {pX : Addr} (hp : HP w0 M0 Fz w (itB gr 103 [.slice A l.length c, .bool bad] :: X ([.int .i64 0, .slice none 0 0, .int .i64 0, .slice none 0 0]) :: H)) (hS : Slot X pX 4) (hl : GS byteR Fz w A c l) : Ret prog 108 #[.iface 101 (.pointer (some ⟨gr, 0, none⟩)), .pointer (some pX)] w (RdP 103 gr w0 M0 Fz w H X ansR ansP bad l) := by
 refine ret_of_wk func108 rfl ntmps108 leB_ ?_
 refine so ?_
 rw [add_zero']
 refine Ld_ sc25 rfl (hp.slotAt (i := 1) hS rfl rfl).head ?_
 refine Alo hp (h := fun gs4 w1 hp hE1 => ?_)
 refine H1 0 hp (h := fun w2 hp hC2 => so ?_)
 replace hp:=((hp.up 0 rfl).up 1 rfl).as_ (H' := itB gr 103 [.slice A l.length c, .bool bad] :: itB gs4 3 ([iv 0]) :: X ([iv 0, s0, iv 0, s0]) :: H) rfl
 refine Ci rfl (nNum_ok (X := (fun cs => itB gs4 3 (([]) ++ (cs ++ ([]))))) (pX := ⟨gs4, 0, none⟩) (v0 := 0) hp (Slot.blk ([]) ([])) hl.to (by unfold i64; omega)) ?_
 rintro _ w3 ⟨F3, A3, c3, l3, b3, cs3, x3, hp, hF3, hl3, hrd3, hst3⟩
 obtain ⟨hI3, rfl⟩ := hrd3
 refine so ?_
 rw [add_zero']
 refine wl_sstore1 0 (i := 2) hS (by rw [add_zero']; rfl) rfl hp rfl rfl sz25 (by decide) rfl ?_
 rintro w4 hp hC4
 refine so ?_
 refine wP 7 hp (h := fun wD hp hED => ?_)
 replace hp:=((hp.up 2 rfl).up 1 rfl).as_ (H' := itB gr 103 ([.slice A3 l3.length c3, .bool b3]) :: X ([iv x3, s0, iv 0, s0]) :: itB gs4 3 ([iv x3]) :: H) rfl
 refine Ci rfl (nStr_ok (X := (fun cs => X (([iv x3]) ++ (cs ++ ([iv 0, s0]))))) (pX := (pX.add 1)) (most := 16) hp (hS.sub ([iv x3]) ([iv 0, s0]) rfl) hl3.to) ?_
 rintro _ w5 ⟨F5, A5, c5, l5, b5, cs5, x5, hp, hF5, hl5, hrd5, hst5⟩
 obtain ⟨B5, d5, rfl, hg5⟩ := hrd5
 refine so ?_
 refine wP 7 hp (h := fun wD hp hED => ?_)
 refine Ci rfl (nNum_ok (X := (fun cs => X (([iv x3, .slice B5 x5.length d5]) ++ (cs ++ ([s0]))))) (pX := (pX.add 2)) (v0 := 0) hp (hS.sub ([iv x3, .slice B5 x5.length d5]) ([s0]) rfl) hl5.to (by unfold i64; omega)) ?_
 rintro _ w6 ⟨F6, A6, c6, l6, b6, cs6, x6, hp, hF6, hl6, hrd6, hst6⟩
 obtain ⟨hI6, rfl⟩ := hrd6
 refine so ?_
 refine wdP 7 hp (fun wD hp hED => by refine pm ?_; exact .op rfl (wl_nilCheckI (by decide) rfl (wl_nil qp)) pl) fun wD hp hED => ?_
 refine Ce (rListI_ok (X := (fun cs => X (([iv x3, .slice B5 x5.length d5, iv x6]) ++ (cs ++ ([]))))) (pX := (pX.add 3)) (p := numP) (most := 7) (FV := .func (.method "bastide/note.num") [Value.iface 101 (pt gr 0)].toArray ([] : List Value).toArray) hp (hS.sub ([iv x3, .slice B5 x5.length d5, iv x6]) ([]) rfl) hl6.to (fun w1 F1 H1 X pa A c l bad hF hp hS hl => RetV.meth (vs := [.pointer (some pa)]) mt188 (nNum_ok (v0 := 0) hp hS hl (by unfold i64; omega))) (by decide)) ?_
 rintro _ w7 ⟨F7, A7, c7, l7, b7, cs7, x7, hp, hF7, hl7, hrd7, hst7⟩
 obtain ⟨B7, d7, rfl, hg7⟩ := hrd7
 replace hg7:=hg7.ints
 refine so ?_
 refine wk_post0 (.inr rfl) results108  ?_
 exact ⟨_, rfl, _, A7, c7, l7, b7, _, ({ err := x3, data := x5, epoch := x6, nodes := x7 } : Ans), (((hp.up 2 rfl).tail.up 1 rfl).up 1 rfl), mv, hl7, ⟨⟨hI3, hI6⟩, _, _, _, _, rfl, hg5.to, hg7⟩, StepP.bind hst3 (StepP.bind hst5 (StepP.bind hst6 (StepP.bind hst7 (StepP.pure _ _))))⟩
end Go.Proofs.YtkdoomglflikkaaGreat
namespace Go.Proofs.YtkdoomglflikkaaGreat
open Go.RowKit Go.Eng _root_.Go.Proofs.Tryz Go.Eng _root_.Go.Proofs.Tryz
set_option maxRecDepth 100000
variable {w0 w : World} {M0 Fz : Nat → Prop} {H : List It} {A : Option Addr} {c : Nat}
set_option maxHeartbeats 4000000 in
theorem rCopyAll_ok {w : World} {A : Option Addr} {c : Nat} {l : List Wsh} {S : Nat → Prop} (hl : GS wishR S w A c l) (hsz : l.length * 112 ≤ 140737488355328) (hw : ∀ x ∈ l, x.next.length * 8 ≤ 140737488355328) :
  Ret prog 36 #[.slice A l.length c] w (fun v w' => ∃ A' c', v = .slice A' l.length c' ∧ GS wishR (fun b => w.heap.size ≤ b) w' A' c' l ∧ WshAt (fun b => w.heap.size ≤ b) w' A' l.length ∧ Ext w w') := by
 refine ret_of_wk func36 rfl ntmps36 leB_ ?_
 have hp : HP w (fun _ => False) (fun _ => False) w [] := (HP.begin_ w).less (fun _ h => h.elim)
 replace hp := hp.noRow 68 10
 refine so ?_
 refine Lp [0, 3, 4] (fun L' w' mes => ∃ (k : Nat), ∃ (F : Nat → Prop), ∃ (A3 : Option Addr), ∃ (c3 : Nat), ∃ (rows : List (List Value)), L' = [(0, .slice A l.length c), (3, .slice A3 k c3), (4, iv (k : Int))] ∧ k ≤ l.length ∧ HP w (fun _ => False) F w' [itR 68 10 A3 k c3 rows.flatten] ∧ RF wishR F w' rows (l.take k) ∧ RowW F w' rows k ∧ (∀ b, F b → w.heap.size ≤ b) ∧ l.length - k = mes) (l.length - 0)
  ⟨0, _, none, 0, [], rfl, Nat.zero_le _, hp, RF.nil _ _ _, (fun i hi => absurd hi (Nat.not_lt_zero _)), (fun _ h => h.elim), rfl⟩ ?_
 rintro _ wr _ ⟨k, F, A3, c3, rows, rfl, hk, hp, hR, hM, hlo, rfl⟩ KL1 hKL1
 refine so ?_
 refine Cd ?_ ?_<;>intro hc1
 ·have hk9 : k < l.length := by omega
  obtain ⟨ae, p0, q0, p1, q1, hAe, hate, hIe, he0, he1⟩ := wishR_el (GS.keep hp.chg (fun _ _ _ h => h) hl) k hk9
  have hmem : l.getD k wish0 ∈ l := by rw [List.getD_eq_getElem?_getD, List.getElem?_eq_getElem hk9]; exact List.getElem_mem hk9
  refine so ?_
  refine Ce (rCopyW_ok ⟨hIe, _, _, _, _, rfl, he0, he1⟩ (hw _ hmem)) ?_
  rintro _ w2 ⟨A5, c5, A7, c7, cs, rfl, hcs, hd, hi, hn, hE2⟩
  have hz := hp.chg.size
  obtain ⟨F2, hp, hs2, hn2, hl2⟩ := hp.frz hE2
  have f2 : Frz F F2 wr w2 := mv
  refine so ?_
  refine wl_oneOf (by decide) sl24 rfl rfl (by rw [hcs]; rfl) leB_ ?_
  rintro _ w3 hOn hE3
  obtain ⟨gt, rfl, hat9⟩ := hOn
  replace hp := hp.ext hE3
  refine wl_happend (i := 0) (m := 1) (size := 10) (news := cs) (by decide) sl24 rfl rfl hp rfl (by rw [hcs]; rfl) (fun b hb => by cases hb; exact hat9) (by simp) (by rw [hcs]; exact List.all_eq_true.1 rfl) (by omega) ?_
  rintro A9 c9 w4 hp hC4
  have f4 : Frz F2 F2 w2 w4 := mv
  refine so ?_
  refine Kl [0, 3, 4] hKL1 (l.length - (k + 1)) ⟨k + 1, F2, A9, c9, rows ++ [cs], rfl, by omega, ?_, ?_, ?_, ?_, rfl⟩ (by omega)
  ·rw [flat_snoc, List.append_nil]; exact hp
  ·rw [take_snoc wish0 hk9]
   refine RF.append (hR.to (mv : Frz F F2 wr w4)) (RF.one (r := wishR) ?_)
   rw [hcs]
   exact ⟨hIe, _, _, _, _, rfl, (hd.frz hn2).to f4, (hn.frz hn2).to f4⟩
  ·intro i hik
   by_cases he : i < k
   ·obtain ⟨cs2, v, B, m, d, h1, h2, h3, h4, h5⟩ := (hM.to (mv : Frz F F2 wr w4)) i he
    exact ⟨cs2, v, B, m, d, by rw [List.getElem?_append_left (List.getElem?_eq_some_iff.1 h1).1]; exact h1, h2, h3, h4, h5⟩
   ·obtain rfl : i = k := by omega
    have hrl : rows.length = i := by have := hR.1; rw [this, List.length_take]; omega
    refine ⟨cs, _, A5, _, c5, by rw [List.getElem?_append_right (by omega), hrl, Nat.sub_self]; rfl, by rw [hcs]; rfl, by rw [hcs]; rfl, hd.mx, ?_⟩
    exact (hi.mono (S' := F2) (fun b hb hs => hn2 b hs hb)).keep f4.chg (fun _ _ hs hn => hn hs)
  ·intro b hb
   rcases hl2 b hb with h | h
   ·exact hlo b h
   ·omega
 obtain rfl : k = l.length := by omega
 rw [List.take_length] at hR
 refine so ?_
 refine Pt ?_
 have hrow := hp.rowLo (i := 0) rfl
 refine ⟨_, rfl, A3, c3, rfl, OwnRow.gsRF (r := wishR) hrow (hR.wid hlo) (fun b hc hb => (hrow.lt hc b hb).1), fun i hi => ?_, hp.chg⟩
 obtain ⟨cs, v, B, m, d, h1, h2, h3, h4, h5⟩ := hM i hi
 have e5 := flat_get hR.lens h1 (o := 5) (by decide)
 have e6 := flat_get hR.lens h1 (o := 6) (by decide)
 obtain ⟨a, hA, hI⟩ := hrow.cellI (e5.trans h2)
 exact ⟨a, hA, hI, B, m, d, hrow.at_ hA _ _ (e6.trans h3), h4, h5.mono (fun b _ hs => hlo b hs)⟩
end Go.Proofs.YtkdoomglflikkaaGreat
namespace Go.Proofs.YtkdoomglflikkaaGreat
open Go.ChangeShapes Go.WideShapes Go.ChangeAt Go.RowKit Go.Eng Go.Eng _root_.Go.Proofs.Tryz
set_option maxRecDepth 100000
variable {w0 w : World} {M0 Fz : Nat → Prop} {H : List It} {A : Option Addr} {c : Nat}
theorem reads_t34B : ReadsR Tryz.prog 34 (sliceR changeR) (fun l => (∀ x ∈ l, ChnB x) ∧ l.length * 96 ≤ 140737488355328) := reads_slice (size := 6) (bytes := 96) Tryz.underlying34 rfl (by decide) Tryz.ce33 Tryz.by33 (by decide) reads_ChnB
end Go.Proofs.YtkdoomglflikkaaGreat
namespace Go.Proofs.YtkdoomglflikkaaGreat
open Go.RowKit Go.Eng Go.Eng _root_.Go.Proofs.Tryz
set_option maxRecDepth 100000
variable {w0 w : World} {M0 Fz : Nat → Prop} {H : List It} {A : Option Addr} {c : Nat}
theorem chapL_get {k i : Nat} (h : i < k) : (chapL k)[i]? = some (chapN ((i : Int) + 1)) := by simp [chapL, h]
set_option maxHeartbeats 4000000 in
theorem r11StrW_ok {As : Option Addr} {cs : Nat} {s : List UInt8} {Ss : Nat → Prop} {w : World} (hs : GS byteR Ss w As cs s) (hn : s.length ≤ 65536) : Ret Tryz.prog 122 #[.slice As s.length cs] w (fun v w' => ∃ A' c', v = .slice A' (strE s).length c' ∧ OwnB 5 w.heap.size w' A' c' (strE s) ∧ Ext w w') := by
 have mhs := hs.mx
 refine ret_of_wk Tryz.func122 rfl Tryz.ntmps122 (Nat.le_of_ble_eq_true rfl) ?_
 have hEc : Ext w w := Chg.refl _ _
 refine wc_seq ?_
 refine wc_region ?_
 refine wl_assign (by decide) rfl ?_
 refine wl_nil ?_
 refine wk_norm ?_
 refine wc_seq ?_
 refine wc_region ?_
 refine wl_move (by decide) rfl ?_
 refine wl_call (by decide) Tryz.cl76 rfl (rstr_is hs hn) ?_
 rintro _ w1 ⟨A1, c1, rfl, ho1, hE1⟩
 replace hs := hs.ext hE1
 replace hEc := hEc.trans hE1
 refine wl_move (by decide) rfl ?_
 refine wl_extract (by decide) rfl rfl ?_
 refine wl_extract (by decide) rfl rfl ?_
 refine wl_assign (by decide) rfl ?_
 refine wl_assign (by decide) rfl ?_
 refine wl_nil ?_
 refine wk_norm ?_
 refine wc_seq ?_
 refine wc_region ?_
 refine wl_move (by decide) rfl ?_
 refine wl_assign (by decide) rfl ?_
 refine wl_nil ?_
 refine wk_norm ?_
 refine wc_ret ?_
 refine wk_post1 (.inl rfl) Tryz.results122 rfl ?_
 exact ⟨_, rfl, A1, c1, rfl, ho1, hEc⟩
end Go.Proofs.YtkdoomglflikkaaGreat
