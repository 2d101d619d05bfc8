/- Part 4 of 5 of what the proofs of chapter 12 share: the engine, then what each function computes, printed short by a program. -/
import Derived.Test.YtkdoomglflikkaaGreatYc
namespace Go.Proofs.YtkdoomglflikkaaGreat
open Go.RowKit Go.Eng _root_.Go.Proofs.Tryz
set_option maxRecDepth 100000
variable {w0 w : World} {M0 Fz : Nat → Prop} {H : List It} {A : Option Addr} {c : Nat}
theorem t0_nNewMay_ok {p : Prop} (h : p := by exact upto hps (PkAt_iff.2 ⟨Decidable.not_not.1 (by assumption), fun h0 => by first | (exfalso; omega) | exact Decidable.not_not.1 (by assumption), Decidable.not_not.1 (by assumption), fun hh => by first | omega | exact absurd hh.1 (by assumption)⟩)) : p := h
set_option maxHeartbeats 40000000 in
theorem nNewMay_ok {csn : List Value} {n : Nte} {Sn : Nat → Prop} (hn : noteR.rd Sn w csn n) (hch : n.changes.length * 96 ≤ 140737488355328) : Ret prog 105 #[.agg csn.toArray] w (fun v w' => v = .bool (decide (NewMay n)) ∧ Ext w w') := by
 obtain ⟨hIn, An0, cn0, An1, cn1, An2, cn2, An3, cn3, An4, cn4, An5, cn5, An6, cn6, An7, cn7, An8, cn8, An9, cn9, An10, cn10, rfl, hn0, hn1, hn2, hn3, hn4, hn5, hn6, hn7, hn8, hn9, hn10⟩ := hn
 have hJn:=hIn
 unfold NteI i64 at hJn
 have mhn0:=hn0.mx
 have mhn1:=hn1.mx
 have mhn2:=hn2.mx
 have mhn3:=hn3.mx
 have mhn4:=hn4.mx
 have mhn5:=hn5.mx
 have mhn6:=hn6.mx
 have mhn7:=hn7.mx
 have mhn8:=hn8.mx
 have mhn9:=hn9.mx
 have mhn10:=hn10.mx
 refine ret_of_wk func105 rfl ntmps105 leB_ ?_
 have hp:=HP.begin_ w
 replace hn0:=hn0.now
 replace hn1:=hn1.now
 replace hn2:=hn2.now
 replace hn3:=hn3.now
 replace hn4:=hn4.now
 replace hn5:=hn5.now
 replace hn6:=hn6.now
 replace hn7:=hn7.now
 replace hn8:=hn8.now
 replace hn9:=hn9.now
 replace hn10:=hn10.now
 refine go ?_
 refine wl_hbox (by decide) rfl hp ?_
 rintro gs1 w1 hp1 hE1
 have q0:=hE1
 replace hp:=hp1
 refine go ?_
 replace hp:=hp.noRow 3 1
 refine go ?_
 refine Fd_ 51 fld38_12 rfl rfl ?_
 refine Hl_ 1 sc34 rfl hp rfl rfl ?_
 refine Ln_ underlying34 rfl (go ?_)
 refine wc_loop (fun L' w' mes => ∃ (k : Nat), ∃ (A : Option Addr), ∃ (c : Nat), L' = [(1, pt gs1 0), (3, .slice A (mnode n k).length c), (10, .slice An6 n.changes.length cn6), (11, iv (n.changes.length : Int)), (12, iv (k : Int))] ∧ (k ≤ n.changes.length) ∧ (∀ i, i < k → ChangeMay (n.changes.getD i change0) ∧ (n.changes.getD i change0).view = n.view) ∧ (GS intR (fun _ => True) w' A c (mnode n k)) ∧ (GS wishR (fun b => b < w.heap.size) w' An0 cn0 n.batch) ∧ (GS byteR (fun b => b < w.heap.size) w' An1 cn1 n.ans.data) ∧ (GS intR (fun b => b < w.heap.size) w' An2 cn2 n.ans.nodes) ∧ (GS markR (fun b => b < w.heap.size) w' An3 cn3 n.change.marks) ∧ (GS standR (fun b => b < w.heap.size) w' An4 cn4 n.change.p) ∧ (GS standR (fun b => b < w.heap.size) w' An5 cn5 n.change.q) ∧ (GS changeR (fun b => b < w.heap.size) w' An6 cn6 n.changes) ∧ (GS pickR (fun b => b < w.heap.size) w' An7 cn7 n.picks) ∧ (GS digR (fun b => b < w.heap.size) w' An8 cn8 n.digs) ∧ (GS byteR (fun b => b < w.heap.size) w' An9 cn9 n.data) ∧ (GS intR (fun b => b < w.heap.size) w' An10 cn10 n.nodes) ∧ (HP w (fun _ => False) (fun b => b < w.heap.size) w' (itR 3 1 A (mnode n k).length c ((mnode n k).map fun z : Int => iv z) :: itB gs1 38 ([iv n.kind, iv n.from_, iv n.group, iv n.epoch, iv n.view, iv n.seq] ++ (digC n.dig ++ ([.slice An0 n.batch.length cn0, iv n.ans.err, .slice An1 n.ans.data.length cn1, iv n.ans.epoch, .slice An2 n.ans.nodes.length cn2, iv n.stamp, iv n.node, iv n.change.node, iv n.change.view, iv n.change.low, .slice An3 n.change.marks.length cn3, .slice An4 n.change.p.length cn4, .slice An5 n.change.q.length cn5, .slice An6 n.changes.length cn6, .slice An7 n.picks.length cn7, iv n.level, iv n.place, .slice An8 n.digs.length cn8, .slice An9 n.data.length cn9, .slice An10 n.nodes.length cn10]))) :: [])) ∧ n.changes.length - k = mes) [(1, pt gs1 0), (3, .slice none (mnode n 0).length 0), (10, .slice An6 n.changes.length cn6), (11, iv (n.changes.length : Int)), (12, iv (0 : Int))] (n.changes.length - 0) (by
     refine ⟨0, none, 0, rfl, ?_, ?_, ?_, ?_, ?_, ?_, ?_, ?_, ?_, ?_, ?_, ?_, ?_, ?_, ?_, rfl⟩
     · omega
     · intro i hi; omega
     · exact gsn
     · exact (hn0.ext q0)
     · exact (hn1.ext q0)
     · exact (hn2.ext q0)
     · exact (hn3.ext q0)
     · exact (hn4.ext q0)
     · exact (hn5.ext q0)
     · exact (hn6.ext q0)
     · exact (hn7.ext q0)
     · exact (hn8.ext q0)
     · exact (hn9.ext q0)
     · exact (hn10.ext q0)
     · exact hp) ⟨rfl, rfl, rfl, rfl, rfl, trivial⟩ ?_
 rintro _ wr _ ⟨k, A, c, rfl, hk, hcs, hsq, hn0, hn1, hn2, hn3, hn4, hn5, hn6, hn7, hn8, hn9, hn10, hp, rfl⟩ KL1 hKL1
 refine go ?_
 refine Ls_ rfl rfl (go ?_)
 refine Cd (fun hlt => ?_) fun hlt => ?_
 refine go ?_
 obtain ⟨ae2, pe2_0, qe2_0, pe2_1, qe2_1, pe2_2, qe2_2, hAe2, hate2, hIe2, he2_0, he2_1, he2_2⟩ := changeR_el hn6 k (by omega)
 refine wl_idx0 (by decide) sl34 rfl rfl hAe2 k rfl (by omega) ?_
 refine wl_loadA (by decide) ag33 rfl hate2.at_ rfl ?_
 refine wl_halloc (z := .agg #[iv 0, iv 0, iv 0, s0, s0, s0]) (by decide) (by kernel_rfl) hp ?_
 rintro gs5 w3 hp3 hE3
 have q1:=hE3
 replace hp:=hp3
 refine wl_hstore (i := 0) rfl rfl hp rfl sz33 leB_ (List.all_eq_true.1 rfl) ?_
 rintro w4 hp4 hC4
 have q2:=hn0.tk.ext q1
 replace q2:=q2.fz hC4
 replace hp:=hp4
 refine go ?_
 refine Hx_ ([iv ((n.changes.getD k change0).node), iv ((n.changes.getD k change0).view), iv ((n.changes.getD k change0).low), .slice pe2_0 ((n.changes.getD k change0).marks).length qe2_0, .slice pe2_1 ((n.changes.getD k change0).p).length qe2_1, .slice pe2_2 ((n.changes.getD k change0).q).length qe2_2]) 0 ag33 rfl hp rfl rfl rfl ?_
 have hcl:=nChangeMay_ok ⟨hIe2, _, _, _, _, _, _, rfl, (he2_0.fr q2), (he2_1.fr q2), (he2_2.fr q2)⟩
 refine Cl_ cl56 rfl hcl ?_
 clear hcl
 rintro _ w5 ⟨rfl, hE5⟩
 replace q2:=q2.ext hE5
 replace hp:=hp.ext hE5
 first | refine Nd_ rfl ?_ | refine Nn_ rfl ?_
 refine go ?_
 refine Gs 19 (fun hg2 => ?_) fun hg2 => ?_
 refine go ?_
 refine wc_cond_t rfl (go ?_)
 refine P1 results105 ?_
 exact ⟨_, rfl, bool_f (fun h => by rw [NewMay_prog] at h; have := h.2.2.2.2.1 k (by omega); simp_all), hp.chg⟩
 refine go ?_
 refine Fd_ 1 fld33_1 rfl rfl (go ?_)
 refine Hl_ 0 sc3 rfl hp rfl rfl (go ?_)
 refine Fd_ 4 fld38_4 rfl rfl (go ?_)
 refine Hl_ 2 sc3 rfl hp rfl rfl (go ?_)
 refine Ne_ rfl rfl (go ?_)
 refine Cd (fun hc3 => ?_) fun hc3 => ?_
 refine go ?_
 refine P1 results105 ?_
 exact ⟨_, rfl, bool_f (fun h => by rw [NewMay_prog] at h; have := h.2.2.2.2.1 k (by omega); simp_all), hp.chg⟩
 refine go ?_
 refine Fd_ 0 fld33_0 rfl rfl ?_
 refine Hl_ 0 sc3 rfl hp rfl rfl ?_
 refine wl_bsliceE (enc := fun z : Int => iv z) (xs := [.tmp 28]) (bs := [(n.changes.getD k change0).node]) (fun _ => rfl) (by decide) sl27 rfl rfl rfl (by simp) _ (Nat.le_refl _) ?_
 rintro gt wt hgt hot hEt
 replace q2:=q2.ext hEt
 replace hp:=hp.ext hEt
 refine wl_happend (i := 1) (m := 1) (news := [iv (n.changes.getD k change0).node]) (by decide) sl27 rfl rfl hp rfl rfl (fun b hb => by cases hb; exact hot.at0) (by simp) (by simp [Value.oneCell']) (by rw [mnode_len (by omega)]; omega) ?_
 rintro A3 c3 w3 hp3 hC3
 replace q2:=q2.fz hC3
 replace hp:=hp3
 refine go ?_
 refine wl_add (by decide) rfl rfl (w64 (by omega) (by omega)) (gl ?_)
 refine wk_drop [(1, pt gs1 0), (3, .slice A3 (mnode n (k + 1)).length c3), (10, .slice An6 n.changes.length cn6), (11, iv (n.changes.length : Int)), (12, iv ((k + 1) : Int))] ⟨rfl, (by rw [mnode_succ (by omega), List.length_append]; rfl), rfl, rfl, rfl, trivial⟩ (hKL1 _ _ (m2 := n.changes.length - (k + 1)) ?_ ?_)
 refine ⟨(k + 1), A3, c3, rfl, ?_, ?_, ?_, ?_, ?_, ?_, ?_, ?_, ?_, ?_, ?_, ?_, ?_, ?_, ?_, rfl⟩
 omega
 exact upto hcs ⟨by simp_all, by omega⟩
 exact (OwnRow.gsF (he := fun _ => rfl) (by have := hp.rowAt (i := 1) rfl; rw [mnode_succ (by omega)]; simpa using this) (fun _ _ _ => trivial))
 exact (hn0.fr q2)
 exact (hn1.fr q2)
 exact (hn2.fr q2)
 exact (hn3.fr q2)
 exact (hn4.fr q2)
 exact (hn5.fr q2)
 exact (hn6.fr q2)
 exact (hn7.fr q2)
 exact (hn8.fr q2)
 exact (hn9.fr q2)
 exact (hn10.fr q2)
 rw [mnode_succ (by omega), List.map_append, List.length_append]; exact hp.tail
 omega
 have hkl : k = n.changes.length := by omega
 have hml:=mnode_len (n := n) (k := k) (by omega)
 subst hkl
 refine go ?_
 refine Fd_ 52 fld38_13 rfl rfl ?_
 refine Hl_ 1 sc35 rfl hp rfl rfl ?_
 refine Ln_ underlying35 rfl (go ?_)
 refine wc_loop (fun L' w' mes => ∃ (j : Nat), L' = [(1, pt gs1 0), (3, .slice A (mnode n n.changes.length).length c), (33, .slice An7 n.picks.length cn7), (34, iv (n.picks.length : Int)), (35, iv (j : Int))] ∧ (j ≤ n.picks.length) ∧ (∀ i, i < j → PkAt n.picks n.group n.epoch i) ∧ (GS wishR (fun b => b < w.heap.size) w' An0 cn0 n.batch) ∧ (GS byteR (fun b => b < w.heap.size) w' An1 cn1 n.ans.data) ∧ (GS intR (fun b => b < w.heap.size) w' An2 cn2 n.ans.nodes) ∧ (GS markR (fun b => b < w.heap.size) w' An3 cn3 n.change.marks) ∧ (GS standR (fun b => b < w.heap.size) w' An4 cn4 n.change.p) ∧ (GS standR (fun b => b < w.heap.size) w' An5 cn5 n.change.q) ∧ (GS changeR (fun b => b < w.heap.size) w' An6 cn6 n.changes) ∧ (GS pickR (fun b => b < w.heap.size) w' An7 cn7 n.picks) ∧ (GS digR (fun b => b < w.heap.size) w' An8 cn8 n.digs) ∧ (GS byteR (fun b => b < w.heap.size) w' An9 cn9 n.data) ∧ (GS intR (fun b => b < w.heap.size) w' An10 cn10 n.nodes) ∧ (HP w (fun _ => False) (fun b => b < w.heap.size) w' (itR 3 1 A (mnode n n.changes.length).length c ((mnode n n.changes.length).map fun z : Int => iv z) :: itB gs1 38 ([iv n.kind, iv n.from_, iv n.group, iv n.epoch, iv n.view, iv n.seq] ++ (digC n.dig ++ ([.slice An0 n.batch.length cn0, iv n.ans.err, .slice An1 n.ans.data.length cn1, iv n.ans.epoch, .slice An2 n.ans.nodes.length cn2, iv n.stamp, iv n.node, iv n.change.node, iv n.change.view, iv n.change.low, .slice An3 n.change.marks.length cn3, .slice An4 n.change.p.length cn4, .slice An5 n.change.q.length cn5, .slice An6 n.changes.length cn6, .slice An7 n.picks.length cn7, iv n.level, iv n.place, .slice An8 n.digs.length cn8, .slice An9 n.data.length cn9, .slice An10 n.nodes.length cn10]))) :: [])) ∧ n.picks.length - j = mes) [(1, pt gs1 0), (3, .slice A (mnode n n.changes.length).length c), (33, .slice An7 n.picks.length cn7), (34, iv (n.picks.length : Int)), (35, iv (0 : Int))] (n.picks.length - 0) (by
     refine ⟨0, rfl, ?_, ?_, ?_, ?_, ?_, ?_, ?_, ?_, ?_, ?_, ?_, ?_, ?_, ?_, rfl⟩
     · omega
     · intro i hi; omega
     · exact hn0
     · exact hn1
     · exact hn2
     · exact hn3
     · exact hn4
     · exact hn5
     · exact hn6
     · exact hn7
     · exact hn8
     · exact hn9
     · exact hn10
     · exact hp) ⟨rfl, rfl, rfl, rfl, rfl, trivial⟩ ?_
 rintro _ wp _ ⟨j, rfl, hj, hps, hn0, hn1, hn2, hn3, hn4, hn5, hn6, hn7, hn8, hn9, hn10, hp, rfl⟩ KL2 hKL2
 refine go ?_
 refine Ls_ rfl rfl (go ?_)
 refine Cd (fun hc4 => ?_) fun hc4 => ?_
 refine go ?_
 obtain ⟨ae6, pe6_0, qe6_0, hAe6, hate6, hIe6, he6_0⟩ := pickR_el hn7 j (by omega)
 refine wl_idx0 (by decide) sl35 rfl rfl hAe6 j rfl (by omega) ?_
 refine wl_loadA (by decide) ag66 rfl hate6.at_ rfl ?_
 refine wl_halloc (z := .agg #[iv 0, .int .u8 0, .int .u8 0, .int .u8 0, .int .u8 0, .int .u8 0, .int .u8 0, .int .u8 0, .int .u8 0, .int .u8 0, .int .u8 0, .int .u8 0, .int .u8 0, .int .u8 0, .int .u8 0, .int .u8 0, .int .u8 0, .int .u8 0, .int .u8 0, .int .u8 0, .int .u8 0, .int .u8 0, .int .u8 0, .int .u8 0, .int .u8 0, .int .u8 0, .int .u8 0, .int .u8 0, .int .u8 0, .int .u8 0, .int .u8 0, .int .u8 0, .int .u8 0, s0]) (by decide) (by kernel_rfl) hp ?_
 rintro gs7 w7 hp7 hE7
 have q3:=hE7
 replace hp:=hp7
 refine go ?_
 refine wl_hstore (i := 0) rfl rfl hp rfl sz66 leB_ (List.all_eq_true.1 rfl) ?_
 rintro w8 hp8 hC8
 have q4:=hn0.tk.ext q3
 replace q4:=q4.fz hC8
 replace hp:=hp8
 refine go ?_
 by_cases hs5 : (j : Int) = 0
 apply wdL [.eq _,.eq (.bool true),.eq (.bool true),.eq undef,.eq undef,.eq undef,.eq undef,.eq undef,.eq undef,.eq undef,.eq undef,.eq undef,.eq undef,.eq undef,.eq (.bool true),.eq (.bool true)]
 refine ⟨?_,?_,?_,?_,?_,?_,?_,?_,?_,?_,?_,?_,?_,?_,?_,?_,trivial⟩<;>intro F wF hER hk
 exact dm (hk.qi 6)
 have e40:=hk.qe 0
 refine Eq_ e40 rfl ?_
 exact wl_re (k := 41) (v := .bool true) rfl (congrArg Value.bool (decide_eq_true (by first | exact hs5 | omega | simpa using hs5))) qy
 exact dm (hk.qe 1)
 exact dn (hk.qe 2)
 exact dn (hk.qe 2)
 exact dn (hk.qe 2)
 exact dn (hk.qe 2)
 exact dn (hk.qe 2)
 exact dn (hk.qe 2)
 exact dn (hk.qe 2)
 exact dn (hk.qe 2)
 exact dn (hk.qe 2)
 exact dn (hk.qe 2)
 exact dn (hk.qe 2)
 have e42:=hk.qe 2
 have e53:=hk.qe 13
 exact Pk_ e42 rfl qz
 exact wl_assign (by decide) (hk.qe 14) qz
 intro F wD hED hini hdo
 refine wk_drop [(1, _), (3, _), (7, _), (8, _), (33, _), (34, _), (35, _)] ⟨di hini 1, di hini 3, di hini 7, dq hdo 15, di hini 33, di hini 34, di hini 35, trivial⟩ ?_
 clear hini hdo
 replace q4:=q4.ext hED
 replace hp:=hp.ext hED
 refine go ?_
 refine Fd_ 0 fld66_0 rfl rfl ?_
 refine Hl_ 0 sc3 rfl hp rfl rfl ?_
 refine Cl_ cl104 rfl (n_isSeq) ?_
 rintro _ _ ⟨rfl, rfl⟩
 first | refine Nd_ rfl ?_ | refine Nn_ rfl ?_
 refine go ?_
 refine Gs 59 (fun hg6 => ?_) fun hg6 => ?_
 refine go ?_
 refine wc_cond_t rfl (go ?_)
 refine P1 results105 ?_
 exact ⟨_, rfl, bool_f (fun h => by obtain ⟨p1, p2, p3, p4⟩ := PkAt_iff.1 (h.2.2.2.2.2 j (by omega)); first | exact absurd p1 (by assumption) | exact absurd p3 (by assumption) | exact absurd (p2 (by omega)) (by assumption) | exact p4 ⟨by assumption, by omega⟩), hp.chg⟩
 refine go ?_
 first | refine Nd_ rfl ?_ | refine Nn_ rfl ?_
 refine go ?_
 refine Fd_ 33 fld66_2 rfl rfl (go ?_)
 refine Hl_ 0 sc24 rfl hp rfl rfl (go ?_)
 refine Hx_ ([iv n.kind, iv n.from_, iv n.group, iv n.epoch, iv n.view, iv n.seq] ++ (digC n.dig ++ ([.slice An0 n.batch.length cn0, iv n.ans.err, .slice An1 n.ans.data.length cn1, iv n.ans.epoch, .slice An2 n.ans.nodes.length cn2, iv n.stamp, iv n.node, iv n.change.node, iv n.change.view, iv n.change.low, .slice An3 n.change.marks.length cn3, .slice An4 n.change.p.length cn4, .slice An5 n.change.q.length cn5, .slice An6 n.changes.length cn6, .slice An7 n.picks.length cn7, iv n.level, iv n.place, .slice An8 n.digs.length cn8, .slice An9 n.data.length cn9, .slice An10 n.nodes.length cn10]))) 2 ag38 rfl hp rfl rfl rfl (go ?_)
 have hcl:=nBatchMay_ok (he6_0.fr q4) ⟨hIn, _, _, _, _, _, _, _, _, _, _, _, _, _, _, _, _, _, _, _, _, _, _, rfl, (hn0.fr q4), (hn1.fr q4), (hn2.fr q4), (hn3.fr q4), (hn4.fr q4), (hn5.fr q4), (hn6.fr q4), (hn7.fr q4), (hn8.fr q4), (hn9.fr q4), (hn10.fr q4)⟩
 refine Cl_ cl100 rfl hcl ?_
 clear hcl
 rintro _ w10 ⟨rfl, hE10⟩
 replace q4:=q4.ext hE10
 replace hp:=hp.ext hE10
 refine go ?_
 first | refine Nd_ rfl ?_ | refine Nn_ rfl ?_
 refine go ?_
 refine Gs 70 (fun hg7 => ?_) fun hg7 => ?_
 refine go ?_
 refine wc_cond_t rfl (go ?_)
 refine P1 results105 ?_
 exact ⟨_, rfl, bool_f (fun h => by obtain ⟨p1, p2, p3, p4⟩ := PkAt_iff.1 (h.2.2.2.2.2 j (by omega)); first | exact absurd p1 (by assumption) | exact absurd p3 (by assumption) | exact absurd (p2 (by omega)) (by assumption) | exact p4 ⟨by assumption, by omega⟩), hp.chg⟩
 refine go ?_
 refine Fd_ 1 fld66_1 rfl rfl (go ?_)
 refine Hx_ (digC ((n.picks.getD j pick0).dig)) 0 ag23 rfl hp rfl rfl rfl (go ?_)
 refine wl_builtS (cells := digC dig0) (ps := []) (by decide) bld23 rfl rfl ?_
 refine go ?_
 refine wl_eqlK (m := 6) ((n.picks.getD j pick0).dig = dig0) (by decide) key23 eg23 rfl rfl (digC_fit _) (digC_fit _) digC_inj ?_
 refine go ?_
 refine Gs 75 (fun hg8 => ?_) fun hg8 => ?_
 refine go ?_
 refine Fd_ 33 fld66_2 rfl rfl (go ?_)
 refine Hl_ 0 sc24 rfl hp rfl rfl (go ?_)
 refine Ln_ underlying24 rfl (go ?_)
 refine Gt_ rfl rfl (go ?_)
 refine Cd (fun hc9 => ?_) fun hc9 => ?_
 refine go ?_
 refine P1 results105 ?_
 exact ⟨_, rfl, bool_f (fun h => by obtain ⟨p1, p2, p3, p4⟩ := PkAt_iff.1 (h.2.2.2.2.2 j (by omega)); first | exact absurd p1 (by assumption) | exact absurd p3 (by assumption) | exact absurd (p2 (by omega)) (by assumption) | exact p4 ⟨by assumption, by omega⟩), hp.chg⟩
 refine go ?_
 refine wl_add (by decide) rfl rfl (w64 (by omega) (by omega)) (gl ?_)
 refine wk_drop [(1, pt gs1 0), (3, .slice A (mnode n n.changes.length).length c), (33, .slice An7 n.picks.length cn7), (34, iv (n.picks.length : Int)), (35, iv ((j + 1) : Int))] ⟨rfl, rfl, rfl, rfl, rfl, trivial⟩ (hKL2 _ _ (m2 := n.picks.length - (j + 1)) ?_ ?_)
 refine ⟨(j + 1), rfl, ?_, ?_, ?_, ?_, ?_, ?_, ?_, ?_, ?_, ?_, ?_, ?_, ?_, ?_, rfl⟩
 omega
 exact t0_nNewMay_ok
 exact (hn0.fr q4)
 exact (hn1.fr q4)
 exact (hn2.fr q4)
 exact (hn3.fr q4)
 exact (hn4.fr q4)
 exact (hn5.fr q4)
 exact (hn6.fr q4)
 exact (hn7.fr q4)
 exact (hn8.fr q4)
 exact (hn9.fr q4)
 exact (hn10.fr q4)
 exact hp.tail
 omega
 refine go ?_
 refine wc_cond_f rfl ?_
 refine go ?_
 refine wl_add (by decide) rfl rfl (w64 (by omega) (by omega)) (gl ?_)
 refine wk_drop [(1, pt gs1 0), (3, .slice A (mnode n n.changes.length).length c), (33, .slice An7 n.picks.length cn7), (34, iv (n.picks.length : Int)), (35, iv ((j + 1) : Int))] ⟨rfl, rfl, rfl, rfl, rfl, trivial⟩ (hKL2 _ _ (m2 := n.picks.length - (j + 1)) ?_ ?_)
 refine ⟨(j + 1), rfl, ?_, ?_, ?_, ?_, ?_, ?_, ?_, ?_, ?_, ?_, ?_, ?_, ?_, ?_, rfl⟩
 omega
 exact t0_nNewMay_ok
 exact (hn0.fr q4)
 exact (hn1.fr q4)
 exact (hn2.fr q4)
 exact (hn3.fr q4)
 exact (hn4.fr q4)
 exact (hn5.fr q4)
 exact (hn6.fr q4)
 exact (hn7.fr q4)
 exact (hn8.fr q4)
 exact (hn9.fr q4)
 exact (hn10.fr q4)
 exact hp.tail
 omega
 obtain ⟨aw10, pw10_0, qw10_0, hAw10, hatw10, hIw10, hw10_0⟩ := pickR_el (hn7.fr q4) (j - 1) (by omega)
 apply wdL [.eq _,.eq (.bool false),.eq (.bool false),.eq _,.eq _,.eq (iv (IntKind.i64.wrap ((n.picks.getD j pick0).seq - 1))),.eq _,.eq _,.eq _,.eq _,.eq _,.eq _,.eq _,.eq _,.eq _,.eq _]
 refine ⟨?_,?_,?_,?_,?_,?_,?_,?_,?_,?_,?_,?_,?_,?_,?_,?_,trivial⟩<;>intro F wF hER hk
 exact dm (hk.qi 6)
 have e40:=hk.qe 0
 refine Eq_ e40 rfl ?_
 exact wl_re (k := 41) (v := .bool false) rfl (congrArg Value.bool (decide_eq_false (by first | exact hs5 | omega | simpa using hs5))) qy
 exact dm (hk.qe 1)
 have e7:=hk.qi 7
 have e42:=hk.qe 2
 refine wl_gyes rfl e42 ?_
 exact Fd_ 0 fld66_0 e7 rfl qz
 have e43:=hk.qe 3
 have e42:=hk.qe 2
 refine wl_gyes rfl e42 ?_
 exact Hl_ 0 sc3 e43 (hp.ext hER) rfl rfl qz
 have e44:=hk.qe 4
 have e42:=hk.qe 2
 refine wl_gyes rfl e42 ?_
 exact wl_sub (by decide) e44 rfl rfl qz
 have e1:=hk.qi 1
 have e42:=hk.qe 2
 refine wl_gyes rfl e42 ?_
 exact Fd_ 52 fld38_13 e1 rfl qz
 have e46:=hk.qe 6
 have e42:=hk.qe 2
 refine wl_gyes rfl e42 ?_
 exact Hl_ 2 sc35 e46 (hp.ext hER) rfl rfl qz
 have e6:=hk.qi 6
 have e42:=hk.qe 2
 refine wl_gyes rfl e42 ?_
 exact Mv_ e6 qz
 have e48:=hk.qe 8
 have e42:=hk.qe 2
 refine wl_gyes rfl e42 ?_
 exact wl_sub (by decide) e48 rfl (w64 (by omega) (by omega)) qz
 have e47:=hk.qe 7
 have e49:=hk.qe 9
 have e42:=hk.qe 2
 refine wl_gyes rfl e42 ?_
 exact wl_idx0 (by decide) sl35 e47 e49 hAw10 (j - 1) (by omega) (by omega) qz
 have e50:=hk.qe 10
 have e42:=hk.qe 2
 refine wl_gyes rfl e42 ?_
 exact Fe_ fld66_0 e50 qz
 have e51:=hk.qe 11
 have e42:=hk.qe 2
 refine wl_gyes rfl e42 ?_
 exact Ld_ sc3 e51 ((hatw10.ext hER).get rfl) qz
 have e45:=hk.qe 5
 have e52:=hk.qe 12
 have e42:=hk.qe 2
 refine wl_gyes rfl e42 ?_
 exact Eq_ e45 e52 qz
 have e42:=hk.qe 2
 have e53:=hk.qe 13
 exact Pk_ e42 e53 qz
 exact wl_assign (by decide) (hk.qe 14) qz
 intro F wD hED hini hdo
 refine wk_drop [(1, _), (3, _), (7, _), (8, _), (33, _), (34, _), (35, _)] ⟨di hini 1, di hini 3, di hini 7, dq hdo 15, di hini 33, di hini 34, di hini 35, trivial⟩ ?_
 clear hini hdo
 replace q4:=q4.ext hED
 replace hp:=hp.ext hED
 refine go ?_
 refine Fd_ 0 fld66_0 rfl rfl ?_
 refine Hl_ 0 sc3 rfl hp rfl rfl ?_
 refine Cl_ cl104 rfl (n_isSeq) ?_
 rintro _ _ ⟨rfl, rfl⟩
 first | refine Nd_ rfl ?_ | refine Nn_ rfl ?_
 refine go ?_
 refine Gs 59 (fun hg10 => ?_) fun hg10 => ?_
 refine go ?_
 refine wc_cond_t rfl (go ?_)
 refine P1 results105 ?_
 exact ⟨_, rfl, bool_f (fun h => by obtain ⟨p1, p2, p3, p4⟩ := PkAt_iff.1 (h.2.2.2.2.2 j (by omega)); first | exact absurd p1 (by assumption) | exact absurd p3 (by assumption) | exact absurd (p2 (by omega)) (by assumption) | exact p4 ⟨by assumption, by omega⟩), hp.chg⟩
 refine go ?_
 first | refine Nd_ rfl ?_ | refine Nn_ rfl ?_
 refine go ?_
 refine Gs 63 (fun hg11 => ?_) fun hg11 => ?_
 refine go ?_
 refine wc_cond_t rfl (go ?_)
 refine P1 results105 ?_
 exact ⟨_, rfl, bool_f (fun h => by obtain ⟨p1, p2, p3, p4⟩ := PkAt_iff.1 (h.2.2.2.2.2 j (by omega)); first | exact absurd p1 (by assumption) | exact absurd p3 (by assumption) | exact absurd (p2 (by omega)) (by assumption) | exact p4 ⟨by assumption, by omega⟩), hp.chg⟩
 refine go ?_
 refine Fd_ 33 fld66_2 rfl rfl (go ?_)
 refine Hl_ 0 sc24 rfl hp rfl rfl (go ?_)
 refine Hx_ ([iv n.kind, iv n.from_, iv n.group, iv n.epoch, iv n.view, iv n.seq] ++ (digC n.dig ++ ([.slice An0 n.batch.length cn0, iv n.ans.err, .slice An1 n.ans.data.length cn1, iv n.ans.epoch, .slice An2 n.ans.nodes.length cn2, iv n.stamp, iv n.node, iv n.change.node, iv n.change.view, iv n.change.low, .slice An3 n.change.marks.length cn3, .slice An4 n.change.p.length cn4, .slice An5 n.change.q.length cn5, .slice An6 n.changes.length cn6, .slice An7 n.picks.length cn7, iv n.level, iv n.place, .slice An8 n.digs.length cn8, .slice An9 n.data.length cn9, .slice An10 n.nodes.length cn10]))) 2 ag38 rfl hp rfl rfl rfl (go ?_)
 have hcl:=nBatchMay_ok (he6_0.fr q4) ⟨hIn, _, _, _, _, _, _, _, _, _, _, _, _, _, _, _, _, _, _, _, _, _, _, rfl, (hn0.fr q4), (hn1.fr q4), (hn2.fr q4), (hn3.fr q4), (hn4.fr q4), (hn5.fr q4), (hn6.fr q4), (hn7.fr q4), (hn8.fr q4), (hn9.fr q4), (hn10.fr q4)⟩
 refine Cl_ cl100 rfl hcl ?_
 clear hcl
 rintro _ w12 ⟨rfl, hE12⟩
 replace q4:=q4.ext hE12
 replace hp:=hp.ext hE12
 refine go ?_
 first | refine Nd_ rfl ?_ | refine Nn_ rfl ?_
 refine go ?_
 refine Gs 70 (fun hg12 => ?_) fun hg12 => ?_
 refine go ?_
 refine wc_cond_t rfl (go ?_)
 refine P1 results105 ?_
 exact ⟨_, rfl, bool_f (fun h => by obtain ⟨p1, p2, p3, p4⟩ := PkAt_iff.1 (h.2.2.2.2.2 j (by omega)); first | exact absurd p1 (by assumption) | exact absurd p3 (by assumption) | exact absurd (p2 (by omega)) (by assumption) | exact p4 ⟨by assumption, by omega⟩), hp.chg⟩
 refine go ?_
 refine Fd_ 1 fld66_1 rfl rfl (go ?_)
 refine Hx_ (digC ((n.picks.getD j pick0).dig)) 0 ag23 rfl hp rfl rfl rfl (go ?_)
 refine wl_builtS (cells := digC dig0) (ps := []) (by decide) bld23 rfl rfl ?_
 refine go ?_
 refine wl_eqlK (m := 6) ((n.picks.getD j pick0).dig = dig0) (by decide) key23 eg23 rfl rfl (digC_fit _) (digC_fit _) digC_inj ?_
 refine go ?_
 refine Gs 75 (fun hg13 => ?_) fun hg13 => ?_
 refine go ?_
 refine Fd_ 33 fld66_2 rfl rfl (go ?_)
 refine Hl_ 0 sc24 rfl hp rfl rfl (go ?_)
 refine Ln_ underlying24 rfl (go ?_)
 refine Gt_ rfl rfl (go ?_)
 refine Cd (fun hc14 => ?_) fun hc14 => ?_
 refine go ?_
 refine P1 results105 ?_
 exact ⟨_, rfl, bool_f (fun h => by obtain ⟨p1, p2, p3, p4⟩ := PkAt_iff.1 (h.2.2.2.2.2 j (by omega)); first | exact absurd p1 (by assumption) | exact absurd p3 (by assumption) | exact absurd (p2 (by omega)) (by assumption) | exact p4 ⟨by assumption, by omega⟩), hp.chg⟩
 refine go ?_
 refine wl_add (by decide) rfl rfl (w64 (by omega) (by omega)) (gl ?_)
 refine wk_drop [(1, pt gs1 0), (3, .slice A (mnode n n.changes.length).length c), (33, .slice An7 n.picks.length cn7), (34, iv (n.picks.length : Int)), (35, iv ((j + 1) : Int))] ⟨rfl, rfl, rfl, rfl, rfl, trivial⟩ (hKL2 _ _ (m2 := n.picks.length - (j + 1)) ?_ ?_)
 refine ⟨(j + 1), rfl, ?_, ?_, ?_, ?_, ?_, ?_, ?_, ?_, ?_, ?_, ?_, ?_, ?_, ?_, rfl⟩
 omega
 exact t0_nNewMay_ok
 exact (hn0.fr q4)
 exact (hn1.fr q4)
 exact (hn2.fr q4)
 exact (hn3.fr q4)
 exact (hn4.fr q4)
 exact (hn5.fr q4)
 exact (hn6.fr q4)
 exact (hn7.fr q4)
 exact (hn8.fr q4)
 exact (hn9.fr q4)
 exact (hn10.fr q4)
 exact hp.tail
 omega
 refine go ?_
 refine wc_cond_f rfl ?_
 refine go ?_
 refine wl_add (by decide) rfl rfl (w64 (by omega) (by omega)) (gl ?_)
 refine wk_drop [(1, pt gs1 0), (3, .slice A (mnode n n.changes.length).length c), (33, .slice An7 n.picks.length cn7), (34, iv (n.picks.length : Int)), (35, iv ((j + 1) : Int))] ⟨rfl, rfl, rfl, rfl, rfl, trivial⟩ (hKL2 _ _ (m2 := n.picks.length - (j + 1)) ?_ ?_)
 refine ⟨(j + 1), rfl, ?_, ?_, ?_, ?_, ?_, ?_, ?_, ?_, ?_, ?_, ?_, ?_, ?_, ?_, rfl⟩
 omega
 exact t0_nNewMay_ok
 exact (hn0.fr q4)
 exact (hn1.fr q4)
 exact (hn2.fr q4)
 exact (hn3.fr q4)
 exact (hn4.fr q4)
 exact (hn5.fr q4)
 exact (hn6.fr q4)
 exact (hn7.fr q4)
 exact (hn8.fr q4)
 exact (hn9.fr q4)
 exact (hn10.fr q4)
 exact hp.tail
 omega
 clear hsq
 have hsq : GS intR (fun _ => True) _ A c (mnode n n.changes.length) := OwnRow.gsF (he := fun _ => rfl) (hp.rowAt (i := 0) rfl) (fun _ _ _ => trivial)
 have hjl : j = n.picks.length := by omega
 subst hjl
 refine go ?_
 refine Fd_ 4 fld38_4 rfl rfl ?_
 refine Hl_ 1 sc3 rfl hp rfl rfl ?_
 refine Gt_ rfl rfl (go ?_)
 refine Gs 86 (fun hg15 => ?_) fun hg15 => ?_
 refine go ?_
 refine Ln_ underlying27 rfl (go ?_)
 refine Cl_ cl62 rfl (n_within) ?_
 rintro _ _ ⟨rfl, rfl⟩
 refine go ?_
 refine Gs 91 (fun hg16 => ?_) fun hg16 => ?_
 refine go ?_
 have hcl:=nRise_ok hsq
 refine Cl_ cl93 rfl hcl ?_
 clear hcl
 rintro _ w14 ⟨rfl, hE14⟩
 replace hp:=hp.ext hE14
 refine go ?_
 refine Gs 95 (fun hg17 => ?_) fun hg17 => ?_
 refine go ?_
 refine Fd_ 52 fld38_13 rfl rfl (go ?_)
 refine Hl_ 1 sc35 rfl hp rfl rfl (go ?_)
 refine Ln_ underlying35 rfl (go ?_)
 refine Lq_ rfl rfl (go ?_)
 refine P1 results105 ?_
 exact ⟨_, rfl, congrArg Value.bool (decide_eq_decide.2 (by rw [NewMay_prog]; first | exact ⟨fun hq => ⟨by omega, ⟨by omega, by omega⟩, by assumption, by omega, fun i hi => hcs i hi, fun i hi => hps i hi⟩, fun h => by have := h.2.2.2.1; omega⟩ | (intro h; obtain ⟨h1, h2, h3, h4, _⟩ := h; first | omega | exact absurd h3 (by assumption)))), hp.chg⟩
 refine go ?_
 refine P1 results105 ?_
 exact ⟨_, rfl, bool_f (by rw [NewMay_prog]; first | exact ⟨fun hq => ⟨by omega, ⟨by omega, by omega⟩, by assumption, by omega, fun i hi => hcs i hi, fun i hi => hps i hi⟩, fun h => by have := h.2.2.2.1; omega⟩ | (intro h; obtain ⟨h1, h2, h3, h4, _⟩ := h; first | omega | exact absurd h3 (by assumption))), hp.chg⟩
 refine go ?_
 refine P1 results105 ?_
 exact ⟨_, rfl, bool_f (by rw [NewMay_prog]; first | exact ⟨fun hq => ⟨by omega, ⟨by omega, by omega⟩, by assumption, by omega, fun i hi => hcs i hi, fun i hi => hps i hi⟩, fun h => by have := h.2.2.2.1; omega⟩ | (intro h; obtain ⟨h1, h2, h3, h4, _⟩ := h; first | omega | exact absurd h3 (by assumption))), hp.chg⟩
 refine go ?_
 refine P1 results105 ?_
 exact ⟨_, rfl, bool_f (by rw [NewMay_prog]; first | exact ⟨fun hq => ⟨by omega, ⟨by omega, by omega⟩, by assumption, by omega, fun i hi => hcs i hi, fun i hi => hps i hi⟩, fun h => by have := h.2.2.2.1; omega⟩ | (intro h; obtain ⟨h1, h2, h3, h4, _⟩ := h; first | omega | exact absurd h3 (by assumption))), hp.chg⟩
theorem nodesR_iff {l : List Int} : NodesRise l ↔ RiseI l ∧ ¬ ∃ x ∈ l, ¬ (1 ≤ x ∧ x ≤ 28) := by
 constructor
 ·intro h
  exact ⟨fun i hi h0 => (h i hi).2.2 h0, fun ⟨x, hx, hn⟩ => hn (h.mem x hx)⟩
 ·rintro ⟨h1, h2⟩ i hi
  have h3 : 1 ≤ l.getD i 0 ∧ l.getD i 0 ≤ 28 := Decidable.byContradiction fun hn => h2 ⟨_, getD_mem hi, hn⟩
  exact ⟨h3.1, h3.2, fun h0 => h1 i hi h0⟩
theorem WishNote_iff {n : Nte} : WishNote n ↔ (n.batch.length : Int) = 1 ∧ BatchMay n.batch n.group n.epoch ∧ (31 ≤ n.from_ ∧ n.from_ ≤ 34) ∧ (n.batch.getD 0 wish0).client = n.from_ ∧ (n.kind = 1 ∨ (n.batch.getD 0 wish0).kind = 1) := by
 unfold WishNote
 constructor
 ·rintro ⟨a1, a2, a3, a4, a5, a6⟩; exact ⟨by omega, a2, ⟨a3, a4⟩, a5, a6⟩
 ·rintro ⟨a1, a2, ⟨a3, a4⟩, a5, a6⟩; exact ⟨by omega, a2, a3, a4, a5, a6⟩
theorem t0_nFits_ok {p : Prop} (h : p := by exact Hx_ ([iv n.kind, iv n.from_, iv n.group, iv n.epoch, iv n.view, iv n.seq] ++ (digC n.dig ++ ([.slice An0 n.batch.length cn0, iv n.ans.err, .slice An1 n.ans.data.length cn1, iv n.ans.epoch, .slice An2 n.ans.nodes.length cn2, iv n.stamp, iv n.node, iv n.change.node, iv n.change.view, iv n.change.low, .slice An3 n.change.marks.length cn3, .slice An4 n.change.p.length cn4, .slice An5 n.change.q.length cn5, .slice An6 n.changes.length cn6, .slice An7 n.picks.length cn7, iv n.level, iv n.place, .slice An8 n.digs.length cn8, .slice An9 n.data.length cn9, .slice An10 n.nodes.length cn10]))) 0 ag38 e1 (hp.ext hER) rfl rfl rfl qz) : p := h
theorem fitT {p : Prop} (h : p := by unfold FitsN; simp only [*, WishNote_iff, nodesR_iff, true_or, or_true, or_false, false_or, or_self, if_true, if_false, true_and, and_true, false_and, and_false, and_self, not_false_eq_true, not_true_eq_false, Int.reduceEq, reduceIte]; try (first | omega | exact Iff.rfl | exact ⟨fun h => ⟨h, by omega, by omega⟩, fun h => h.1⟩ | (simp_all; done) | (unfold isView at *; omega) | (unfold isView at *; simp_all; done) | (unfold isView at *; simp_all; omega))) : p := h
set_option maxHeartbeats 40000000 in
theorem nFits_ok {csn : List Value} {n : Nte} {Sn : Nat → Prop} (hn : noteR.rd Sn w csn n) (hch : n.changes.length * 96 ≤ 140737488355328) : Ret prog 64 #[.agg csn.toArray] w (fun v w' => v = .bool (decide (FitsN n)) ∧ Ext w w') := by
 obtain ⟨hIn, An0, cn0, An1, cn1, An2, cn2, An3, cn3, An4, cn4, An5, cn5, An6, cn6, An7, cn7, An8, cn8, An9, cn9, An10, cn10, rfl, hn0, hn1, hn2, hn3, hn4, hn5, hn6, hn7, hn8, hn9, hn10⟩ := hn
 have mhn0:=hn0.mx
 have mhn1:=hn1.mx
 have mhn2:=hn2.mx
 have mhn3:=hn3.mx
 have mhn4:=hn4.mx
 have mhn5:=hn5.mx
 have mhn6:=hn6.mx
 have mhn7:=hn7.mx
 have mhn8:=hn8.mx
 have mhn9:=hn9.mx
 have mhn10:=hn10.mx
 refine ret_of_wk func64 rfl ntmps64 leB_ ?_
 have hp:=HP.begin_ w
 replace hn0:=hn0.now
 replace hn1:=hn1.now
 replace hn2:=hn2.now
 replace hn3:=hn3.now
 replace hn4:=hn4.now
 replace hn5:=hn5.now
 replace hn6:=hn6.now
 replace hn7:=hn7.now
 replace hn8:=hn8.now
 replace hn9:=hn9.now
 replace hn10:=hn10.now
 refine go ?_
 refine wl_hbox (by decide) rfl hp ?_
 rintro gs1 w1 hp1 hE1
 have q0:=hE1
 replace hp:=hp1
 refine go ?_
 refine Fd_ 0 fld38_0 rfl rfl ?_
 refine Hl_ 0 sc3 rfl hp rfl rfl (go ?_)
 refine Eq_ rfl rfl (go ?_)
 refine Cd (fun hc1 => ?_) fun hc1 => ?_
 refine go ?_
 refine Cd (fun hc2 => ?_) fun hc2 => ?_
 refine go ?_
 by_cases hs3 : (n.batch.length : Int) = 1
 by_cases hs4 : BatchMay n.batch n.group n.epoch
 by_cases hs5 : 31 ≤ n.from_ ∧ n.from_ ≤ 34
 obtain ⟨aw18, pw18_0, qw18_0, pw18_1, qw18_1, hAw18, hatw18, hIw18, hw18_0, hw18_1⟩ := wishR_el (hn0.ext q0) 0 (by omega)
 apply wdL [.eq _,.eq _,.eq _,.eq (.bool true),.eq (.bool true),.eq _,.eq _,.eq _,.eq (.bool true),.eq (.bool true),.eq (.bool true),.eq _,.eq _,.eq (.bool true),.eq (.bool true),.eq (.bool true),.eq _,.eq _,.eq _,.eq _,.eq _,.eq _,.eq _,.eq _,.eq _,.eq _]
 refine ⟨?_,?_,?_,?_,?_,?_,?_,?_,?_,?_,?_,?_,?_,?_,?_,?_,?_,?_,?_,?_,?_,?_,?_,?_,?_,?_,trivial⟩<;>intro F wF hER hk
 exact Fd_ 38 fld38_7 (hk.pi 1) rfl qz
 exact Hl_ 0 sc24 (hk.pe 0) (hp.ext hER) rfl rfl qz
 exact Ln_ underlying24 (hk.pe 1) qz
 have e11:=hk.pe 2
 refine Eq_ e11 rfl ?_
 exact wl_re (k := 12) (v := .bool true) rfl (congrArg Value.bool (decide_eq_true (by first | exact hs3 | omega | simpa using hs3))) qy
 exact dm (hk.pe 3)
 have e1:=hk.pi 1
 have e13:=hk.pe 4
 refine wl_gyes rfl e13 ?_
 exact Fd_ 38 fld38_7 e1 rfl qz
 have e14:=hk.pe 5
 have e13:=hk.pe 4
 refine wl_gyes rfl e13 ?_
 exact Hl_ 0 sc24 e14 (hp.ext hER) rfl rfl qz
 have e1:=hk.pi 1
 have e13:=hk.pe 4
 refine wl_gyes rfl e13 ?_
 exact t0_nFits_ok
 have e15:=hk.pe 6
 have e16:=hk.pe 7
 have e13:=hk.pe 4
 refine wl_gyes rfl e13 ?_
 have hcl:=nBatchMay_ok ((hn0.ext q0).ext hER) ⟨hIn, _, _, _, _, _, _, _, _, _, _, _, _, _, _, _, _, _, _, _, _, _, _, rfl, ((hn0.ext q0).ext hER), ((hn1.ext q0).ext hER), ((hn2.ext q0).ext hER), ((hn3.ext q0).ext hER), ((hn4.ext q0).ext hER), ((hn5.ext q0).ext hER), ((hn6.ext q0).ext hER), ((hn7.ext q0).ext hER), ((hn8.ext q0).ext hER), ((hn9.ext q0).ext hER), ((hn10.ext q0).ext hER)⟩
 refine Cl_ cl100 (by simp only [evs, ev, e15, e16]; first | done | rfl) hcl ?_
 clear hcl
 rintro _ w7 ⟨rfl, hE7⟩
 refine wl_re (k := 17) (v := .bool true) rfl (congrArg Value.bool (decide_eq_true (by first | exact hs4 | omega | simpa using hs4))) ?_
 exact qy ⟨hE7, rfl⟩
 have e13:=hk.pe 4
 have e17:=hk.pe 8
 exact Pk_ e13 e17 qz
 exact dm (hk.pe 9)
 have e1:=hk.pi 1
 have e19:=hk.pe 10
 refine wl_gyes rfl e19 ?_
 exact Fd_ 1 fld38_1 e1 rfl qz
 have e20:=hk.pe 11
 have e19:=hk.pe 10
 refine wl_gyes rfl e19 ?_
 exact Hl_ 0 sc3 e20 (hp.ext hER) rfl rfl qz
 have e21:=hk.pe 12
 have e19:=hk.pe 10
 refine wl_gyes rfl e19 ?_
 refine Cl_ cl101 (by simp only [evs, ev, e21]; first | done | rfl) (n_isClient) ?_
 rintro _ _ ⟨rfl, rfl⟩
 exact wl_re (k := 22) (v := .bool true) rfl (congrArg Value.bool (decide_eq_true (by first | exact hs5 | omega | simpa using hs5))) qy
 have e19:=hk.pe 10
 have e22:=hk.pe 13
 exact Pk_ e19 e22 qz
 exact dm (hk.pe 14)
 have e1:=hk.pi 1
 have e24:=hk.pe 15
 refine wl_gyes rfl e24 ?_
 exact Fd_ 38 fld38_7 e1 rfl qz
 have e25:=hk.pe 16
 have e24:=hk.pe 15
 refine wl_gyes rfl e24 ?_
 exact Hl_ 0 sc24 e25 (hp.ext hER) rfl rfl qz
 have e26:=hk.pe 17
 have e24:=hk.pe 15
 refine wl_gyes rfl e24 ?_
 exact wl_idx0 (by decide) sl24 e26 rfl hAw18 0 rfl (by omega) qz
 have e27:=hk.pe 18
 have e24:=hk.pe 15
 refine wl_gyes rfl e24 ?_
 exact Fe_ fld68_0 e27 qz
 have e28:=hk.pe 19
 have e24:=hk.pe 15
 refine wl_gyes rfl e24 ?_
 exact Ld_ sc3 e28 ((hatw18.ext hER).get rfl) qz
 have e1:=hk.pi 1
 have e24:=hk.pe 15
 refine wl_gyes rfl e24 ?_
 exact Fd_ 1 fld38_1 e1 rfl qz
 have e30:=hk.pe 21
 have e24:=hk.pe 15
 refine wl_gyes rfl e24 ?_
 exact Hl_ 0 sc3 e30 (hp.ext hER) rfl rfl qz
 have e29:=hk.pe 20
 have e31:=hk.pe 22
 have e24:=hk.pe 15
 refine wl_gyes rfl e24 ?_
 exact Eq_ e29 e31 qz
 have e24:=hk.pe 15
 have e32:=hk.pe 23
 exact Pk_ e24 e32 qz
 exact wl_assign (by decide) (hk.pe 24) qz
 intro F wD hED hini hdo
 refine wk_drop [(1, _), (3, _)] ⟨di hini 1, dq hdo 25, trivial⟩ ?_
 clear hini hdo
 replace q0:=q0.trans hED
 replace hp:=hp.ext hED
 refine go ?_
 refine Gs 35 (fun hg6 => ?_) fun hg6 => ?_
 refine go ?_
 refine Fd_ 0 fld38_0 rfl rfl (go ?_)
 refine Hl_ 0 sc3 rfl hp rfl rfl (go ?_)
 refine Eq_ rfl rfl (go ?_)
 refine Gs 39 (fun hg7 => ?_) fun hg7 => ?_
 refine go ?_
 refine P1 results64 ?_
 exact ⟨_, rfl, bool_t fitT, hp.chg⟩
 refine go ?_
 refine Fd_ 38 fld38_7 rfl rfl (go ?_)
 refine Hl_ 0 sc24 rfl hp rfl rfl (go ?_)
 obtain ⟨ae2, pe2_0, qe2_0, pe2_1, qe2_1, hAe2, hate2, hIe2, he2_0, he2_1⟩ := wishR_el (hn0.ext q0) 0 (by omega)
 refine wl_idx0 (by decide) sl24 rfl rfl hAe2 0 rfl (by omega) (go ?_)
 refine Fe_ fld68_4 rfl (go ?_)
 refine Ld_ sc3 rfl (hate2.get rfl) (go ?_)
 refine Eq_ rfl rfl (go ?_)
 refine P1 results64 ?_
 exact ⟨_, rfl, congrArg Value.bool (decide_eq_decide.2 fitT), hp.chg⟩
 refine go ?_
 refine P1 results64 ?_
 exact ⟨_, rfl, bool_f fitT, hp.chg⟩
 apply wdL [.eq _,.eq _,.eq _,.eq (.bool true),.eq (.bool true),.eq _,.eq _,.eq _,.eq (.bool true),.eq (.bool true),.eq (.bool true),.eq _,.eq _,.eq (.bool false),.eq (.bool false),.eq (.bool false),.eq undef,.eq undef,.eq undef,.eq undef,.eq undef,.eq undef,.eq undef,.eq undef,.eq (.bool false),.eq (.bool false)]
 refine ⟨?_,?_,?_,?_,?_,?_,?_,?_,?_,?_,?_,?_,?_,?_,?_,?_,?_,?_,?_,?_,?_,?_,?_,?_,?_,?_,trivial⟩<;>intro F wF hER hk
 exact Fd_ 38 fld38_7 (hk.pi 1) rfl qz
 exact Hl_ 0 sc24 (hk.pe 0) (hp.ext hER) rfl rfl qz
 exact Ln_ underlying24 (hk.pe 1) qz
 have e11:=hk.pe 2
 refine Eq_ e11 rfl ?_
 exact wl_re (k := 12) (v := .bool true) rfl (congrArg Value.bool (decide_eq_true (by first | exact hs3 | omega | simpa using hs3))) qy
 exact dm (hk.pe 3)
 have e1:=hk.pi 1
 have e13:=hk.pe 4
 refine wl_gyes rfl e13 ?_
 exact Fd_ 38 fld38_7 e1 rfl qz
 have e14:=hk.pe 5
 have e13:=hk.pe 4
 refine wl_gyes rfl e13 ?_
 exact Hl_ 0 sc24 e14 (hp.ext hER) rfl rfl qz
 have e1:=hk.pi 1
 have e13:=hk.pe 4
 refine wl_gyes rfl e13 ?_
 exact t0_nFits_ok
 have e15:=hk.pe 6
 have e16:=hk.pe 7
 have e13:=hk.pe 4
 refine wl_gyes rfl e13 ?_
 have hcl:=nBatchMay_ok ((hn0.ext q0).ext hER) ⟨hIn, _, _, _, _, _, _, _, _, _, _, _, _, _, _, _, _, _, _, _, _, _, _, rfl, ((hn0.ext q0).ext hER), ((hn1.ext q0).ext hER), ((hn2.ext q0).ext hER), ((hn3.ext q0).ext hER), ((hn4.ext q0).ext hER), ((hn5.ext q0).ext hER), ((hn6.ext q0).ext hER), ((hn7.ext q0).ext hER), ((hn8.ext q0).ext hER), ((hn9.ext q0).ext hER), ((hn10.ext q0).ext hER)⟩
 refine Cl_ cl100 (by simp only [evs, ev, e15, e16]; first | done | rfl) hcl ?_
 clear hcl
 rintro _ w7 ⟨rfl, hE7⟩
 refine wl_re (k := 17) (v := .bool true) rfl (congrArg Value.bool (decide_eq_true (by first | exact hs4 | omega | simpa using hs4))) ?_
 exact qy ⟨hE7, rfl⟩
 have e13:=hk.pe 4
 have e17:=hk.pe 8
 exact Pk_ e13 e17 qz
 exact dm (hk.pe 9)
 have e1:=hk.pi 1
 have e19:=hk.pe 10
 refine wl_gyes rfl e19 ?_
 exact Fd_ 1 fld38_1 e1 rfl qz
 have e20:=hk.pe 11
 have e19:=hk.pe 10
 refine wl_gyes rfl e19 ?_
 exact Hl_ 0 sc3 e20 (hp.ext hER) rfl rfl qz
 have e21:=hk.pe 12
 have e19:=hk.pe 10
 refine wl_gyes rfl e19 ?_
 refine Cl_ cl101 (by simp only [evs, ev, e21]; first | done | rfl) (n_isClient) ?_
 rintro _ _ ⟨rfl, rfl⟩
 exact wl_re (k := 22) (v := .bool false) rfl (congrArg Value.bool (decide_eq_false (by first | exact hs5 | omega | simpa using hs5))) qy
 have e19:=hk.pe 10
 have e22:=hk.pe 13
 exact Pk_ e19 e22 qz
 exact dm (hk.pe 14)
 exact dn (hk.pe 15)
 exact dn (hk.pe 15)
 exact dn (hk.pe 15)
 exact dn (hk.pe 15)
 exact dn (hk.pe 15)
 exact dn (hk.pe 15)
 exact dn (hk.pe 15)
 exact dn (hk.pe 15)
 have e24:=hk.pe 15
 have e32:=hk.pe 23
 exact Pk_ e24 rfl qz
 exact wl_assign (by decide) (hk.pe 24) qz
 intro F wD hED hini hdo
 refine wk_drop [(1, _), (3, _)] ⟨di hini 1, dq hdo 25, trivial⟩ ?_
 clear hini hdo
 replace hp:=hp.ext hED
 refine go ?_
 refine P1 results64 ?_
 exact ⟨_, rfl, bool_f fitT, hp.chg⟩
 apply wdL [.eq _,.eq _,.eq _,.eq (.bool true),.eq (.bool true),.eq _,.eq _,.eq _,.eq (.bool false),.eq (.bool false),.eq (.bool false),.eq undef,.eq undef,.eq undef,.eq (.bool false),.eq (.bool false),.eq undef,.eq undef,.eq undef,.eq undef,.eq undef,.eq undef,.eq undef,.eq undef,.eq (.bool false),.eq (.bool false)]
 refine ⟨?_,?_,?_,?_,?_,?_,?_,?_,?_,?_,?_,?_,?_,?_,?_,?_,?_,?_,?_,?_,?_,?_,?_,?_,?_,?_,trivial⟩<;>intro F wF hER hk
 exact Fd_ 38 fld38_7 (hk.pi 1) rfl qz
 exact Hl_ 0 sc24 (hk.pe 0) (hp.ext hER) rfl rfl qz
 exact Ln_ underlying24 (hk.pe 1) qz
 have e11:=hk.pe 2
 refine Eq_ e11 rfl ?_
 exact wl_re (k := 12) (v := .bool true) rfl (congrArg Value.bool (decide_eq_true (by first | exact hs3 | omega | simpa using hs3))) qy
 exact dm (hk.pe 3)
 have e1:=hk.pi 1
 have e13:=hk.pe 4
 refine wl_gyes rfl e13 ?_
 exact Fd_ 38 fld38_7 e1 rfl qz
 have e14:=hk.pe 5
 have e13:=hk.pe 4
 refine wl_gyes rfl e13 ?_
 exact Hl_ 0 sc24 e14 (hp.ext hER) rfl rfl qz
 have e1:=hk.pi 1
 have e13:=hk.pe 4
 refine wl_gyes rfl e13 ?_
 exact t0_nFits_ok
 have e15:=hk.pe 6
 have e16:=hk.pe 7
 have e13:=hk.pe 4
 refine wl_gyes rfl e13 ?_
 have hcl:=nBatchMay_ok ((hn0.ext q0).ext hER) ⟨hIn, _, _, _, _, _, _, _, _, _, _, _, _, _, _, _, _, _, _, _, _, _, _, rfl, ((hn0.ext q0).ext hER), ((hn1.ext q0).ext hER), ((hn2.ext q0).ext hER), ((hn3.ext q0).ext hER), ((hn4.ext q0).ext hER), ((hn5.ext q0).ext hER), ((hn6.ext q0).ext hER), ((hn7.ext q0).ext hER), ((hn8.ext q0).ext hER), ((hn9.ext q0).ext hER), ((hn10.ext q0).ext hER)⟩
 refine Cl_ cl100 (by simp only [evs, ev, e15, e16]; first | done | rfl) hcl ?_
 clear hcl
 rintro _ w7 ⟨rfl, hE7⟩
 refine wl_re (k := 17) (v := .bool false) rfl (congrArg Value.bool (decide_eq_false (by first | exact hs4 | omega | simpa using hs4))) ?_
 exact qy ⟨hE7, rfl⟩
 have e13:=hk.pe 4
 have e17:=hk.pe 8
 exact Pk_ e13 e17 qz
 exact dm (hk.pe 9)
 exact dn (hk.pe 10)
 exact dn (hk.pe 10)
 exact dn (hk.pe 10)
 have e19:=hk.pe 10
 have e22:=hk.pe 13
 exact Pk_ e19 rfl qz
 exact dm (hk.pe 14)
 exact dn (hk.pe 15)
 exact dn (hk.pe 15)
 exact dn (hk.pe 15)
 exact dn (hk.pe 15)
 exact dn (hk.pe 15)
 exact dn (hk.pe 15)
 exact dn (hk.pe 15)
 exact dn (hk.pe 15)
 have e24:=hk.pe 15
 have e32:=hk.pe 23
 exact Pk_ e24 rfl qz
 exact wl_assign (by decide) (hk.pe 24) qz
 intro F wD hED hini hdo
 refine wk_drop [(1, _), (3, _)] ⟨di hini 1, dq hdo 25, trivial⟩ ?_
 clear hini hdo
 replace hp:=hp.ext hED
 refine go ?_
 refine P1 results64 ?_
 exact ⟨_, rfl, bool_f fitT, hp.chg⟩
 apply wdL [.eq _,.eq _,.eq _,.eq (.bool false),.eq (.bool false),.eq undef,.eq undef,.eq undef,.eq undef,.eq (.bool false),.eq (.bool false),.eq undef,.eq undef,.eq undef,.eq (.bool false),.eq (.bool false),.eq undef,.eq undef,.eq undef,.eq undef,.eq undef,.eq undef,.eq undef,.eq undef,.eq (.bool false),.eq (.bool false)]
 refine ⟨?_,?_,?_,?_,?_,?_,?_,?_,?_,?_,?_,?_,?_,?_,?_,?_,?_,?_,?_,?_,?_,?_,?_,?_,?_,?_,trivial⟩<;>intro F wF hER hk
 exact Fd_ 38 fld38_7 (hk.pi 1) rfl qz
 exact Hl_ 0 sc24 (hk.pe 0) (hp.ext hER) rfl rfl qz
 exact Ln_ underlying24 (hk.pe 1) qz
 have e11:=hk.pe 2
 refine Eq_ e11 rfl ?_
 exact wl_re (k := 12) (v := .bool false) rfl (congrArg Value.bool (decide_eq_false (by first | exact hs3 | omega | simpa using hs3))) qy
 exact dm (hk.pe 3)
 exact dn (hk.pe 4)
 exact dn (hk.pe 4)
 exact dn (hk.pe 4)
 exact dn (hk.pe 4)
 have e13:=hk.pe 4
 have e17:=hk.pe 8
 exact Pk_ e13 rfl qz
 exact dm (hk.pe 9)
 exact dn (hk.pe 10)
 exact dn (hk.pe 10)
 exact dn (hk.pe 10)
 have e19:=hk.pe 10
 have e22:=hk.pe 13
 exact Pk_ e19 rfl qz
 exact dm (hk.pe 14)
 exact dn (hk.pe 15)
 exact dn (hk.pe 15)
 exact dn (hk.pe 15)
 exact dn (hk.pe 15)
 exact dn (hk.pe 15)
 exact dn (hk.pe 15)
 exact dn (hk.pe 15)
 exact dn (hk.pe 15)
 have e24:=hk.pe 15
 have e32:=hk.pe 23
 exact Pk_ e24 rfl qz
 exact wl_assign (by decide) (hk.pe 24) qz
 intro F wD hED hini hdo
 refine wk_drop [(1, _), (3, _)] ⟨di hini 1, dq hdo 25, trivial⟩ ?_
 clear hini hdo
 replace hp:=hp.ext hED
 refine go ?_
 refine P1 results64 ?_
 exact ⟨_, rfl, bool_f fitT, hp.chg⟩
 exact absurd hc1 hc2
 refine go ?_
 refine Eq_ rfl rfl (go ?_)
 refine Cd (fun hc8 => ?_) fun hc8 => ?_
 refine go ?_
 by_cases hs9 : (n.batch.length : Int) = 1
 by_cases hs10 : BatchMay n.batch n.group n.epoch
 by_cases hs11 : 31 ≤ n.from_ ∧ n.from_ ≤ 34
 obtain ⟨aw18, pw18_0, qw18_0, pw18_1, qw18_1, hAw18, hatw18, hIw18, hw18_0, hw18_1⟩ := wishR_el (hn0.ext q0) 0 (by omega)
 apply wdL [.eq _,.eq _,.eq _,.eq (.bool true),.eq (.bool true),.eq _,.eq _,.eq _,.eq (.bool true),.eq (.bool true),.eq (.bool true),.eq _,.eq _,.eq (.bool true),.eq (.bool true),.eq (.bool true),.eq _,.eq _,.eq _,.eq _,.eq _,.eq _,.eq _,.eq _,.eq _,.eq _]
 refine ⟨?_,?_,?_,?_,?_,?_,?_,?_,?_,?_,?_,?_,?_,?_,?_,?_,?_,?_,?_,?_,?_,?_,?_,?_,?_,?_,trivial⟩<;>intro F wF hER hk
 exact Fd_ 38 fld38_7 (hk.pi 1) rfl qz
 exact Hl_ 0 sc24 (hk.pe 0) (hp.ext hER) rfl rfl qz
 exact Ln_ underlying24 (hk.pe 1) qz
 have e11:=hk.pe 2
 refine Eq_ e11 rfl ?_
 exact wl_re (k := 12) (v := .bool true) rfl (congrArg Value.bool (decide_eq_true (by first | exact hs9 | omega | simpa using hs9))) qy
 exact dm (hk.pe 3)
 have e1:=hk.pi 1
 have e13:=hk.pe 4
 refine wl_gyes rfl e13 ?_
 exact Fd_ 38 fld38_7 e1 rfl qz
 have e14:=hk.pe 5
 have e13:=hk.pe 4
 refine wl_gyes rfl e13 ?_
 exact Hl_ 0 sc24 e14 (hp.ext hER) rfl rfl qz
 have e1:=hk.pi 1
 have e13:=hk.pe 4
 refine wl_gyes rfl e13 ?_
 exact t0_nFits_ok
 have e15:=hk.pe 6
 have e16:=hk.pe 7
 have e13:=hk.pe 4
 refine wl_gyes rfl e13 ?_
 have hcl:=nBatchMay_ok ((hn0.ext q0).ext hER) ⟨hIn, _, _, _, _, _, _, _, _, _, _, _, _, _, _, _, _, _, _, _, _, _, _, rfl, ((hn0.ext q0).ext hER), ((hn1.ext q0).ext hER), ((hn2.ext q0).ext hER), ((hn3.ext q0).ext hER), ((hn4.ext q0).ext hER), ((hn5.ext q0).ext hER), ((hn6.ext q0).ext hER), ((hn7.ext q0).ext hER), ((hn8.ext q0).ext hER), ((hn9.ext q0).ext hER), ((hn10.ext q0).ext hER)⟩
 refine Cl_ cl100 (by simp only [evs, ev, e15, e16]; first | done | rfl) hcl ?_
 clear hcl
 rintro _ w7 ⟨rfl, hE7⟩
 refine wl_re (k := 17) (v := .bool true) rfl (congrArg Value.bool (decide_eq_true (by first | exact hs10 | omega | simpa using hs10))) ?_
 exact qy ⟨hE7, rfl⟩
 have e13:=hk.pe 4
 have e17:=hk.pe 8
 exact Pk_ e13 e17 qz
 exact dm (hk.pe 9)
 have e1:=hk.pi 1
 have e19:=hk.pe 10
 refine wl_gyes rfl e19 ?_
 exact Fd_ 1 fld38_1 e1 rfl qz
 have e20:=hk.pe 11
 have e19:=hk.pe 10
 refine wl_gyes rfl e19 ?_
 exact Hl_ 0 sc3 e20 (hp.ext hER) rfl rfl qz
 have e21:=hk.pe 12
 have e19:=hk.pe 10
 refine wl_gyes rfl e19 ?_
 refine Cl_ cl101 (by simp only [evs, ev, e21]; first | done | rfl) (n_isClient) ?_
 rintro _ _ ⟨rfl, rfl⟩
 exact wl_re (k := 22) (v := .bool true) rfl (congrArg Value.bool (decide_eq_true (by first | exact hs11 | omega | simpa using hs11))) qy
 have e19:=hk.pe 10
 have e22:=hk.pe 13
 exact Pk_ e19 e22 qz
 exact dm (hk.pe 14)
 have e1:=hk.pi 1
 have e24:=hk.pe 15
 refine wl_gyes rfl e24 ?_
 exact Fd_ 38 fld38_7 e1 rfl qz
 have e25:=hk.pe 16
 have e24:=hk.pe 15
 refine wl_gyes rfl e24 ?_
 exact Hl_ 0 sc24 e25 (hp.ext hER) rfl rfl qz
 have e26:=hk.pe 17
 have e24:=hk.pe 15
 refine wl_gyes rfl e24 ?_
 exact wl_idx0 (by decide) sl24 e26 rfl hAw18 0 rfl (by omega) qz
 have e27:=hk.pe 18
 have e24:=hk.pe 15
 refine wl_gyes rfl e24 ?_
 exact Fe_ fld68_0 e27 qz
 have e28:=hk.pe 19
 have e24:=hk.pe 15
 refine wl_gyes rfl e24 ?_
 exact Ld_ sc3 e28 ((hatw18.ext hER).get rfl) qz
 have e1:=hk.pi 1
 have e24:=hk.pe 15
 refine wl_gyes rfl e24 ?_
 exact Fd_ 1 fld38_1 e1 rfl qz
 have e30:=hk.pe 21
 have e24:=hk.pe 15
 refine wl_gyes rfl e24 ?_
 exact Hl_ 0 sc3 e30 (hp.ext hER) rfl rfl qz
 have e29:=hk.pe 20
 have e31:=hk.pe 22
 have e24:=hk.pe 15
 refine wl_gyes rfl e24 ?_
 exact Eq_ e29 e31 qz
 have e24:=hk.pe 15
 have e32:=hk.pe 23
 exact Pk_ e24 e32 qz
 exact wl_assign (by decide) (hk.pe 24) qz
 intro F wD hED hini hdo
 refine wk_drop [(1, _), (3, _)] ⟨di hini 1, dq hdo 25, trivial⟩ ?_
 clear hini hdo
 replace q0:=q0.trans hED
 replace hp:=hp.ext hED
 refine go ?_
 refine Gs 35 (fun hg12 => ?_) fun hg12 => ?_
 refine go ?_
 refine Fd_ 0 fld38_0 rfl rfl (go ?_)
 refine Hl_ 0 sc3 rfl hp rfl rfl (go ?_)
 refine Eq_ rfl rfl (go ?_)
 refine Gs 39 (fun hg13 => ?_) fun hg13 => ?_
 refine go ?_
 refine P1 results64 ?_
 exact ⟨_, rfl, bool_t fitT, hp.chg⟩
 refine go ?_
 refine Fd_ 38 fld38_7 rfl rfl (go ?_)
 refine Hl_ 0 sc24 rfl hp rfl rfl (go ?_)
 obtain ⟨ae3, pe3_0, qe3_0, pe3_1, qe3_1, hAe3, hate3, hIe3, he3_0, he3_1⟩ := wishR_el (hn0.ext q0) 0 (by omega)
 refine wl_idx0 (by decide) sl24 rfl rfl hAe3 0 rfl (by omega) (go ?_)
 refine Fe_ fld68_4 rfl (go ?_)
 refine Ld_ sc3 rfl (hate3.get rfl) (go ?_)
 refine Eq_ rfl rfl (go ?_)
 refine P1 results64 ?_
 exact ⟨_, rfl, congrArg Value.bool (decide_eq_decide.2 fitT), hp.chg⟩
 refine go ?_
 refine P1 results64 ?_
 exact ⟨_, rfl, bool_f fitT, hp.chg⟩
 apply wdL [.eq _,.eq _,.eq _,.eq (.bool true),.eq (.bool true),.eq _,.eq _,.eq _,.eq (.bool true),.eq (.bool true),.eq (.bool true),.eq _,.eq _,.eq (.bool false),.eq (.bool false),.eq (.bool false),.eq undef,.eq undef,.eq undef,.eq undef,.eq undef,.eq undef,.eq undef,.eq undef,.eq (.bool false),.eq (.bool false)]
 refine ⟨?_,?_,?_,?_,?_,?_,?_,?_,?_,?_,?_,?_,?_,?_,?_,?_,?_,?_,?_,?_,?_,?_,?_,?_,?_,?_,trivial⟩<;>intro F wF hER hk
 exact Fd_ 38 fld38_7 (hk.pi 1) rfl qz
 exact Hl_ 0 sc24 (hk.pe 0) (hp.ext hER) rfl rfl qz
 exact Ln_ underlying24 (hk.pe 1) qz
 have e11:=hk.pe 2
 refine Eq_ e11 rfl ?_
 exact wl_re (k := 12) (v := .bool true) rfl (congrArg Value.bool (decide_eq_true (by first | exact hs9 | omega | simpa using hs9))) qy
 exact dm (hk.pe 3)
 have e1:=hk.pi 1
 have e13:=hk.pe 4
 refine wl_gyes rfl e13 ?_
 exact Fd_ 38 fld38_7 e1 rfl qz
 have e14:=hk.pe 5
 have e13:=hk.pe 4
 refine wl_gyes rfl e13 ?_
 exact Hl_ 0 sc24 e14 (hp.ext hER) rfl rfl qz
 have e1:=hk.pi 1
 have e13:=hk.pe 4
 refine wl_gyes rfl e13 ?_
 exact t0_nFits_ok
 have e15:=hk.pe 6
 have e16:=hk.pe 7
 have e13:=hk.pe 4
 refine wl_gyes rfl e13 ?_
 have hcl:=nBatchMay_ok ((hn0.ext q0).ext hER) ⟨hIn, _, _, _, _, _, _, _, _, _, _, _, _, _, _, _, _, _, _, _, _, _, _, rfl, ((hn0.ext q0).ext hER), ((hn1.ext q0).ext hER), ((hn2.ext q0).ext hER), ((hn3.ext q0).ext hER), ((hn4.ext q0).ext hER), ((hn5.ext q0).ext hER), ((hn6.ext q0).ext hER), ((hn7.ext q0).ext hER), ((hn8.ext q0).ext hER), ((hn9.ext q0).ext hER), ((hn10.ext q0).ext hER)⟩
 refine Cl_ cl100 (by simp only [evs, ev, e15, e16]; first | done | rfl) hcl ?_
 clear hcl
 rintro _ w7 ⟨rfl, hE7⟩
 refine wl_re (k := 17) (v := .bool true) rfl (congrArg Value.bool (decide_eq_true (by first | exact hs10 | omega | simpa using hs10))) ?_
 exact qy ⟨hE7, rfl⟩
 have e13:=hk.pe 4
 have e17:=hk.pe 8
 exact Pk_ e13 e17 qz
 exact dm (hk.pe 9)
 have e1:=hk.pi 1
 have e19:=hk.pe 10
 refine wl_gyes rfl e19 ?_
 exact Fd_ 1 fld38_1 e1 rfl qz
 have e20:=hk.pe 11
 have e19:=hk.pe 10
 refine wl_gyes rfl e19 ?_
 exact Hl_ 0 sc3 e20 (hp.ext hER) rfl rfl qz
 have e21:=hk.pe 12
 have e19:=hk.pe 10
 refine wl_gyes rfl e19 ?_
 refine Cl_ cl101 (by simp only [evs, ev, e21]; first | done | rfl) (n_isClient) ?_
 rintro _ _ ⟨rfl, rfl⟩
 exact wl_re (k := 22) (v := .bool false) rfl (congrArg Value.bool (decide_eq_false (by first | exact hs11 | omega | simpa using hs11))) qy
 have e19:=hk.pe 10
 have e22:=hk.pe 13
 exact Pk_ e19 e22 qz
 exact dm (hk.pe 14)
 exact dn (hk.pe 15)
 exact dn (hk.pe 15)
 exact dn (hk.pe 15)
 exact dn (hk.pe 15)
 exact dn (hk.pe 15)
 exact dn (hk.pe 15)
 exact dn (hk.pe 15)
 exact dn (hk.pe 15)
 have e24:=hk.pe 15
 have e32:=hk.pe 23
 exact Pk_ e24 rfl qz
 exact wl_assign (by decide) (hk.pe 24) qz
 intro F wD hED hini hdo
 refine wk_drop [(1, _), (3, _)] ⟨di hini 1, dq hdo 25, trivial⟩ ?_
 clear hini hdo
 replace hp:=hp.ext hED
 refine go ?_
 refine P1 results64 ?_
 exact ⟨_, rfl, bool_f fitT, hp.chg⟩
 apply wdL [.eq _,.eq _,.eq _,.eq (.bool true),.eq (.bool true),.eq _,.eq _,.eq _,.eq (.bool false),.eq (.bool false),.eq (.bool false),.eq undef,.eq undef,.eq undef,.eq (.bool false),.eq (.bool false),.eq undef,.eq undef,.eq undef,.eq undef,.eq undef,.eq undef,.eq undef,.eq undef,.eq (.bool false),.eq (.bool false)]
 refine ⟨?_,?_,?_,?_,?_,?_,?_,?_,?_,?_,?_,?_,?_,?_,?_,?_,?_,?_,?_,?_,?_,?_,?_,?_,?_,?_,trivial⟩<;>intro F wF hER hk
 exact Fd_ 38 fld38_7 (hk.pi 1) rfl qz
 exact Hl_ 0 sc24 (hk.pe 0) (hp.ext hER) rfl rfl qz
 exact Ln_ underlying24 (hk.pe 1) qz
 have e11:=hk.pe 2
 refine Eq_ e11 rfl ?_
 exact wl_re (k := 12) (v := .bool true) rfl (congrArg Value.bool (decide_eq_true (by first | exact hs9 | omega | simpa using hs9))) qy
 exact dm (hk.pe 3)
 have e1:=hk.pi 1
 have e13:=hk.pe 4
 refine wl_gyes rfl e13 ?_
 exact Fd_ 38 fld38_7 e1 rfl qz
 have e14:=hk.pe 5
 have e13:=hk.pe 4
 refine wl_gyes rfl e13 ?_
 exact Hl_ 0 sc24 e14 (hp.ext hER) rfl rfl qz
 have e1:=hk.pi 1
 have e13:=hk.pe 4
 refine wl_gyes rfl e13 ?_
 exact t0_nFits_ok
 have e15:=hk.pe 6
 have e16:=hk.pe 7
 have e13:=hk.pe 4
 refine wl_gyes rfl e13 ?_
 have hcl:=nBatchMay_ok ((hn0.ext q0).ext hER) ⟨hIn, _, _, _, _, _, _, _, _, _, _, _, _, _, _, _, _, _, _, _, _, _, _, rfl, ((hn0.ext q0).ext hER), ((hn1.ext q0).ext hER), ((hn2.ext q0).ext hER), ((hn3.ext q0).ext hER), ((hn4.ext q0).ext hER), ((hn5.ext q0).ext hER), ((hn6.ext q0).ext hER), ((hn7.ext q0).ext hER), ((hn8.ext q0).ext hER), ((hn9.ext q0).ext hER), ((hn10.ext q0).ext hER)⟩
 refine Cl_ cl100 (by simp only [evs, ev, e15, e16]; first | done | rfl) hcl ?_
 clear hcl
 rintro _ w7 ⟨rfl, hE7⟩
 refine wl_re (k := 17) (v := .bool false) rfl (congrArg Value.bool (decide_eq_false (by first | exact hs10 | omega | simpa using hs10))) ?_
 exact qy ⟨hE7, rfl⟩
 have e13:=hk.pe 4
 have e17:=hk.pe 8
 exact Pk_ e13 e17 qz
 exact dm (hk.pe 9)
 exact dn (hk.pe 10)
 exact dn (hk.pe 10)
 exact dn (hk.pe 10)
 have e19:=hk.pe 10
 have e22:=hk.pe 13
 exact Pk_ e19 rfl qz
 exact dm (hk.pe 14)
 exact dn (hk.pe 15)
 exact dn (hk.pe 15)
 exact dn (hk.pe 15)
 exact dn (hk.pe 15)
 exact dn (hk.pe 15)
 exact dn (hk.pe 15)
 exact dn (hk.pe 15)
 exact dn (hk.pe 15)
 have e24:=hk.pe 15
 have e32:=hk.pe 23
 exact Pk_ e24 rfl qz
 exact wl_assign (by decide) (hk.pe 24) qz
 intro F wD hED hini hdo
 refine wk_drop [(1, _), (3, _)] ⟨di hini 1, dq hdo 25, trivial⟩ ?_
 clear hini hdo
 replace hp:=hp.ext hED
 refine go ?_
 refine P1 results64 ?_
 exact ⟨_, rfl, bool_f fitT, hp.chg⟩
 apply wdL [.eq _,.eq _,.eq _,.eq (.bool false),.eq (.bool false),.eq undef,.eq undef,.eq undef,.eq undef,.eq (.bool false),.eq (.bool false),.eq undef,.eq undef,.eq undef,.eq (.bool false),.eq (.bool false),.eq undef,.eq undef,.eq undef,.eq undef,.eq undef,.eq undef,.eq undef,.eq undef,.eq (.bool false),.eq (.bool false)]
 refine ⟨?_,?_,?_,?_,?_,?_,?_,?_,?_,?_,?_,?_,?_,?_,?_,?_,?_,?_,?_,?_,?_,?_,?_,?_,?_,?_,trivial⟩<;>intro F wF hER hk
 exact Fd_ 38 fld38_7 (hk.pi 1) rfl qz
 exact Hl_ 0 sc24 (hk.pe 0) (hp.ext hER) rfl rfl qz
 exact Ln_ underlying24 (hk.pe 1) qz
 have e11:=hk.pe 2
 refine Eq_ e11 rfl ?_
 exact wl_re (k := 12) (v := .bool false) rfl (congrArg Value.bool (decide_eq_false (by first | exact hs9 | omega | simpa using hs9))) qy
 exact dm (hk.pe 3)
 exact dn (hk.pe 4)
 exact dn (hk.pe 4)
 exact dn (hk.pe 4)
 exact dn (hk.pe 4)
 have e13:=hk.pe 4
 have e17:=hk.pe 8
 exact Pk_ e13 rfl qz
 exact dm (hk.pe 9)
 exact dn (hk.pe 10)
 exact dn (hk.pe 10)
 exact dn (hk.pe 10)
 have e19:=hk.pe 10
 have e22:=hk.pe 13
 exact Pk_ e19 rfl qz
 exact dm (hk.pe 14)
 exact dn (hk.pe 15)
 exact dn (hk.pe 15)
 exact dn (hk.pe 15)
 exact dn (hk.pe 15)
 exact dn (hk.pe 15)
 exact dn (hk.pe 15)
 exact dn (hk.pe 15)
 exact dn (hk.pe 15)
 have e24:=hk.pe 15
 have e32:=hk.pe 23
 exact Pk_ e24 rfl qz
 exact wl_assign (by decide) (hk.pe 24) qz
 intro F wD hED hini hdo
 refine wk_drop [(1, _), (3, _)] ⟨di hini 1, dq hdo 25, trivial⟩ ?_
 clear hini hdo
 replace hp:=hp.ext hED
 refine go ?_
 refine P1 results64 ?_
 exact ⟨_, rfl, bool_f fitT, hp.chg⟩
 refine go ?_
 refine Eq_ rfl rfl (go ?_)
 refine Cd (fun hc14 => ?_) fun hc14 => ?_
 refine go ?_
 refine Fd_ 44 fld38_10 rfl rfl ?_
 refine Hl_ 0 sc3 rfl hp rfl rfl ?_
 refine Cl_ cl101 rfl (n_isClient) ?_
 rintro _ _ ⟨rfl, rfl⟩
 refine go ?_
 refine Gs 53 (fun hg15 => ?_) fun hg15 => ?_
 refine go ?_
 refine Fd_ 43 fld38_9 rfl rfl (go ?_)
 refine Hl_ 0 sc3 rfl hp rfl rfl (go ?_)
 refine Cl_ cl62 rfl (n_within) ?_
 rintro _ _ ⟨rfl, rfl⟩
 refine go ?_
 refine Gs 58 (fun hg16 => ?_) fun hg16 => ?_
 refine go ?_
 refine Fd_ 39 fld38_8 rfl rfl (go ?_)
 refine Hx_ ([iv n.ans.err, .slice An1 n.ans.data.length cn1, iv n.ans.epoch, .slice An2 n.ans.nodes.length cn2]) 0 ag29 rfl hp rfl rfl rfl (go ?_)
 have hcl:=nAnswerMay_ok ⟨(hIn.ans), _, _, _, _, rfl, (hn1.ext q0), (hn2.ext q0)⟩
 refine Cl_ cl102 rfl hcl ?_
 clear hcl
 rintro _ w6 ⟨rfl, hE6⟩
 replace hp:=hp.ext hE6
 refine go ?_
 refine P1 results64 ?_
 exact ⟨_, rfl, congrArg Value.bool (decide_eq_decide.2 fitT), hp.chg⟩
 refine go ?_
 refine P1 results64 ?_
 exact ⟨_, rfl, bool_f fitT, hp.chg⟩
 refine go ?_
 refine P1 results64 ?_
 exact ⟨_, rfl, bool_f fitT, hp.chg⟩
 refine go ?_
 refine Eq_ rfl rfl (go ?_)
 refine Cd (fun hc17 => ?_) fun hc17 => ?_
 refine go ?_
 refine Fd_ 4 fld38_4 rfl rfl ?_
 refine Hl_ 0 sc3 rfl hp rfl rfl ?_
 refine Cl_ cl103 rfl (n_isView) ?_
 rintro _ _ ⟨rfl, rfl⟩
 refine go ?_
 refine Gs 68 (fun hg18 => ?_) fun hg18 => ?_
 refine go ?_
 refine Fd_ 5 fld38_5 rfl rfl (go ?_)
 refine Hl_ 0 sc3 rfl hp rfl rfl (go ?_)
 refine Cl_ cl104 rfl (n_isSeq) ?_
 rintro _ _ ⟨rfl, rfl⟩
 refine go ?_
 refine Gs 73 (fun hg19 => ?_) fun hg19 => ?_
 refine go ?_
 refine Fd_ 38 fld38_7 rfl rfl (go ?_)
 refine Hl_ 0 sc24 rfl hp rfl rfl (go ?_)
 refine Hx_ ([iv n.kind, iv n.from_, iv n.group, iv n.epoch, iv n.view, iv n.seq] ++ (digC n.dig ++ ([.slice An0 n.batch.length cn0, iv n.ans.err, .slice An1 n.ans.data.length cn1, iv n.ans.epoch, .slice An2 n.ans.nodes.length cn2, iv n.stamp, iv n.node, iv n.change.node, iv n.change.view, iv n.change.low, .slice An3 n.change.marks.length cn3, .slice An4 n.change.p.length cn4, .slice An5 n.change.q.length cn5, .slice An6 n.changes.length cn6, .slice An7 n.picks.length cn7, iv n.level, iv n.place, .slice An8 n.digs.length cn8, .slice An9 n.data.length cn9, .slice An10 n.nodes.length cn10]))) 0 ag38 rfl hp rfl rfl rfl (go ?_)
 have hcl:=nBatchMay_ok (hn0.ext q0) ⟨hIn, _, _, _, _, _, _, _, _, _, _, _, _, _, _, _, _, _, _, _, _, _, _, rfl, (hn0.ext q0), (hn1.ext q0), (hn2.ext q0), (hn3.ext q0), (hn4.ext q0), (hn5.ext q0), (hn6.ext q0), (hn7.ext q0), (hn8.ext q0), (hn9.ext q0), (hn10.ext q0)⟩
 refine Cl_ cl100 rfl hcl ?_
 clear hcl
 rintro _ w9 ⟨rfl, hE9⟩
 replace hp:=hp.ext hE9
 refine go ?_
 refine P1 results64 ?_
 exact ⟨_, rfl, congrArg Value.bool (decide_eq_decide.2 fitT), hp.chg⟩
 refine go ?_
 refine P1 results64 ?_
 exact ⟨_, rfl, bool_f fitT, hp.chg⟩
 refine go ?_
 refine P1 results64 ?_
 exact ⟨_, rfl, bool_f fitT, hp.chg⟩
 refine go ?_
 refine Eq_ rfl rfl (go ?_)
 refine Cd (fun hc20 => ?_) fun hc20 => ?_
 refine go ?_
 refine Cd (fun hc21 => ?_) fun hc21 => ?_
 refine go ?_
 refine Fd_ 4 fld38_4 rfl rfl ?_
 refine Hl_ 0 sc3 rfl hp rfl rfl ?_
 refine Cl_ cl103 rfl (n_isView) ?_
 rintro _ _ ⟨rfl, rfl⟩
 refine go ?_
 refine Gs 85 (fun hg22 => ?_) fun hg22 => ?_
 refine go ?_
 refine Fd_ 5 fld38_5 rfl rfl (go ?_)
 refine Hl_ 0 sc3 rfl hp rfl rfl (go ?_)
 refine Cl_ cl104 rfl (n_isSeq) ?_
 rintro _ _ ⟨rfl, rfl⟩
 refine go ?_
 refine P1 results64 ?_
 exact ⟨_, rfl, congrArg Value.bool (decide_eq_decide.2 fitT), hp.chg⟩
 refine go ?_
 refine P1 results64 ?_
 exact ⟨_, rfl, bool_f fitT, hp.chg⟩
 exact absurd hc20 hc21
 refine go ?_
 refine Eq_ rfl rfl (go ?_)
 refine Cd (fun hc23 => ?_) fun hc23 => ?_
 refine go ?_
 refine Fd_ 4 fld38_4 rfl rfl ?_
 refine Hl_ 0 sc3 rfl hp rfl rfl ?_
 refine Cl_ cl103 rfl (n_isView) ?_
 rintro _ _ ⟨rfl, rfl⟩
 refine go ?_
 refine Gs 85 (fun hg24 => ?_) fun hg24 => ?_
 refine go ?_
 refine Fd_ 5 fld38_5 rfl rfl (go ?_)
 refine Hl_ 0 sc3 rfl hp rfl rfl (go ?_)
 refine Cl_ cl104 rfl (n_isSeq) ?_
 rintro _ _ ⟨rfl, rfl⟩
 refine go ?_
 refine P1 results64 ?_
 exact ⟨_, rfl, congrArg Value.bool (decide_eq_decide.2 fitT), hp.chg⟩
 refine go ?_
 refine P1 results64 ?_
 exact ⟨_, rfl, bool_f fitT, hp.chg⟩
 refine go ?_
 refine Eq_ rfl rfl (go ?_)
 refine Cd (fun hc25 => ?_) fun hc25 => ?_
 refine go ?_
 refine Cd (fun hc26 => ?_) fun hc26 => ?_
 refine go ?_
 refine Fd_ 5 fld38_5 rfl rfl ?_
 refine Hl_ 0 sc3 rfl hp rfl rfl ?_
 refine Cl_ cl104 rfl (n_isSeq) ?_
 rintro _ _ ⟨rfl, rfl⟩
 refine go ?_
 refine P1 results64 ?_
 exact ⟨_, rfl, congrArg Value.bool (decide_eq_decide.2 fitT), hp.chg⟩
 exact absurd hc25 hc26
 refine go ?_
 refine Eq_ rfl rfl (go ?_)
 refine Cd (fun hc27 => ?_) fun hc27 => ?_
 refine go ?_
 refine Fd_ 5 fld38_5 rfl rfl ?_
 refine Hl_ 0 sc3 rfl hp rfl rfl ?_
 refine Cl_ cl104 rfl (n_isSeq) ?_
 rintro _ _ ⟨rfl, rfl⟩
 refine go ?_
 refine P1 results64 ?_
 exact ⟨_, rfl, congrArg Value.bool (decide_eq_decide.2 fitT), hp.chg⟩
 refine go ?_
 refine Eq_ rfl rfl (go ?_)
 refine Cd (fun hc28 => ?_) fun hc28 => ?_
 refine go ?_
 refine Fd_ 45 fld38_11 rfl rfl ?_
 refine Hx_ ([iv n.change.node, iv n.change.view, iv n.change.low, .slice An3 n.change.marks.length cn3, .slice An4 n.change.p.length cn4, .slice An5 n.change.q.length cn5]) 0 ag33 rfl hp rfl rfl rfl ?_
 have hcl:=nChangeMay_ok ⟨(hIn.change), _, _, _, _, _, _, rfl, (hn3.ext q0), (hn4.ext q0), (hn5.ext q0)⟩
 refine Cl_ cl56 rfl hcl ?_
 clear hcl
 rintro _ w16 ⟨rfl, hE16⟩
 replace hp:=hp.ext hE16
 refine go ?_
 refine Gs 101 (fun hg29 => ?_) fun hg29 => ?_
 refine go ?_
 refine Fd_ 45 fld38_11 rfl rfl (go ?_)
 refine Fd_ 45 fld33_0 rfl rfl (go ?_)
 refine Hl_ 0 sc3 rfl hp rfl rfl (go ?_)
 refine Fd_ 1 fld38_1 rfl rfl (go ?_)
 refine Hl_ 0 sc3 rfl hp rfl rfl (go ?_)
 refine Eq_ rfl rfl (go ?_)
 refine P1 results64 ?_
 exact ⟨_, rfl, congrArg Value.bool (decide_eq_decide.2 fitT), hp.chg⟩
 refine go ?_
 refine P1 results64 ?_
 exact ⟨_, rfl, bool_f fitT, hp.chg⟩
 refine go ?_
 refine Eq_ rfl rfl (go ?_)
 refine Cd (fun hc30 => ?_) fun hc30 => ?_
 refine go ?_
 refine Fd_ 4 fld38_4 rfl rfl ?_
 refine Hl_ 0 sc3 rfl hp rfl rfl ?_
 refine Cl_ cl103 rfl (n_isView) ?_
 rintro _ _ ⟨rfl, rfl⟩
 refine go ?_
 refine Gs 114 (fun hg31 => ?_) fun hg31 => ?_
 refine go ?_
 refine Fd_ 4 fld38_4 rfl rfl (go ?_)
 refine Hl_ 0 sc3 rfl hp rfl rfl (go ?_)
 refine Gt_ rfl rfl (go ?_)
 refine Gs 119 (fun hg32 => ?_) fun hg32 => ?_
 refine go ?_
 refine Fd_ 44 fld38_10 rfl rfl (go ?_)
 refine Hl_ 0 sc3 rfl hp rfl rfl (go ?_)
 refine Cl_ cl63 rfl (n_isNode) ?_
 rintro _ _ ⟨rfl, rfl⟩
 refine go ?_
 refine Gs 124 (fun hg33 => ?_) fun hg33 => ?_
 refine go ?_
 refine Fd_ 44 fld38_10 rfl rfl (go ?_)
 refine Hl_ 0 sc3 rfl hp rfl rfl (go ?_)
 refine Fd_ 1 fld38_1 rfl rfl (go ?_)
 refine Hl_ 0 sc3 rfl hp rfl rfl (go ?_)
 refine Ne_ rfl rfl (go ?_)
 refine P1 results64 ?_
 exact ⟨_, rfl, congrArg Value.bool (decide_eq_decide.2 fitT), hp.chg⟩
 refine go ?_
 refine P1 results64 ?_
 exact ⟨_, rfl, bool_f fitT, hp.chg⟩
 refine go ?_
 refine P1 results64 ?_
 exact ⟨_, rfl, bool_f fitT, hp.chg⟩
 refine go ?_
 refine P1 results64 ?_
 exact ⟨_, rfl, bool_f fitT, hp.chg⟩
 refine go ?_
 refine Eq_ rfl rfl (go ?_)
 refine Cd (fun hc34 => ?_) fun hc34 => ?_
 refine go ?_
 refine Hx_ ([iv n.kind, iv n.from_, iv n.group, iv n.epoch, iv n.view, iv n.seq] ++ (digC n.dig ++ ([.slice An0 n.batch.length cn0, iv n.ans.err, .slice An1 n.ans.data.length cn1, iv n.ans.epoch, .slice An2 n.ans.nodes.length cn2, iv n.stamp, iv n.node, iv n.change.node, iv n.change.view, iv n.change.low, .slice An3 n.change.marks.length cn3, .slice An4 n.change.p.length cn4, .slice An5 n.change.q.length cn5, .slice An6 n.changes.length cn6, .slice An7 n.picks.length cn7, iv n.level, iv n.place, .slice An8 n.digs.length cn8, .slice An9 n.data.length cn9, .slice An10 n.nodes.length cn10]))) 0 ag38 rfl hp rfl rfl rfl ?_
 have hcl:=nNewMay_ok ⟨hIn, _, _, _, _, _, _, _, _, _, _, _, _, _, _, _, _, _, _, _, _, _, _, rfl, (hn0.ext q0), (hn1.ext q0), (hn2.ext q0), (hn3.ext q0), (hn4.ext q0), (hn5.ext q0), (hn6.ext q0), (hn7.ext q0), (hn8.ext q0), (hn9.ext q0), (hn10.ext q0)⟩ (by omega)
 refine Cl_ cl105 rfl hcl ?_
 clear hcl
 rintro _ w19 ⟨rfl, hE19⟩
 replace hp:=hp.ext hE19
 refine go ?_
 refine P1 results64 ?_
 exact ⟨_, rfl, congrArg Value.bool (decide_eq_decide.2 fitT), hp.chg⟩
 refine go ?_
 refine Eq_ rfl rfl (go ?_)
 refine Cd (fun hc35 => ?_) fun hc35 => ?_
 refine go ?_
 refine Cd (fun hc36 => ?_) fun hc36 => ?_
 refine go ?_
 refine Fd_ 5 fld38_5 rfl rfl ?_
 refine Hl_ 0 sc3 rfl hp rfl rfl ?_
 refine Cl_ cl104 rfl (n_isSeq) ?_
 rintro _ _ ⟨rfl, rfl⟩
 refine go ?_
 refine Gs 141 (fun hg37 => ?_) fun hg37 => ?_
 refine go ?_
 refine Fd_ 53 fld38_14 rfl rfl (go ?_)
 refine Hl_ 0 sc3 rfl hp rfl rfl (go ?_)
 refine Cl_ cl62 rfl (n_within) ?_
 rintro _ _ ⟨rfl, rfl⟩
 refine go ?_
 refine Gs 146 (fun hg38 => ?_) fun hg38 => ?_
 refine go ?_
 refine Fd_ 54 fld38_15 rfl rfl (go ?_)
 refine Hl_ 0 sc3 rfl hp rfl rfl (go ?_)
 refine Cl_ cl62 rfl (n_within) ?_
 rintro _ _ ⟨rfl, rfl⟩
 refine go ?_
 refine Gs 151 (fun hg39 => ?_) fun hg39 => ?_
 refine go ?_
 refine Fd_ 55 fld38_16 rfl rfl (go ?_)
 refine Hl_ 0 sc36 rfl hp rfl rfl (go ?_)
 refine Ln_ underlying36 rfl (go ?_)
 refine Lq_ rfl rfl (go ?_)
 refine Gs 157 (fun hg40 => ?_) fun hg40 => ?_
 refine go ?_
 refine Fd_ 56 fld38_17 rfl rfl (go ?_)
 refine Hl_ 0 sc26 rfl hp rfl rfl (go ?_)
 refine Ln_ underlying26 rfl (go ?_)
 refine Lq_ rfl rfl (go ?_)
 refine P1 results64 ?_
 exact ⟨_, rfl, congrArg Value.bool (decide_eq_decide.2 fitT), hp.chg⟩
 refine go ?_
 refine P1 results64 ?_
 exact ⟨_, rfl, bool_f fitT, hp.chg⟩
 refine go ?_
 refine P1 results64 ?_
 exact ⟨_, rfl, bool_f fitT, hp.chg⟩
 refine go ?_
 refine P1 results64 ?_
 exact ⟨_, rfl, bool_f fitT, hp.chg⟩
 refine go ?_
 refine P1 results64 ?_
 exact ⟨_, rfl, bool_f fitT, hp.chg⟩
 exact absurd hc35 hc36
 refine go ?_
 refine Eq_ rfl rfl (go ?_)
 refine Cd (fun hc41 => ?_) fun hc41 => ?_
 refine go ?_
 refine Fd_ 5 fld38_5 rfl rfl ?_
 refine Hl_ 0 sc3 rfl hp rfl rfl ?_
 refine Cl_ cl104 rfl (n_isSeq) ?_
 rintro _ _ ⟨rfl, rfl⟩
 refine go ?_
 refine Gs 141 (fun hg42 => ?_) fun hg42 => ?_
 refine go ?_
 refine Fd_ 53 fld38_14 rfl rfl (go ?_)
 refine Hl_ 0 sc3 rfl hp rfl rfl (go ?_)
 refine Cl_ cl62 rfl (n_within) ?_
 rintro _ _ ⟨rfl, rfl⟩
 refine go ?_
 refine Gs 146 (fun hg43 => ?_) fun hg43 => ?_
 refine go ?_
 refine Fd_ 54 fld38_15 rfl rfl (go ?_)
 refine Hl_ 0 sc3 rfl hp rfl rfl (go ?_)
 refine Cl_ cl62 rfl (n_within) ?_
 rintro _ _ ⟨rfl, rfl⟩
 refine go ?_
 refine Gs 151 (fun hg44 => ?_) fun hg44 => ?_
 refine go ?_
 refine Fd_ 55 fld38_16 rfl rfl (go ?_)
 refine Hl_ 0 sc36 rfl hp rfl rfl (go ?_)
 refine Ln_ underlying36 rfl (go ?_)
 refine Lq_ rfl rfl (go ?_)
 refine Gs 157 (fun hg45 => ?_) fun hg45 => ?_
 refine go ?_
 refine Fd_ 56 fld38_17 rfl rfl (go ?_)
 refine Hl_ 0 sc26 rfl hp rfl rfl (go ?_)
 refine Ln_ underlying26 rfl (go ?_)
 refine Lq_ rfl rfl (go ?_)
 refine P1 results64 ?_
 exact ⟨_, rfl, congrArg Value.bool (decide_eq_decide.2 fitT), hp.chg⟩
 refine go ?_
 refine P1 results64 ?_
 exact ⟨_, rfl, bool_f fitT, hp.chg⟩
 refine go ?_
 refine P1 results64 ?_
 exact ⟨_, rfl, bool_f fitT, hp.chg⟩
 refine go ?_
 refine P1 results64 ?_
 exact ⟨_, rfl, bool_f fitT, hp.chg⟩
 refine go ?_
 refine P1 results64 ?_
 exact ⟨_, rfl, bool_f fitT, hp.chg⟩
 refine go ?_
 refine Eq_ rfl rfl (go ?_)
 refine Cd (fun hc46 => ?_) fun hc46 => ?_
 refine go ?_
 refine Fd_ 57 fld38_18 rfl rfl ?_
 refine Hl_ 0 sc27 rfl hp rfl rfl ?_
 refine Ln_ underlying27 rfl ?_
 refine Cl_ cl62 rfl (n_within) ?_
 rintro _ _ ⟨rfl, rfl⟩
 refine go ?_
 refine Gs 169 (fun hg47 => ?_) fun hg47 => ?_
 refine go ?_
 refine Fd_ 57 fld38_18 rfl rfl (go ?_)
 refine Hl_ 0 sc27 rfl hp rfl rfl (go ?_)
 have hcl:=nRise_ok (hn10.ext q0)
 refine Cl_ cl93 rfl hcl ?_
 clear hcl
 rintro _ w27 ⟨rfl, hE27⟩
 replace q0:=q0.trans hE27
 replace hp:=hp.ext hE27
 refine go ?_
 refine Gs 174 (fun hg48 => ?_) fun hg48 => ?_
 refine go ?_
 refine Fd_ 57 fld38_18 rfl rfl (go ?_)
 refine Hl_ 0 sc27 rfl hp rfl rfl (go ?_)
 have hcl:=fICon_ok (fid := 107) (first := []) (cap := []) (p0 := fun x => ¬ (1 ≤ x ∧ x ≤ 28)) (hn10.ext q0) cl107 (fun w1 x hE => (fits1_ok (n := x)).mono (fun v w2 h => ⟨h.1, h.2 ▸ Chg.refl _ _⟩))
 refine Cl_ cl106 rfl hcl ?_
 clear hcl
 rintro _ w7 ⟨rfl, hE7⟩
 replace hp:=hp.ext hE7
 refine go ?_
 first | refine Nd_ rfl ?_ | refine Nn_ rfl ?_
 refine go ?_
 refine P1 results64 ?_
 exact ⟨_, rfl, congrArg Value.bool (decide_eq_decide.2 fitT), hp.chg⟩
 refine go ?_
 refine P1 results64 ?_
 exact ⟨_, rfl, bool_f fitT, hp.chg⟩
 refine go ?_
 refine P1 results64 ?_
 exact ⟨_, rfl, bool_f fitT, hp.chg⟩
 refine go ?_
 refine Eq_ rfl rfl (go ?_)
 refine Cd (fun hc49 => ?_) fun hc49 => ?_
 refine go ?_
 refine Fd_ 38 fld38_7 rfl rfl ?_
 refine Hl_ 0 sc24 rfl hp rfl rfl ?_
 refine Hx_ ([iv n.kind, iv n.from_, iv n.group, iv n.epoch, iv n.view, iv n.seq] ++ (digC n.dig ++ ([.slice An0 n.batch.length cn0, iv n.ans.err, .slice An1 n.ans.data.length cn1, iv n.ans.epoch, .slice An2 n.ans.nodes.length cn2, iv n.stamp, iv n.node, iv n.change.node, iv n.change.view, iv n.change.low, .slice An3 n.change.marks.length cn3, .slice An4 n.change.p.length cn4, .slice An5 n.change.q.length cn5, .slice An6 n.changes.length cn6, .slice An7 n.picks.length cn7, iv n.level, iv n.place, .slice An8 n.digs.length cn8, .slice An9 n.data.length cn9, .slice An10 n.nodes.length cn10]))) 0 ag38 rfl hp rfl rfl rfl ?_
 have hcl:=nBatchMay_ok (hn0.ext q0) ⟨hIn, _, _, _, _, _, _, _, _, _, _, _, _, _, _, _, _, _, _, _, _, _, _, rfl, (hn0.ext q0), (hn1.ext q0), (hn2.ext q0), (hn3.ext q0), (hn4.ext q0), (hn5.ext q0), (hn6.ext q0), (hn7.ext q0), (hn8.ext q0), (hn9.ext q0), (hn10.ext q0)⟩
 refine Cl_ cl100 rfl hcl ?_
 clear hcl
 rintro _ w28 ⟨rfl, hE28⟩
 replace hp:=hp.ext hE28
 refine go ?_
 refine P1 results64 ?_
 exact ⟨_, rfl, congrArg Value.bool (decide_eq_decide.2 fitT), hp.chg⟩
 refine go ?_
 refine Fd_ 5 fld38_5 rfl rfl ?_
 refine Hl_ 0 sc3 rfl hp rfl rfl ?_
 refine Cl_ cl104 rfl (n_isSeq) ?_
 rintro _ _ ⟨rfl, rfl⟩
 refine go ?_
 refine Gs 189 (fun hg50 => ?_) fun hg50 => ?_
 refine go ?_
 refine Fd_ 38 fld38_7 rfl rfl (go ?_)
 refine Hl_ 0 sc24 rfl hp rfl rfl (go ?_)
 refine Hx_ ([iv n.kind, iv n.from_, iv n.group, iv n.epoch, iv n.view, iv n.seq] ++ (digC n.dig ++ ([.slice An0 n.batch.length cn0, iv n.ans.err, .slice An1 n.ans.data.length cn1, iv n.ans.epoch, .slice An2 n.ans.nodes.length cn2, iv n.stamp, iv n.node, iv n.change.node, iv n.change.view, iv n.change.low, .slice An3 n.change.marks.length cn3, .slice An4 n.change.p.length cn4, .slice An5 n.change.q.length cn5, .slice An6 n.changes.length cn6, .slice An7 n.picks.length cn7, iv n.level, iv n.place, .slice An8 n.digs.length cn8, .slice An9 n.data.length cn9, .slice An10 n.nodes.length cn10]))) 0 ag38 rfl hp rfl rfl rfl (go ?_)
 have hcl:=nBatchMay_ok (hn0.ext q0) ⟨hIn, _, _, _, _, _, _, _, _, _, _, _, _, _, _, _, _, _, _, _, _, _, _, rfl, (hn0.ext q0), (hn1.ext q0), (hn2.ext q0), (hn3.ext q0), (hn4.ext q0), (hn5.ext q0), (hn6.ext q0), (hn7.ext q0), (hn8.ext q0), (hn9.ext q0), (hn10.ext q0)⟩
 refine Cl_ cl100 rfl hcl ?_
 clear hcl
 rintro _ w30 ⟨rfl, hE30⟩
 replace hp:=hp.ext hE30
 refine go ?_
 refine P1 results64 ?_
 exact ⟨_, rfl, congrArg Value.bool (decide_eq_decide.2 fitT), hp.chg⟩
 refine go ?_
 refine P1 results64 ?_
 exact ⟨_, rfl, bool_f fitT, hp.chg⟩
set_option maxHeartbeats 40000000 in
theorem nMay_ok {csn : List Value} {n : Nte} {Sn : Nat → Prop} (hn : noteR.rd Sn w csn n) (hch : n.changes.length * 96 ≤ 140737488355328) : Ret prog 38 #[.agg csn.toArray] w (fun v w' => v = .bool (decide (MayN n)) ∧ Ext w w') := by
 obtain ⟨hIn, An0, cn0, An1, cn1, An2, cn2, An3, cn3, An4, cn4, An5, cn5, An6, cn6, An7, cn7, An8, cn8, An9, cn9, An10, cn10, rfl, hn0, hn1, hn2, hn3, hn4, hn5, hn6, hn7, hn8, hn9, hn10⟩ := hn
 have mhn0:=hn0.mx
 have mhn1:=hn1.mx
 have mhn2:=hn2.mx
 have mhn3:=hn3.mx
 have mhn4:=hn4.mx
 have mhn5:=hn5.mx
 have mhn6:=hn6.mx
 have mhn7:=hn7.mx
 have mhn8:=hn8.mx
 have mhn9:=hn9.mx
 have mhn10:=hn10.mx
 refine ret_of_wk func38 rfl ntmps38 leB_ ?_
 have hp:=HP.begin_ w
 replace hn0:=hn0.now
 replace hn1:=hn1.now
 replace hn2:=hn2.now
 replace hn3:=hn3.now
 replace hn4:=hn4.now
 replace hn5:=hn5.now
 replace hn6:=hn6.now
 replace hn7:=hn7.now
 replace hn8:=hn8.now
 replace hn9:=hn9.now
 replace hn10:=hn10.now
 refine go ?_
 refine wl_hbox (by decide) rfl hp ?_
 rintro gs1 w1 hp1 hE1
 have q0:=hE1
 replace hp:=hp1
 refine go ?_
 refine Fd_ 0 fld38_0 rfl rfl ?_
 refine Hl_ 0 sc3 rfl hp rfl rfl ?_
 refine Eq_ rfl rfl (go ?_)
 refine Gs 8 (fun hg1 => ?_) fun hg1 => ?_
 refine go ?_
 refine Fd_ 0 fld38_0 rfl rfl ?_
 refine Hl_ 0 sc3 rfl hp rfl rfl ?_
 refine Cl_ cl62 rfl (n_within) ?_
 rintro _ _ ⟨rfl, rfl⟩
 refine go ?_
 refine Gs 16 (fun hg2 => ?_) fun hg2 => ?_
 refine go ?_
 refine Fd_ 2 fld38_2 rfl rfl (go ?_)
 refine Hl_ 0 sc3 rfl hp rfl rfl (go ?_)
 refine Cl_ cl62 rfl (n_within) ?_
 rintro _ _ ⟨rfl, rfl⟩
 refine go ?_
 refine Gs 21 (fun hg3 => ?_) fun hg3 => ?_
 refine go ?_
 refine Fd_ 3 fld38_3 rfl rfl (go ?_)
 refine Hl_ 0 sc3 rfl hp rfl rfl (go ?_)
 refine Cl_ cl62 rfl (n_within) ?_
 rintro _ _ ⟨rfl, rfl⟩
 refine go ?_
 refine Gs 26 (fun hg4 => ?_) fun hg4 => ?_
 refine go ?_
 refine Hx_ ([iv n.kind, iv n.from_, iv n.group, iv n.epoch, iv n.view, iv n.seq] ++ (digC n.dig ++ ([.slice An0 n.batch.length cn0, iv n.ans.err, .slice An1 n.ans.data.length cn1, iv n.ans.epoch, .slice An2 n.ans.nodes.length cn2, iv n.stamp, iv n.node, iv n.change.node, iv n.change.view, iv n.change.low, .slice An3 n.change.marks.length cn3, .slice An4 n.change.p.length cn4, .slice An5 n.change.q.length cn5, .slice An6 n.changes.length cn6, .slice An7 n.picks.length cn7, iv n.level, iv n.place, .slice An8 n.digs.length cn8, .slice An9 n.data.length cn9, .slice An10 n.nodes.length cn10]))) 0 ag38 rfl hp rfl rfl rfl (go ?_)
 have hcl:=nFits_ok ⟨hIn, _, _, _, _, _, _, _, _, _, _, _, _, _, _, _, _, _, _, _, _, _, _, rfl, (hn0.ext q0), (hn1.ext q0), (hn2.ext q0), (hn3.ext q0), (hn4.ext q0), (hn5.ext q0), (hn6.ext q0), (hn7.ext q0), (hn8.ext q0), (hn9.ext q0), (hn10.ext q0)⟩ (by omega)
 refine Cl_ cl64 rfl hcl ?_
 clear hcl
 rintro _ w5 ⟨rfl, hE5⟩
 replace hp:=hp.ext hE5
 refine go ?_
 refine P1 results38 ?_
 exact ⟨_, rfl, congrArg Value.bool (decide_eq_decide.2 (by unfold MayN; first | omega | (simp only [hg1, hg3, hg4, true_and]; omega) | simp_all)), hp.chg⟩
 refine go ?_
 refine P1 results38 ?_
 exact ⟨_, rfl, bool_f (by unfold MayN; first | omega | (simp only [hg1, hg2, hg3, hg4, true_and, and_true, false_and, and_false]; omega) | simp_all), hp.chg⟩
 refine go ?_
 refine P1 results38 ?_
 exact ⟨_, rfl, bool_f (by unfold MayN; first | omega | (simp only [hg1, hg2, hg3, true_and, and_true, false_and, and_false]; omega) | simp_all), hp.chg⟩
 refine go ?_
 refine P1 results38 ?_
 exact ⟨_, rfl, bool_f (by unfold MayN; first | omega | (simp only [hg1, hg2, true_and, and_true, false_and, and_false]; omega) | simp_all), hp.chg⟩
 refine go ?_
 refine Fd_ 0 fld38_0 rfl rfl (go ?_)
 refine Hl_ 0 sc3 rfl hp rfl rfl (go ?_)
 refine Eq_ rfl rfl (go ?_)
 refine Fd_ 0 fld38_0 rfl rfl ?_
 refine Hl_ 0 sc3 rfl hp rfl rfl ?_
 refine Cl_ cl62 rfl (n_within) ?_
 rintro _ _ ⟨rfl, rfl⟩
 refine go ?_
 refine Gs 16 (fun hg5 => ?_) fun hg5 => ?_
 refine go ?_
 refine Fd_ 2 fld38_2 rfl rfl (go ?_)
 refine Hl_ 0 sc3 rfl hp rfl rfl (go ?_)
 refine Cl_ cl62 rfl (n_within) ?_
 rintro _ _ ⟨rfl, rfl⟩
 refine go ?_
 refine Gs 21 (fun hg6 => ?_) fun hg6 => ?_
 refine go ?_
 refine Fd_ 3 fld38_3 rfl rfl (go ?_)
 refine Hl_ 0 sc3 rfl hp rfl rfl (go ?_)
 refine Cl_ cl62 rfl (n_within) ?_
 rintro _ _ ⟨rfl, rfl⟩
 refine go ?_
 refine Gs 26 (fun hg7 => ?_) fun hg7 => ?_
 refine go ?_
 refine Gs 28 (fun hg8 => ?_) fun hg8 => ?_
 refine go ?_
 refine Hx_ ([iv n.kind, iv n.from_, iv n.group, iv n.epoch, iv n.view, iv n.seq] ++ (digC n.dig ++ ([.slice An0 n.batch.length cn0, iv n.ans.err, .slice An1 n.ans.data.length cn1, iv n.ans.epoch, .slice An2 n.ans.nodes.length cn2, iv n.stamp, iv n.node, iv n.change.node, iv n.change.view, iv n.change.low, .slice An3 n.change.marks.length cn3, .slice An4 n.change.p.length cn4, .slice An5 n.change.q.length cn5, .slice An6 n.changes.length cn6, .slice An7 n.picks.length cn7, iv n.level, iv n.place, .slice An8 n.digs.length cn8, .slice An9 n.data.length cn9, .slice An10 n.nodes.length cn10]))) 0 ag38 rfl hp rfl rfl rfl (go ?_)
 have hcl:=nFits_ok ⟨hIn, _, _, _, _, _, _, _, _, _, _, _, _, _, _, _, _, _, _, _, _, _, _, rfl, (hn0.ext q0), (hn1.ext q0), (hn2.ext q0), (hn3.ext q0), (hn4.ext q0), (hn5.ext q0), (hn6.ext q0), (hn7.ext q0), (hn8.ext q0), (hn9.ext q0), (hn10.ext q0)⟩ (by omega)
 refine Cl_ cl64 rfl hcl ?_
 clear hcl
 rintro _ w9 ⟨rfl, hE9⟩
 replace hp:=hp.ext hE9
 refine go ?_
 refine P1 results38 ?_
 exact ⟨_, rfl, congrArg Value.bool (decide_eq_decide.2 (by unfold MayN; first | omega | (simp only [hg6, hg7, hg8, true_and]; omega) | simp_all)), hp.chg⟩
 refine go ?_
 refine Fd_ 1 fld38_1 rfl rfl (go ?_)
 refine Hl_ 0 sc3 rfl hp rfl rfl (go ?_)
 refine Cl_ cl63 rfl (n_isNode) ?_
 rintro _ _ ⟨rfl, rfl⟩
 refine go ?_
 refine Gs 35 (fun hg9 => ?_) fun hg9 => ?_
 refine go ?_
 refine Hx_ ([iv n.kind, iv n.from_, iv n.group, iv n.epoch, iv n.view, iv n.seq] ++ (digC n.dig ++ ([.slice An0 n.batch.length cn0, iv n.ans.err, .slice An1 n.ans.data.length cn1, iv n.ans.epoch, .slice An2 n.ans.nodes.length cn2, iv n.stamp, iv n.node, iv n.change.node, iv n.change.view, iv n.change.low, .slice An3 n.change.marks.length cn3, .slice An4 n.change.p.length cn4, .slice An5 n.change.q.length cn5, .slice An6 n.changes.length cn6, .slice An7 n.picks.length cn7, iv n.level, iv n.place, .slice An8 n.digs.length cn8, .slice An9 n.data.length cn9, .slice An10 n.nodes.length cn10]))) 0 ag38 rfl hp rfl rfl rfl (go ?_)
 have hcl:=nFits_ok ⟨hIn, _, _, _, _, _, _, _, _, _, _, _, _, _, _, _, _, _, _, _, _, _, _, rfl, (hn0.ext q0), (hn1.ext q0), (hn2.ext q0), (hn3.ext q0), (hn4.ext q0), (hn5.ext q0), (hn6.ext q0), (hn7.ext q0), (hn8.ext q0), (hn9.ext q0), (hn10.ext q0)⟩ (by omega)
 refine Cl_ cl64 rfl hcl ?_
 clear hcl
 rintro _ w11 ⟨rfl, hE11⟩
 replace hp:=hp.ext hE11
 refine go ?_
 refine P1 results38 ?_
 exact ⟨_, rfl, congrArg Value.bool (decide_eq_decide.2 (by unfold MayN; first | omega | (simp only [hg1, hg5, hg6, hg7, hg8, hg9, true_and, and_true]; omega) | simp_all)), hp.chg⟩
 refine go ?_
 refine P1 results38 ?_
 exact ⟨_, rfl, bool_f (by unfold MayN; first | omega | (simp only [hg1, hg5, hg6, hg7, hg8, hg9, true_and, and_true, false_and, and_false]; omega) | simp_all), hp.chg⟩
 refine go ?_
 refine P1 results38 ?_
 exact ⟨_, rfl, bool_f (by unfold MayN; first | omega | (simp only [hg1, hg5, hg6, hg7, true_and, and_true, false_and, and_false]; omega) | simp_all), hp.chg⟩
 refine go ?_
 refine P1 results38 ?_
 exact ⟨_, rfl, bool_f (by unfold MayN; first | omega | (simp only [hg1, hg5, hg6, true_and, and_true, false_and, and_false]; omega) | simp_all), hp.chg⟩
 refine go ?_
 refine P1 results38 ?_
 exact ⟨_, rfl, bool_f (by unfold MayN; first | omega | (simp only [hg1, hg5, true_and, and_true, false_and, and_false]; omega) | simp_all), hp.chg⟩
end Go.Proofs.YtkdoomglflikkaaGreat
namespace Go.Eng
open Go.RowKit
section
variable {P : Program} {n : Nat} {Q : Exit → Act → World → Prop} {L : List (Nat × Value)} {w : World}
def okE (ops : Array Oper) (m e de j dj : Nat) : Bool :=
 decide (e < m) && decide (j < m) && decide (m ≤ ops.size) && decide (j ≠ e) && (dstOf ops e == some de) && (dstOf ops j == some dj) && (edgesOf ops j).contains e && (List.range ops.size).all fun i => (decide (i = e) || !(dstOf ops i == some de)) && (decide (i = j) || !(dstOf ops i == some dj))
theorem wc_drawE {id : Nat} (m e de j dj : Nat) {l : List Oper} (Post : World → Value → World → Prop) (Ψ : Value → Value → World → Prop) (Φ : Nat → Value → Prop) (hm : P.follows .mixedOrders = true) (hB : drawnB (l.take m) (l.drop m) = true) (hO : okE l.toArray m e de j dj = true)
  (hPost : ∀ v w1 w2, Ext w1 w2 → Post w v w1 → Post w v w2) (hΨ : ∀ v u w1 w2, Ext w1 w2 → Ψ v u w1 → Ψ v u w2)
  (H : AllOps (fun i o => i = e ∨ i = j ∨ ∀ F w', (Ext w w' ∨ ∃ v, Post w v w') → Kn l.toArray L (fun i v _w => i = e ∨ i = j ∨ Φ i v) i F w' → WL P n l.toArray (QR n F (dstOf l.toArray i) fun v w'' => Ext w' w'' ∧ Φ i v) [o] F w') 0 (l.take m))
  (He : ∀ o, (l.take m)[e]? = some o → ∀ F w', Ext w w' → Kn l.toArray L (fun i v _w => i = e ∨ i = j ∨ Φ i v) e F w' → WL P n l.toArray (QR n F (some de) fun v w'' => Post w v w'') [o] F w')
  (Hj : ∀ o, (l.take m)[j]? = some o → ∀ F w' v, lk F de = some v → Post w v w' → Kn l.toArray L (fun i v _w => i = e ∨ i = j ∨ Φ i v) j F w' → WL P n l.toArray (QR n F (some dj) fun u w'' => Ext w' w'' ∧ Ψ v u w'') [o] F w')
  (hQ : ∀ F w' v u, lk F de = some v → Post w v w' → lk F dj = some u → Ψ v u w' → (∀ x v, lk L x = some v → ((List.range (l.take m).length).all fun i => match dstOf l.toArray i with | some d => !Nat.beq d x | none => true) = true → lk F x = some v) →
   (∀ i d, i < (l.take m).length → dstOf l.toArray i = some d → ∃ v, lk F d = some v ∧ (i = e ∨ i = j ∨ Φ i v)) → WL P n l.toArray Q (l.drop m) F w') :
  WK n ((Code.region id l.toArray true).wp P Q) L w := by
 have e0 : l.take m ++ l.drop m = l := List.take_append_drop m l
 unfold okE at hO
 simp only [Bool.and_eq_true, decide_eq_true_eq, List.all_eq_true, List.mem_range, Bool.or_eq_true, Bool.not_eq_true', beq_eq_false_iff_ne, beq_iff_eq, ne_eq] at hO
 obtain ⟨⟨⟨⟨⟨⟨⟨hem, hjm⟩, hml⟩, hje⟩, hde⟩, hdj⟩, hed'⟩, hone⟩ := hO
 have hje2 : e ∈ edgesOf l.toArray j := by simpa [List.contains_iff_mem] using hed'
 have hsz : ∀ {i d : Nat}, dstOf l.toArray i = some d → i < l.toArray.size := by
  intro i d hd
  unfold dstOf at hd
  cases ho : l.toArray[i]? with
  | none => rw [ho] at hd; cases hd
  | some o => exact (Array.getElem?_eq_some_iff.1 ho).1
 have hwe : ∀ i, i ≠ e → dstOf l.toArray i ≠ some de := fun i hi hd => by
  rcases (hone i (hsz hd)).1 with h | h
  ·exact hi h
  ·exact h hd
 have hwj : ∀ i, i ≠ j → dstOf l.toArray i ≠ some dj := fun i hi hd => by
  rcases (hone i (hsz hd)).2 with h | h
  ·exact hi h
  ·exact h hd
 have key' := wc_drawV (P := P) (n := n) (id := id) (pre := l.take m) (tl := l.drop m) (Q := Q) (L := L) (w := w) (fun i v _ => i = e ∨ i = j ∨ Φ i v)
  (fun g T w' => (g e = false → Ext w w') ∧ (g e = true → ∃ v, T de = some v ∧ Post w v w' ∧ (g j = true → ∃ u, T dj = some u ∧ Ψ v u w')) ∧ (g j = true → g e = true))
  (fun i T v w' w'' => if i = e then Post w v w'' else Ext w' w'' ∧ (i = j → ∀ v', T de = some v' → Ψ v' v w'')) hm hB
 rw [e0] at key'
 refine key' (fun g T q hf => ?_) (fun i g T T' v w1 w2 hgi hed hI hR hT hTd _ => ?_) (fun a i v g T u w1 w2 _ _ _ _ _ _ h => h) (fun i o ho g F w' hgi hed hI hK => ?_) (fun g F w' hall hI h2 h3 => ?_)
 ·have hel : e < l.length := by simp at hml; omega
  have hjl : j < l.length := by simp at hml; omega
  refine ⟨fun _ => ⟨rfl, rfl, rfl, Nat.le_refl _, fun _ _ _ => rfl⟩, fun h => ?_, fun h => ?_⟩
  ·rw [hf e hel] at h; cases h
  ·rw [hf j hjl] at h; cases h
 ·obtain ⟨h1, h2, h3⟩ := hI
  by_cases hi : i = e
  ·subst hi
   rw [if_pos rfl] at hR
   have hgj : g j = false := by
    cases hq : g j with
    | false => rfl
    | true => rw [h3 hq] at hgi; cases hgi
   refine ⟨fun h => by simp at h, fun _ => ⟨v, hTd _ hde, hR, fun h => ?_⟩, fun _ => by simp⟩
   simp [hje, hgj] at h
  ·rw [if_neg hi] at hR
   have he' : (if e = i then true else g e) = g e := if_neg (Ne.symm hi)
   show ((if e = i then true else g e) = false → _) ∧ ((if e = i then true else g e) = true → _) ∧ ((if j = i then true else g j) = true → (if e = i then true else g e) = true)
   rw [he']
   refine ⟨fun h => (h1 h).trans hR.1, fun h => ?_, fun h => ?_⟩
   ·obtain ⟨u, hu, hp, hj'⟩ := h2 h
    refine ⟨u, hT de (hwe i hi) u hu, hPost _ _ _ hR.1 hp, fun hgj => ?_⟩
    by_cases hij : i = j
    ·subst hij
     exact ⟨v, hTd _ hdj, hR.2 rfl u hu⟩
    ·obtain ⟨y, hy, hψ⟩ := hj' (by simpa [Ne.symm hij] using hgj)
     exact ⟨y, hT dj (hwj i hij) y hy, hΨ _ _ _ _ hR.1 hψ⟩
   ·by_cases hij : i = j
    ·subst hij; exact hed e hje2
    ·exact h3 (by simpa [Ne.symm hij] using h)
 ·have conv : ∀ {R1 R2 : Value → World → Prop}, (∀ v w'', R1 v w'' → R2 v w'') → WL P n l.toArray (QR n F (dstOf l.toArray i) R1) [o] F w' → WL P n l.toArray (QR n F (dstOf l.toArray i) R2) [o] F w' := by
   intro R1 R2 hR h a ha
   have h1 := h a ha
   have hq : ∀ a' w'', QR n F (dstOf l.toArray i) R1 .normal a' w'' → QR n F (dstOf l.toArray i) R2 .normal a' w'' := by
    intro a' w'' h6
    unfold QR at h6 ⊢
    cases hd : dstOf l.toArray i with
    | none => rw [hd] at h6; exact ⟨h6.1, h6.2.1, hR _ _ h6.2.2⟩
    | some d => rw [hd] at h6; obtain ⟨q1, v, q2, q3⟩ := h6; exact ⟨q1, v, q2, hR _ _ q3⟩
   unfold wpList at h1 ⊢
   split
   ·rename_i hwn
    rw [if_pos hwn] at h1
    rcases h1 with h1 | ⟨h4, a1, w1, hx, h5⟩
    ·exact .inl (Oper.wp_mono2 (fun a' w'' h6 => hq a' w'' h6) (fun e a w hne h => absurd h.1 hne) h1)
    ·cases hx
   ·rename_i hwn
    rw [if_neg hwn] at h1
    exact hq _ _ h1
  by_cases hi : i = e
  ·subst hi
   have := He o ho F w' (hI.1 hgi) hK
   rw [← hde] at this
   exact conv (fun v w'' h => ⟨by rw [if_pos rfl]; exact h, .inl rfl⟩) this
  ·by_cases hij : i = j
   ·subst hij
    obtain ⟨v, hv, hp, _⟩ := hI.2.1 (hed e hje2)
    have := Hj o ho F w' v hv hp hK
    rw [← hdj] at this
    refine conv (fun u w'' h => ⟨?_, .inr (.inl rfl)⟩) this
    rw [if_neg hi]
    refine ⟨h.1, fun _ v' hv' => ?_⟩
    rw [hv] at hv'
    cases hv'
    exact h.2
   ·have hPP : Ext w w' ∨ ∃ v, Post w v w' := by
     cases hg : g e with
     | false => exact .inl (hI.1 hg)
     | true => obtain ⟨v, _, hv, _⟩ := hI.2.1 hg; exact .inr ⟨v, hv⟩
    have h0 := H.at_ i o ho
    rw [Nat.zero_add] at h0
    rcases h0 with h0 | h0 | h0
    ·exact absurd h0 hi
    ·exact absurd h0 hij
    ·exact conv (fun u w'' h => ⟨by rw [if_neg hi]; exact ⟨h.1, fun hx => absurd hx hij⟩, .inr (.inr h.2)⟩) (h0 F w' hPP hK)
 ·have hel : e < (l.take m).length := by rw [List.length_take]; simp at hml; omega
  have hjl : j < (l.take m).length := by rw [List.length_take]; simp at hml; omega
  obtain ⟨v, hv, hp, hj'⟩ := hI.2.1 (hall e hel)
  obtain ⟨u, hu, hψ⟩ := hj' (hall j hjl)
  exact hQ F w' v u hv hp hu hψ h2 h3
end
end Go.Eng
namespace Go.Proofs.YtkdoomglflikkaaGreat
open Go.RowKit Go.Eng _root_.Go.Proofs.Tryz
set_option maxRecDepth 100000
variable {w0 w : World} {M0 Fz : Nat → Prop} {H : List It} {A : Option Addr} {c : Nat}
set_option maxHeartbeats 40000000 in
theorem gNum_ok {gw : Nat} {out : List UInt8} {pa : Addr} {n : Int} (hp : HP w0 M0 Fz w (itB gw 89 [.slice A out.length c] :: itR 5 1 A out.length c (out.map bv) :: H)) (hat : AtF Fz w pa [.int .i64 n]) (hn : isNum n) (hlen : out.length + (numE n).length ≤ 1000000) : Ret prog 177 #[.pointer (some ⟨gw, 0, none⟩), .pointer (some pa)] w (WrP 5 89 gw w0 M0 Fz w H (out ++ numE n)) := by
 have hFr:=Frz.start Fz w
 have hns : numS n = (numE n, 0) := by unfold isNum at hn; rw [numS, if_neg (by omega)]; rfl
 have hn64 : -9223372036854775808 ≤ n ∧ n ≤ 9223372036854775807 := by unfold isNum at hn; omega
 refine ret_of_wk func177 rfl ntmps177 leB_ ?_
 refine go ?_
 refine Ld_ sc3 rfl hat.head ?_
 have hcl:=num_ok (n := n) (w := w) hn64.1 hn64.2
 refine Cl_ cl180 rfl hcl ?_
 clear hcl
 rintro _ w1 ⟨A1, c1, rfl, ho1, hE1⟩
 rw [hns] at ho1 ⊢
 replace hFr:=hFr.ext hE1
 replace hp:=hp.ext hE1
 refine go ?_
 refine Fd_ 0 fld89_0 rfl rfl ?_
 refine Hl_ 0 sc26 rfl hp rfl rfl (go ?_)
 refine wl_happendB (i := 1) (l2 := numE n) (by decide) sl26 rfl rfl hp rfl ho1.bs (by omega) ?_
 rintro A1 c1 w1 hp1 hC1
 replace hFr:=hFr.fz hC1
 replace hp:=(hp1.ay (_ :: itR 5 1 A1 (out ++ numE n).length c1 ((out ++ numE n).map bv) :: _))
 refine go ?_
 refine Fd_ 0 fld89_0 rfl rfl ?_
 refine wl_hstore1 (i := 0) rfl rfl hp rfl sz26 (Nat.succ_pos _) rfl ?_
 rintro w2 hp2 hC2
 replace hFr:=hFr.fz hC2
 replace hp:=(hp2.ay (itB gw 89 [.slice A1 (out ++ numE n).length c1] :: itR 5 1 A1 (out ++ numE n).length c1 ((out ++ numE n).map bv) :: _))
 replace hp:=hp.ay (itB gw 89 ([.slice A1 (out ++ numE n).length c1]) :: _)
 refine go ?_
 refine wk_post0 (.inr rfl) results177  ?_
 exact ⟨_, rfl, _, _, hp, hFr⟩
set_option maxHeartbeats 40000000 in
theorem gStr_ok {gw : Nat} {out : List UInt8} {pa : Addr} {s : List UInt8} {B : Option Addr} {d : Nat} {v9 : Value} (hp : HP w0 M0 Fz w (itB gw 89 [.slice A out.length c] :: itR 5 1 A out.length c (out.map bv) :: H)) (hat : AtF Fz w pa [.slice B s.length d]) (hgb : GS byteR Fz w B d s) (hn : s.length ≤ 65536) (hlen : out.length + (strE s).length ≤ 1000000) : Ret prog 178 #[.pointer (some ⟨gw, 0, none⟩), .pointer (some pa), v9] w (WrP 5 89 gw w0 M0 Fz w H (out ++ strE s)) := by
 have hFr:=Frz.start Fz w
 have hns : strS s = (strE s, 0) := by rw [strS, if_neg (by omega)]; rfl
 refine ret_of_wk func178 rfl ntmps178 leB_ ?_
 refine go ?_
 refine Ld_ sc26 rfl hat.head ?_
 have hcl:=str_ok hgb
 refine Cl_ cl181 rfl hcl ?_
 clear hcl
 rintro _ w1 ⟨A1, c1, rfl, ho1, hE1⟩
 rw [hns] at ho1 ⊢
 replace hFr:=hFr.ext hE1
 replace hp:=hp.ext hE1
 refine go ?_
 refine Fd_ 0 fld89_0 rfl rfl ?_
 refine Hl_ 0 sc26 rfl hp rfl rfl (go ?_)
 refine wl_happendB (i := 1) (l2 := strE s) (by decide) sl26 rfl rfl hp rfl ho1.bs (by omega) ?_
 rintro A1 c1 w1 hp1 hC1
 replace hFr:=hFr.fz hC1
 replace hp:=(hp1.ay (_ :: itR 5 1 A1 (out ++ strE s).length c1 ((out ++ strE s).map bv) :: _))
 refine go ?_
 refine Fd_ 0 fld89_0 rfl rfl ?_
 refine wl_hstore1 (i := 0) rfl rfl hp rfl sz26 (Nat.succ_pos _) rfl ?_
 rintro w2 hp2 hC2
 replace hFr:=hFr.fz hC2
 replace hp:=(hp2.ay (itB gw 89 [.slice A1 (out ++ strE s).length c1] :: itR 5 1 A1 (out ++ strE s).length c1 ((out ++ strE s).map bv) :: _))
 replace hp:=hp.ay (itB gw 89 ([.slice A1 (out ++ strE s).length c1]) :: _)
 refine go ?_
 refine wk_post0 (.inr rfl) results178  ?_
 exact ⟨_, rfl, _, _, hp, hFr⟩
set_option maxHeartbeats 40000000 in
theorem gMany_ok {gw : Nat} {out : List UInt8} {n : Int} {v9 : Value} (hp : HP w0 M0 Fz w (itB gw 89 [.slice A out.length c] :: itR 5 1 A out.length c (out.map bv) :: H)) (hn : isNum n) (hlen : out.length + (numE n).length ≤ 1000000) : Ret prog 176 #[.pointer (some ⟨gw, 0, none⟩), .int .i64 n, v9] w (fun v w2 => v = .int .i64 n ∧ WrP 5 89 gw w0 M0 Fz w H (out ++ numE n) v w2) := by
 have hFr:=Frz.start Fz w
 refine ret_of_wk func176 rfl ntmps176 leB_ ?_
 refine go ?_
 refine wl_hbox (by decide) rfl hp ?_
 rintro gs4 wc1 hpc1 hEc1
 replace hFr:=hFr.ext hEc1
 replace hp:=hpc1
 obtain ⟨Fzc, hpc2, hsc2, hcap⟩ := (hp.as_ (H' := itB gs4 3 [iv n] :: _) rfl).frzBlk
 replace hp:=hpc2
 replace hFr:=hFr.wid hsc2
 refine go ?_
 have hcl:=gNum_ok hp hcap hn hlen
 refine Cl_ cl177 rfl hcl ?_
 clear hcl
 rintro _ w1 ⟨A1, c1, hp1, hF1⟩
 replace hFr:=hFr.fr hF1
 have q0:=hcap.tk.fr hF1
 replace hp:=(hp1.ay (itB gw 89 [.slice A1 (out ++ numE n).length c1] :: itR 5 1 A1 (out ++ numE n).length c1 ((out ++ numE n).map bv) :: _))
 refine go ?_
 refine Ld_ sc3 rfl (hcap.fr q0).head (go ?_)
 refine P1 results176 ?_
 exact ⟨_, rfl, rfl, _, _, hp.less hFr.sub, hFr.chg, fun _ h => h⟩
set_option maxHeartbeats 4000000 in
theorem gDig_ok {w0 w : World} {M0 Fz : Nat → Prop} {H : List It} {gw : Nat} {A : Option Addr} {c : Nat} {out : List UInt8} {pa : Addr} {d : Dig} (hp : HP w0 M0 Fz w (itB gw 89 [.slice A out.length c] :: itR 5 1 A out.length c (out.map bv) :: H)) (hat : AtF Fz w pa (digC d)) (hlen : out.length + d.l.length ≤ 1000000) : Ret Tryz.prog 175 #[.pointer (some ⟨gw, 0, none⟩), .pointer (some pa)] w (WrP 5 89 gw w0 M0 Fz w H (out ++ d.l)) := by
  have hFr := Frz.start Fz w
  refine ret_of_wk Tryz.func175 rfl Tryz.ntmps175 (Nat.le_of_ble_eq_true rfl) ?_
  obtain ⟨KM, ⟨hRo, hRk⟩, hKF, hKlt, hpo, hup⟩ := hp.apart (i := 1) rfl
  apply wc_drawTM 9 8 KM [SP.eq _, SP.eq _, SP.eq _, SP.eq _, SP.eq _, SP.eq _, SP.eq _, SP.eq (.slice (some pa) 32 32), SP.turn KM _ 5 1 (out.length + 32) (out.map bv ++ digC d)] (by kernel_rfl) (by kernel_rfl) ⟨.inr (fun _ _ _ _ h => h), .inr (fun _ _ _ _ h => h), .inr (fun _ _ _ _ h => h), .inr (fun _ _ _ _ h => h), .inr (fun _ _ _ _ h => h), .inr (fun _ _ _ _ h => h), .inr (fun _ _ _ _ h => h), .inr (fun _ _ _ _ h => h), .inl rfl, trivial⟩
  · refine ⟨?_, ?_, ?_, ?_, ?_, ?_, ?_, ?_, ?_, trivial⟩
    ·
      intro F wF hER hEE hk
      have e0 := hk.init 0 _ rfl (by kernel_rfl)
      refine wl_move (by decide) e0 ?_
      exact wl_nil (qr_some ⟨Chg.refl _ _, rfl⟩)
    ·
      intro F wF hER hEE hk
      have e0 := hk.init 0 _ rfl (by kernel_rfl)
      refine wl_move (by decide) e0 ?_
      exact wl_nil (qr_some ⟨Chg.refl _ _, rfl⟩)
    ·
      intro F wF hER hEE hk
      obtain ⟨u5, e5, h5⟩ := hk.pred 1 (by kernel_rfl) 5 rfl
      obtain rfl := h5
      refine wl_nilCheck (by decide) e5 ?_
      exact wl_nil (qr_some ⟨Chg.refl _ _, rfl⟩)
    ·
      intro F wF hER hEE hk
      obtain ⟨u6, e6, h6⟩ := hk.pred 2 (by kernel_rfl) 6 rfl
      obtain rfl := h6
      refine wl_fld' (o' := 0) (by decide) Tryz.fld89_0 e6 rfl ?_
      exact wl_nil (qr_some ⟨Chg.refl _ _, rfl⟩)
    ·
      intro F wF hER hEE hk
      obtain ⟨u7, e7, h7⟩ := hk.pred 3 (by kernel_rfl) 7 rfl
      obtain rfl := h7
      refine wl_hload (i := 0) (by decide) Tryz.sc26 e7 (hpo _ hER) rfl rfl ?_
      exact wl_nil (qr_some ⟨Chg.refl _ _, rfl⟩)
    ·
      intro F wF hER hEE hk
      have e1 := hk.init 1 _ rfl (by kernel_rfl)
      refine wl_move (by decide) e1 ?_
      exact wl_nil (qr_some ⟨Chg.refl _ _, rfl⟩)
    ·
      intro F wF hER hEE hk
      obtain ⟨u9, e9, h9⟩ := hk.pred 5 (by kernel_rfl) 9 rfl
      obtain rfl := h9
      refine wl_nilCheck (by decide) e9 ?_
      exact wl_nil (qr_some ⟨Chg.refl _ _, rfl⟩)
    ·
      intro F wF hER hEE hk
      obtain ⟨u10, e10, h10⟩ := hk.pred 6 (by kernel_rfl) 10 rfl
      obtain rfl := h10
      refine wl_sliceA (by decide) Tryz.ar23 e10 ?_
      exact wl_nil (qr_some ⟨Chg.refl _ _, rfl⟩)
    ·
      intro F wF hER hEE hk
      have hEx := hEE rfl
      obtain ⟨u8, e8, h8⟩ := hk.pred 4 (by kernel_rfl) 8 rfl
      obtain rfl := h8
      obtain ⟨u11, e11, h11⟩ := hk.pred 7 (by kernel_rfl) 11 rfl
      obtain rfl := h11
      refine wl_append (size := 1) (m := 32) (news := digC d) (by decide) Tryz.sl26 e8 e11 (hRo.ext hEx) rfl (fun b hb => by cases hb; exact (hat.ext hEx).at_) (by simp) (List.all_eq_true.1 rfl) (by omega) (Nat.zero_le _) ?_
      rintro A3 c3 w3 ho3 hch3 h43
      exact wl_nil (qr_some ⟨hch3.weak (fun b _ x => (hRk b).2 ⟨x.1, x.2.2⟩), A3, c3, rfl, ho3, fun b hb => (by
          rcases h43 with ⟨rfl, rfl⟩ | rfl
          · exact .inl ((hRk b).2 hb)
          · obtain ⟨_, a, ha, rfl⟩ := hb
            cases ha
            exact .inr hEx.size)⟩)
  ·
    intro F wD hED hini hdo
    obtain ⟨u4, e4, h4⟩ := hdo 0 4 (Nat.lt_of_lt_of_eq (by decide) rfl) rfl
    obtain rfl := h4
    obtain ⟨u12, e12, h12⟩ := hdo 8 12 (Nat.lt_of_lt_of_eq (by decide) rfl) rfl
    obtain ⟨A3, c3, rfl, ho3, hK3⟩ := h12
    refine wl_drop [(4, _), (12, _)] ⟨e4, e12, trivial⟩ ?_
    clear e4 e12 hini hdo
    replace hFr := hFr.fz (hED.weak (fun b _ hb => hKF b hb))
    replace hat := hat.fz (hED.weak (fun b _ hb => hKF b hb))
    replace hp := hup _ (itR 5 1 A3 (out.length + 32) c3 (out.map bv ++ digC d)) (fun b => c3 ≠ 0 ∧ blk A3 b) hED ⟨ho3, fun _ => Iff.rfl⟩ hK3
    refine wl_nilCheck (by decide) rfl ?_
    refine wl_fld' (o' := 0) (by decide) Tryz.fld89_0 rfl rfl ?_
    refine wl_hstore1 (i := 0) rfl rfl hp rfl Tryz.sz26 (Nat.succ_pos _) rfl ?_
    rintro w9 hp9 hC9
    replace hFr := (hFr.fz hC9).wid (fun b hb => hb)
    replace hat := (hat.fz hC9).wid (fun b hb => hb)
    replace hp := (hp9.as_ (H' := _ :: _ :: _) rfl)
    refine wl_nil ?_
    refine wk_post0 (.inr rfl) Tryz.results175  ?_
    have e1 : out.map bv ++ digC d = (out ++ d.l).map bv := by rw [digC_map, List.map_append]
    have e2 : out.length + 32 = (out ++ d.l).length := by rw [List.length_append, d.2]
    rw [e1, e2] at hp
    exact ⟨_, rfl, _, _, hp, hFr⟩
set_option maxHeartbeats 40000000 in
theorem nTook_ok {gr : Nat} {l : List UInt8} {bad : Bool} {B : Option Addr} {d : Nat} {t : List UInt8} {e : Int} (hp : HP w0 M0 Fz w (itB gr 103 [.slice A l.length c, .bool bad] :: H)) (hl : GS byteR Fz w A c l) (ht : GS byteR Fz w B d t) : Ret prog 192 #[.pointer (some ⟨gr, 0, none⟩), .slice B t.length d, .int .i64 e] w (fun v w2 => ∃ bad' A' c' l', v = .bool (!bad') ∧ bad' = (bad || decide (e ≠ 0)) ∧ (bad' = false → l' = t) ∧ HP w0 M0 Fz w2 (itB gr 103 [.slice A' (l' : List UInt8).length c', .bool bad'] :: H) ∧ Frz Fz Fz w w2 ∧ GS byteR Fz w2 A' c' l') := by
 have hFr:=Frz.start Fz w
 refine ret_of_wk func192 rfl ntmps192 leB_ ?_
 refine go ?_
 refine Fd_ 1 fld103_1 rfl rfl ?_
 refine Hl_ 0 sc4 rfl hp rfl rfl (go ?_)
 refine Gs 12 (fun hg1 => ?_) fun hg1 => ?_
 refine go ?_
 refine Fd_ 1 fld103_1 rfl rfl ?_
 refine wl_hstore1 (i := 0) rfl rfl hp rfl sz4 (Nat.lt_of_lt_of_le (Nat.lt_succ_self _) leB_) rfl ?_
 rintro w1 hp1 hC1
 replace hFr:=hFr.fz hC1
 have q0:=hl.tk.fz hC1
 replace hp:=hp1
 replace hp:=hp.ay (itB gr 103 ([.slice A l.length c, .bool true]) :: _)
 refine go ?_
 refine Fd_ 1 fld103_1 rfl rfl ?_
 refine Hl_ 0 sc4 rfl hp rfl rfl ?_
 first | refine Nd_ rfl ?_ | refine Nn_ rfl ?_
 refine go ?_
 refine wc_cond_f rfl ?_
 refine go ?_
 refine Fd_ 1 fld103_1 rfl rfl ?_
 refine Hl_ 0 sc4 rfl hp rfl rfl ?_
 first | refine Nd_ rfl ?_ | refine Nn_ rfl ?_
 refine go ?_
 refine P1 results192 ?_
 first | exact ⟨_, rfl, _, A, c, l, by simp_all, by simp_all, by simp_all, hp, hFr, (hl.fr q0)⟩ | exact ⟨_, rfl, _, B, d, t, by simp_all, by simp_all, fun _ => rfl, hp, hFr, (ht.fr q0)⟩
 refine go ?_
 refine Ne_ rfl rfl (go ?_)
 refine Fd_ 1 fld103_1 rfl rfl ?_
 refine wl_hstore1 (i := 0) rfl rfl hp rfl sz4 (Nat.lt_of_lt_of_le (Nat.lt_succ_self _) leB_) rfl ?_
 rintro w2 hp2 hC2
 replace hFr:=hFr.fz hC2
 have q1:=hl.tk.fz hC2
 replace hp:=hp2
 replace hp:=hp.ay (itB gr 103 ([.slice A l.length c, .bool (decide (e ≠ 0))]) :: _)
 refine go ?_
 refine Fd_ 1 fld103_1 rfl rfl ?_
 refine Hl_ 0 sc4 rfl hp rfl rfl ?_
 first | refine Nd_ rfl ?_ | refine Nn_ rfl ?_
 refine go ?_
 refine Cd (fun hc2 => ?_) fun hc2 => ?_
 refine go ?_
 refine Fd_ 0 fld103_0 rfl rfl ?_
 refine wl_hstore1 (i := 0) rfl rfl hp rfl sz26 (Nat.lt_of_lt_of_le (Nat.lt_succ_self _) leB_) rfl ?_
 rintro w3 hp3 hC3
 replace hFr:=hFr.fz hC3
 replace q1:=q1.fz hC3
 replace hp:=hp3
 replace hp:=hp.ay (itB gr 103 ([.slice B t.length d, .bool (decide (e ≠ 0))]) :: _)
 refine go ?_
 refine Fd_ 1 fld103_1 rfl rfl ?_
 refine Hl_ 0 sc4 rfl hp rfl rfl ?_
 first | refine Nd_ rfl ?_ | refine Nn_ rfl ?_
 refine go ?_
 refine P1 results192 ?_
 first | exact ⟨_, rfl, _, A, c, l, by simp_all, by simp_all, by simp_all, hp, hFr, (hl.fr q1)⟩ | exact ⟨_, rfl, _, B, d, t, by simp_all, by simp_all, fun _ => rfl, hp, hFr, (ht.fr q1)⟩
 refine go ?_
 refine Fd_ 1 fld103_1 rfl rfl ?_
 refine Hl_ 0 sc4 rfl hp rfl rfl ?_
 first | refine Nd_ rfl ?_ | refine Nn_ rfl ?_
 refine go ?_
 refine P1 results192 ?_
 first | exact ⟨_, rfl, _, A, c, l, by simp_all, by simp_all, by simp_all, hp, hFr, (hl.fr q1)⟩ | exact ⟨_, rfl, _, B, d, t, by simp_all, by simp_all, fun _ => rfl, hp, hFr, (ht.fr q1)⟩
set_option maxHeartbeats 40000000 in
theorem nNum_ok {gr : Nat} {l : List UInt8} {bad : Bool} {X : List Value → It} {pX : Addr} {v0 : Int} (hp : HP w0 M0 Fz w (itB gr 103 [.slice A l.length c, .bool bad] :: X ([.int .i64 v0]) :: H)) (hS : Slot X pX 1) (hl : GS byteR Fz w A c l) (hv0 : i64 v0) : Ret prog 188 #[.pointer (some ⟨gr, 0, none⟩), .pointer (some pX)] w (RdP 103 gr w0 M0 Fz w H X i64R numP bad l) := by
 have hFr:=Frz.start Fz w
 refine ret_of_wk func188 rfl ntmps188 leB_ ?_
 refine go ?_
 refine Fd_ 0 fld103_0 rfl rfl ?_
 refine Hl_ 0 sc26 rfl hp rfl rfl ?_
 have hcl:=takeNum_ok hl
 refine Cl_ cl193 rfl hcl ?_
 clear hcl
 rintro _ w1 ⟨A1, c1, rfl, ho1, hE1⟩
 replace ho1:=ho1.bs
 have hsz2:=hp.chg.size
 obtain ⟨Fz2, hp2, hsub2, hnew2, hup2⟩ := hp.frz hE1
 replace hp:=hp2
 replace hFr:=(hFr.ext hE1).wid hsub2
 have q0:=(hl.tk.ext hE1).wid hsub2
 replace ho1:=ho1.frz hnew2
 refine go ?_
 have hcl:=nTook_ok (e := (takeS l).2.2) hp (hl.fr q0) ho1
 refine Cl_ cl192 rfl hcl ?_
 clear hcl
 rintro _ w3 ⟨b3, A3, c3, l3, rfl, hb3, hn3, hp3, hF3, hl3⟩
 replace hFr:=hFr.fz hF3.chg
 replace hp:=hp3
 refine go ?_
 refine Cd (fun ht => ?_) fun ht => ?_
 refine go ?_
 refine wl_sstore1 0 (i := 1) hS (by rw [add_zero']; rfl) rfl hp rfl rfl sz3 (by decide) rfl ?_
 rintro w4 hp4 hC4
 replace hFr:=hFr.fz hC4
 have q1:=hl3.tk.fz hC4
 replace hp:=hp4
 replace hp:=hp.ay (_ :: X ([iv ((takeS l).1)]) :: _)
 refine go ?_
 refine wk_post0 (.inr rfl) results188  ?_
 have hlm:=takeS_lim l
 exact ⟨_, rfl, _, A3, c3, l3, b3, _, _, hp, hFr, (hl3.fr q1), ⟨⟨by omega, by omega⟩, rfl⟩, step_num hb3 (fun h => ⟨hn3 h, rfl⟩)⟩
 refine go ?_
 refine wk_post0 (.inr rfl) results188  ?_
 exact ⟨_, rfl, _, A3, c3, l3, b3, _, _, hp, hFr, hl3, ⟨hv0, rfl⟩, step_num hb3 (fun h => absurd ht (by simp [h]))⟩
set_option maxHeartbeats 40000000 in
theorem nStr_ok {gr : Nat} {l : List UInt8} {bad : Bool} {X : List Value → It} {pX : Addr} {most : Int} (hp : HP w0 M0 Fz w (itB gr 103 [.slice A l.length c, .bool bad] :: X ([.slice none 0 0]) :: H)) (hS : Slot X pX 1) (hl : GS byteR Fz w A c l) : Ret prog 189 #[.pointer (some ⟨gr, 0, none⟩), .pointer (some pX), .int .i64 most] w (RdP 103 gr w0 M0 Fz w H X (sliceR byteR) (strP most) bad l) := by
 have hFr:=Frz.start Fz w
 refine ret_of_wk func189 rfl ntmps189 leB_ ?_
 refine go ?_
 refine Fd_ 0 fld103_0 rfl rfl ?_
 refine Hl_ 0 sc26 rfl hp rfl rfl (go ?_)
 have hcl:=takeStr_ok (most := most) hl
 refine Cl_ cl194 rfl hcl ?_
 clear hcl
 rintro _ w1 ⟨A1, c1, B1, d1, rfl, ho1, hq1, hE1⟩
 replace ho1:=ho1.bs
 replace hq1:=hq1.bs
 have hsz2:=hp.chg.size
 obtain ⟨Fz2, hp2, hsub2, hnew2, hup2⟩ := hp.frz hE1
 replace hp:=hp2
 replace hFr:=(hFr.ext hE1).wid hsub2
 have q0:=(hl.tk.ext hE1).wid hsub2
 replace ho1:=ho1.frz hnew2
 replace hq1:=hq1.frz hnew2
 refine go ?_
 have hcl:=nTook_ok (e := (takeStrS l most).2.2) hp (hl.fr q0) hq1
 refine Cl_ cl192 rfl hcl ?_
 clear hcl
 rintro _ w3 ⟨b3, A3, c3, l3, rfl, hb3, hn3, hp3, hF3, hl3⟩
 replace hFr:=hFr.fz hF3.chg
 replace ho1:=ho1.fz hF3.chg
 replace hp:=hp3
 refine go ?_
 refine Cd (fun ht => ?_) fun ht => ?_
 refine go ?_
 refine wl_sstore1 0 (i := 1) hS (by rw [add_zero']; rfl) rfl hp rfl rfl sz26 (by decide) rfl ?_
 rintro w4 hp4 hC4
 replace hFr:=hFr.fz hC4
 have q1:=ho1.tk.fz hC4
 replace hp:=hp4
 replace hp:=hp.ay (_ :: X ([.slice A1 (takeStrS l most).1.length c1]) :: _)
 refine go ?_
 refine wk_post0 (.inr rfl) results189  ?_
 exact ⟨_, rfl, _, A3, c3, l3, b3, _, _, hp, hFr, (hl3.fr q1), sliceR_mk (ho1.fr q1), step_str hb3 (fun h => ⟨hn3 h, rfl⟩)⟩
 refine go ?_
 refine wk_post0 (.inr rfl) results189  ?_
 exact ⟨_, rfl, _, A3, c3, l3, b3, _, [], hp, hFr, hl3, sliceR_mk (GS.nil _ _ _ none 0), step_str hb3 (fun h => absurd ht (by simp [h]))⟩
theorem fix32 {l : List UInt8} (h : (fixS l 32).2.2 = 0) : (fixS l 32).1.length = 32 := by
 unfold fixS at h ⊢
 rw [if_neg (by omega)] at h ⊢
 by_cases hl : (l.length : Int) < 32
 ·rw [if_pos hl] at h; cases h
 ·rw [if_neg hl]; simp; omega
set_option maxHeartbeats 40000000 in
theorem nDigest_ok {gr : Nat} {l : List UInt8} {bad : Bool} {X : List Value → It} {pX : Addr} {d0 : Dig} (hp : HP w0 M0 Fz w (itB gr 103 [.slice A l.length c, .bool bad] :: X (digC d0) :: H)) (hS : Slot X pX 32) (hl : GS byteR Fz w A c l) : Ret prog 186 #[.pointer (some ⟨gr, 0, none⟩), .pointer (some pX)] w (RdP 103 gr w0 M0 Fz w H X digR digP bad l) := by
 have hFr:=Frz.start Fz w
 refine ret_of_wk func186 rfl ntmps186 leB_ ?_
 refine go ?_
 refine Fd_ 0 fld103_0 rfl rfl ?_
 refine Hl_ 0 sc26 rfl hp rfl rfl ?_
 have hcl:=takeFix_ok (n := 32) hl (by omega) (by omega)
 refine Cl_ cl191 rfl hcl ?_
 clear hcl
 rintro _ w1 ⟨A1, c1, B1, d1, rfl, ho1, hq1, hE1⟩
 replace ho1:=ho1.bs
 replace hq1:=hq1.bs
 have hsz2:=hp.chg.size
 obtain ⟨Fz2, hp2, hsub2, hnew2, hup2⟩ := hp.frz hE1
 replace hp:=hp2
 replace hFr:=(hFr.ext hE1).wid hsub2
 have q0:=(hl.tk.ext hE1).wid hsub2
 replace ho1:=ho1.frz hnew2
 replace hq1:=hq1.frz hnew2
 refine go ?_
 have hcl:=nTook_ok (e := (fixS l 32).2.2) hp (hl.fr q0) hq1
 refine Cl_ cl192 rfl hcl ?_
 clear hcl
 rintro _ w3 ⟨b3, A3, c3, l3, rfl, hb3, hn3, hp3, hF3, hl3⟩
 replace hFr:=hFr.fz hF3.chg
 replace ho1:=ho1.fz hF3.chg
 replace hp:=hp3
 refine go ?_
 refine Cd (fun ht => ?_) fun ht => ?_
 have hb0 : b3 = false := by cases b3 with
   | false => rfl
   | true => cases ht
 have he0 : (fixS l 32).2.2 = 0 := by
   have h9 := hb3
   rw [hb0] at h9
   exact Decidable.not_not.1 (of_decide_eq_false (Bool.or_eq_false_iff.1 h9.symm).2)
 have h32:=fix32 he0
 obtain ⟨hcA, hcN⟩ := GS.cells1 (he := fun _ => rfl) ho1
 refine go ?_
 refine wl_arrAt (by decide) ar23 rfl (by omega) ?_
 obtain ⟨a9, rfl⟩ : ∃ a, A1 = some a := by
   cases A1 with
   | none => have := hcN rfl; rw [this] at h32; cases h32
   | some a => exact ⟨a, rfl⟩
 have hat9:=hcA a9 rfl
 rw [show (fixS l 32).1.map (fun b => bv b) = digC ⟨(fixS l 32).1, h32⟩ from (digC_map ⟨(fixS l 32).1, h32⟩).symm] at hat9
 refine wl_loadA (by decide) ag23 rfl hat9 rfl ?_
 refine go ?_
 refine wl_sstore (o := 0) (i := 1) hS (by rw [add_zero']; rfl) rfl hp rfl rfl sz23 (Nat.ne_of_gt (Nat.lt_of_lt_of_le Nat.zero_lt_one leB_)) leB_ (List.all_eq_true.1 rfl) ?_
 rintro w4 hp4 hC4
 replace hFr:=hFr.fz hC4
 have q1:=hl3.tk.fz hC4
 replace hp:=hp4
 refine go ?_
 refine wk_post0 (.inr rfl) results186  ?_
 exact ⟨_, rfl, _, A3, c3, l3, b3, _, ⟨(fixS l 32).1, h32⟩, hp, hFr, (hl3.fr q1), rfl, step_dig hb3 (fun h => ⟨hn3 h, rfl⟩)⟩
 refine go ?_
 refine wk_post0 (.inr rfl) results186  ?_
 exact ⟨_, rfl, _, A3, c3, l3, b3, _, d0, hp, hFr, hl3, rfl, step_dig hb3 (fun h => absurd ht (by simp [h]))⟩
theorem many_fin {bad b1 bad' : Bool} {l l1 : List UInt8} {x1 x' most : Int} (h : StepP numP (rst bad l) (rst b1 l1) x1) (hb : bad' = (b1 || decide (most < x1))) (hx : x' = if bad' = true then 0 else x1) : StepP (manyP most) (rst bad l) (rst bad' l1) x' := by
 subst hb hx
 exact step_many h
theorem many_lim {bad bad' : Bool} {l l' : List UInt8} {x most : Int} (h : StepP (manyP most) (rst bad l) (rst bad' l') x) (hb : bad' = false) : (0 ≤ x ∧ x ≤ 9007199254740991) ∧ x ≤ most := by
 subst hb
 cases bad with
 | true => cases h
 | false => exact (many_cod most).back l x l' h |>.2
set_option maxHeartbeats 40000000 in
theorem nMany_ok {gr : Nat} {l : List UInt8} {bad : Bool} {m0 most : Int} (hp : HP w0 M0 Fz w (itB gr 103 [.slice A l.length c, .bool bad] :: H)) (hl : GS byteR Fz w A c l) : Ret prog 187 #[.pointer (some ⟨gr, 0, none⟩), .int .i64 m0, .int .i64 most] w (fun v w2 => ∃ F2 A' c' l' bad' x, v = .int .i64 x ∧ HP w0 M0 F2 w2 (itB gr 103 [.slice A' (l' : List UInt8).length c', .bool bad'] :: H) ∧ Frz Fz F2 w w2 ∧ GS byteR F2 w2 A' c' l' ∧ StepP (manyP most) (rst bad l) (rst bad' l') x ∧ (bad' = true → x = 0)) := by
 have hFr:=Frz.start Fz w
 refine ret_of_wk func187 rfl ntmps187 leB_ ?_
 refine go ?_
 refine wl_halloc (z := iv 0) (by decide) (by kernel_rfl) hp ?_
 rintro gs7 w1 hp1 hE1
 replace hFr:=hFr.ext hE1
 have q0:=hE1
 replace hp:=hp1
 refine wl_hstore1 (i := 0) rfl rfl hp rfl sz3 (Nat.lt_of_lt_of_le (Nat.lt_succ_self _) leB_) rfl ?_
 rintro w2 hp2 hC2
 replace hFr:=hFr.fz hC2
 have q1:=hl.tk.ext q0
 replace q1:=q1.fz hC2
 replace hp:=hp2
 refine go ?_
 replace hp:=((hp.up 0 rfl).up 1 rfl).as_ (H' := itB gr 103 [.slice A l.length c, .bool bad] :: itB gs7 3 ([iv 0]) :: H) rfl
 have hcl:=nNum_ok (X := (fun cs => itB gs7 3 (([]) ++ (cs ++ ([]))))) (pX := ⟨gs7, 0, none⟩) (v0 := 0) hp (Slot.blk ([]) ([])) (hl.fr q1) (by unfold i64; omega)
 refine Cl_ cl188 rfl hcl ?_
 clear hcl
 rintro _ w3 ⟨F3, A3, c3, l3, b3, cs3, x3, hp3, hF3, hl3, hrd3, hst3⟩
 obtain ⟨hI3, rfl⟩ := hrd3
 replace hFr:=hFr.fr hF3
 replace hp:=hp3
 refine go ?_
 refine Fd_ 1 fld103_1 rfl rfl ?_
 refine Hl_ 0 sc4 rfl hp rfl rfl (go ?_)
 refine Gs 15 (fun hg1 => ?_) fun hg1 => ?_
 refine go ?_
 refine Fd_ 1 fld103_1 rfl rfl ?_
 refine wl_hstore1 (i := 0) rfl rfl hp rfl sz4 (Nat.lt_of_lt_of_le (Nat.lt_succ_self _) leB_) rfl ?_
 rintro w4 hp4 hC4
 replace hFr:=hFr.fz hC4
 have q2:=hl3.tk.fz hC4
 replace hp:=hp4
 refine go ?_
 refine Fd_ 1 fld103_1 rfl rfl ?_
 refine Hl_ 0 sc4 rfl hp rfl rfl (go ?_)
 refine wc_cond_t rfl (go ?_)
 refine P1 results187 ?_
 exact ⟨_, rfl, _, A3, c3, l3, true, _, rfl, ((hp.up 1 rfl).tail.up 0 rfl), hFr, (hl3.fr q2), many_fin hst3 (by simp_all) (by first | (simp_all; done) | (simp_all; omega) | (simp_all; intros; omega)), by first | (simp_all; done) | (simp_all; omega) | (simp_all; intros; omega)⟩
 refine go ?_
 refine Hl_ 1 sc3 rfl hp rfl rfl (go ?_)
 refine Gt_ rfl rfl (go ?_)
 refine Fd_ 1 fld103_1 rfl rfl ?_
 refine wl_hstore1 (i := 0) rfl rfl hp rfl sz4 (Nat.lt_of_lt_of_le (Nat.lt_succ_self _) leB_) rfl ?_
 rintro w5 hp5 hC5
 replace hFr:=hFr.fz hC5
 have q3:=hl3.tk.fz hC5
 replace hp:=hp5
 refine go ?_
 refine Fd_ 1 fld103_1 rfl rfl ?_
 refine Hl_ 0 sc4 rfl hp rfl rfl (go ?_)
 refine Cd (fun hc2 => ?_) fun hc2 => ?_
 refine go ?_
 refine P1 results187 ?_
 exact ⟨_, rfl, _, A3, c3, l3, (decide (x3 > most)), _, rfl, ((hp.up 1 rfl).tail.up 0 rfl), hFr, (hl3.fr q3), many_fin hst3 (by simp_all) (by first | (simp_all; done) | (simp_all; omega) | (simp_all; intros; omega)), by first | (simp_all; done) | (simp_all; omega) | (simp_all; intros; omega)⟩
 refine go ?_
 refine Hl_ 1 sc3 rfl hp rfl rfl (go ?_)
 refine P1 results187 ?_
 exact ⟨_, rfl, _, A3, c3, l3, (decide (x3 > most)), _, rfl, ((hp.up 1 rfl).tail.up 0 rfl), hFr, (hl3.fr q3), many_fin hst3 (by simp_all) (by first | (simp_all; done) | (simp_all; omega) | (simp_all; intros; omega)), by first | (simp_all; done) | (simp_all; omega) | (simp_all; intros; omega)⟩
set_option maxHeartbeats 40000000 in
theorem rMark_ok {gr : Nat} {l : List UInt8} {bad : Bool} {X : List Value → It} {pX pc : Addr} (hp : HP w0 M0 Fz w (itB gr 103 [.slice A l.length c, .bool bad] :: X ([.int .i64 0] ++ (digC dig0)) :: H)) (hS : Slot X pX 33) (hl : GS byteR Fz w A c l) (hcap : AtF Fz w pc [.iface 101 (.pointer (some ⟨gr, 0, none⟩))]) : Ret prog 96 #[.pointer (some pX), .pointer (some pc)] w (RdP 103 gr w0 M0 Fz w H X markR markP bad l) := by
 have hFr:=Frz.start Fz w
 refine ret_of_wk func96 rfl ntmps96 leB_ ?_
 refine go ?_
 apply wdT 7 [.eq _,.eq _,.eq _,.eq _,.eq _,.eq _,.eq _]
 refine ⟨?_,?_,?_,?_,?_,?_,?_,trivial⟩<;>intro F wF hER hk
 exact Ld_ sc123 (hk.qi 1) (hcap.ext hER).head qz
 exact dm (hk.qi 0)
 exact Nc_ (hk.qe 1) qz
 have e5:=hk.qe 2
 refine Fe_ fld95_0 e5 ?_
 rw [add_zero']
 exact qz
 have e3:=hk.qe 0
 exact wl_makeFunc (first := [.tmp 3]) (cap := []) (by decide) (by simp only [evs, ev, e3]; rfl) rfl qz
 exact wl_nilCheckM (t := 101) (by decide) mt188 (hk.qe 4) qz
 exact dm (hk.qe 0)
 intro F wD hED hini hdo
 refine wl_drop [(0, _), (1, _), (6, _), (9, _)] ⟨di hini 0, di hini 1, dr hdo 3, dr hdo 6, trivial⟩ ?_
 clear hini hdo
 replace hFr:=hFr.ext hED
 have q0:=hED
 replace hp:=hp.ext hED
 have hcl:=nNum_ok (X := (fun cs => X (([]) ++ (cs ++ (digC dig0))))) (pX := pX) (v0 := 0) hp (hS.sub ([]) (digC dig0) rfl) (hl.ext q0) (by unfold i64; omega)
 refine wl_invoke (t := 101) (name := "bastide/note.num") (f := 188) (by decide) mt188 rfl rfl hcl ?_
 clear hcl
 rintro _ w1 ⟨F1, A1, c1, l1, b1, cs1, x1, hp1, hF1, hl1, hrd1, hst1⟩
 obtain ⟨hI1, rfl⟩ := hrd1
 replace hFr:=hFr.fr hF1
 have q1:=hl.tk.ext q0
 replace q1:=q1.fr hF1
 replace hp:=(hp1.ay (itB gr 103 ([.slice A1 l1.length c1, .bool b1]) :: X ([iv x1] ++ (digC dig0)) :: H))
 refine go ?_
 apply wdT 7 [.eq _,.eq _,.eq _,.eq _,.eq _,.eq _,.eq _]
 refine ⟨?_,?_,?_,?_,?_,?_,?_,trivial⟩<;>intro F wF hER hk
 exact Ld_ sc123 (hk.qi 1) ((hcap.fr q1).ext hER).head qz
 exact dm (hk.qi 0)
 exact Nc_ (hk.qe 1) qz
 exact Fe_ fld95_1 (hk.qe 2) qz
 have e11:=hk.qe 0
 exact wl_makeFunc (first := [.tmp 11]) (cap := []) (by decide) (by simp only [evs, ev, e11]; rfl) rfl qz
 exact wl_nilCheckM (t := 101) (by decide) mt186 (hk.qe 4) qz
 exact dm (hk.qe 0)
 intro F wD hED hini hdo
 refine wl_drop [(14, _), (17, _)] ⟨dr hdo 3, dr hdo 6, trivial⟩ ?_
 clear hini hdo
 replace hFr:=hFr.ext hED
 have q2:=hED
 replace hp:=hp.ext hED
 have hcl:=nDigest_ok (X := (fun cs => X (([iv x1]) ++ (cs ++ ([]))))) (pX := (pX.add 1)) (d0 := dig0) hp (hS.sub ([iv x1]) ([]) rfl) (hl1.ext q2)
 refine wl_invoke (t := 101) (name := "bastide/note.digest") (f := 186) (by decide) mt186 rfl rfl hcl ?_
 clear hcl
 rintro _ w2 ⟨F2, A2, c2, l2, b2, cs2, x2, hp2, hF2, hl2, hrd2, hst2⟩
 obtain rfl := hrd2
 replace hFr:=hFr.fr hF2
 replace hp:=(hp2.ay (itB gr 103 ([.slice A2 l2.length c2, .bool b2]) :: X ([iv x1] ++ (digC x2)) :: H))
 refine go ?_
 refine wk_post0 (.inr rfl) results96  ?_
 exact ⟨_, rfl, _, A2, c2, l2, b2, _, ({ seq := x1, dig := x2 } : Mrk), ((hp.up 1 rfl).up 1 rfl), hFr, hl2, ⟨hI1, rfl⟩, StepP.bind hst1 (StepP.bind hst2 (StepP.pure _ _))⟩
set_option maxHeartbeats 40000000 in
theorem rStand_ok {gr : Nat} {l : List UInt8} {bad : Bool} {X : List Value → It} {pX pc : Addr} (hp : HP w0 M0 Fz w (itB gr 103 [.slice A l.length c, .bool bad] :: X ([.int .i64 0] ++ (digC dig0 ++ ([.int .i64 0]))) :: H)) (hS : Slot X pX 34) (hl : GS byteR Fz w A c l) (hcap : AtF Fz w pc [.iface 101 (.pointer (some ⟨gr, 0, none⟩))]) : Ret prog 132 #[.pointer (some pX), .pointer (some pc)] w (RdP 103 gr w0 M0 Fz w H X standR standP bad l) := by
 have hFr:=Frz.start Fz w
 refine ret_of_wk func132 rfl ntmps132 leB_ ?_
 refine go ?_
 apply wdT 7 [.eq _,.eq _,.eq _,.eq _,.eq _,.eq _,.eq _]
 refine ⟨?_,?_,?_,?_,?_,?_,?_,trivial⟩<;>intro F wF hER hk
 exact Ld_ sc123 (hk.qi 1) (hcap.ext hER).head qz
 exact dm (hk.qi 0)
 exact Nc_ (hk.qe 1) qz
 have e5:=hk.qe 2
 refine Fe_ fld97_0 e5 ?_
 rw [add_zero']
 exact qz
 have e3:=hk.qe 0
 exact wl_makeFunc (first := [.tmp 3]) (cap := []) (by decide) (by simp only [evs, ev, e3]; rfl) rfl qz
 exact wl_nilCheckM (t := 101) (by decide) mt188 (hk.qe 4) qz
 exact dm (hk.qe 0)
 intro F wD hED hini hdo
 refine wl_drop [(0, _), (1, _), (6, _), (9, _)] ⟨di hini 0, di hini 1, dr hdo 3, dr hdo 6, trivial⟩ ?_
 clear hini hdo
 replace hFr:=hFr.ext hED
 have q0:=hED
 replace hp:=hp.ext hED
 have hcl:=nNum_ok (X := (fun cs => X (([]) ++ (cs ++ (digC dig0 ++ ([iv 0])))))) (pX := pX) (v0 := 0) hp (hS.sub ([]) (digC dig0 ++ ([iv 0])) rfl) (hl.ext q0) (by unfold i64; omega)
 refine wl_invoke (t := 101) (name := "bastide/note.num") (f := 188) (by decide) mt188 rfl rfl hcl ?_
 clear hcl
 rintro _ w1 ⟨F1, A1, c1, l1, b1, cs1, x1, hp1, hF1, hl1, hrd1, hst1⟩
 obtain ⟨hI1, rfl⟩ := hrd1
 replace hFr:=hFr.fr hF1
 have q1:=hl.tk.ext q0
 replace q1:=q1.fr hF1
 replace hp:=hp1
 refine go ?_
 apply wdT 7 [.eq _,.eq _,.eq _,.eq _,.eq _,.eq _,.eq _]
 refine ⟨?_,?_,?_,?_,?_,?_,?_,trivial⟩<;>intro F wF hER hk
 exact Ld_ sc123 (hk.qi 1) ((hcap.fr q1).ext hER).head qz
 exact dm (hk.qi 0)
 exact Nc_ (hk.qe 1) qz
 exact Fe_ fld97_1 (hk.qe 2) qz
 have e11:=hk.qe 0
 exact wl_makeFunc (first := [.tmp 11]) (cap := []) (by decide) (by simp only [evs, ev, e11]; rfl) rfl qz
 exact wl_nilCheckM (t := 101) (by decide) mt186 (hk.qe 4) qz
 exact dm (hk.qe 0)
 intro F wD hED hini hdo
 refine wl_drop [(0, _), (1, _), (14, _), (17, _)] ⟨di hini 0, di hini 1, dr hdo 3, dr hdo 6, trivial⟩ ?_
 clear hini hdo
 replace hFr:=hFr.ext hED
 replace q1:=q1.ext hED
 have q2:=hED
 replace hp:=hp.ext hED
 have hcl:=nDigest_ok (X := (fun cs => X (([iv x1]) ++ (cs ++ ([iv 0]))))) (pX := (pX.add 1)) (d0 := dig0) hp (hS.sub ([iv x1]) ([iv 0]) rfl) (hl1.ext q2)
 refine wl_invoke (t := 101) (name := "bastide/note.digest") (f := 186) (by decide) mt186 rfl rfl hcl ?_
 clear hcl
 rintro _ w2 ⟨F2, A2, c2, l2, b2, cs2, x2, hp2, hF2, hl2, hrd2, hst2⟩
 obtain rfl := hrd2
 replace hFr:=hFr.fr hF2
 replace q1:=q1.fr hF2
 replace hp:=hp2
 refine go ?_
 apply wdT 7 [.eq _,.eq _,.eq _,.eq _,.eq _,.eq _,.eq _]
 refine ⟨?_,?_,?_,?_,?_,?_,?_,trivial⟩<;>intro F wF hER hk
 exact Ld_ sc123 (hk.qi 1) ((hcap.fr q1).ext hER).head qz
 exact dm (hk.qi 0)
 exact Nc_ (hk.qe 1) qz
 exact Fe_ fld97_2 (hk.qe 2) qz
 have e19:=hk.qe 0
 exact wl_makeFunc (first := [.tmp 19]) (cap := []) (by decide) (by simp only [evs, ev, e19]; rfl) rfl qz
 exact wl_nilCheckM (t := 101) (by decide) mt188 (hk.qe 4) qz
 exact dm (hk.qe 0)
 intro F wD hED hini hdo
 refine wl_drop [(22, _), (25, _)] ⟨dr hdo 3, dr hdo 6, trivial⟩ ?_
 clear hini hdo
 replace hFr:=hFr.ext hED
 have q3:=hED
 replace hp:=hp.ext hED
 have hcl:=nNum_ok (X := (fun cs => X (([iv x1] ++ (digC x2)) ++ (cs ++ ([]))))) (pX := (pX.add 33)) (v0 := 0) hp (hS.sub ([iv x1] ++ (digC x2)) ([]) rfl) (hl2.ext q3) (by unfold i64; omega)
 refine wl_invoke (t := 101) (name := "bastide/note.num") (f := 188) (by decide) mt188 rfl rfl hcl ?_
 clear hcl
 rintro _ w3 ⟨F3, A3, c3, l3, b3, cs3, x3, hp3, hF3, hl3, hrd3, hst3⟩
 obtain ⟨hI3, rfl⟩ := hrd3
 replace hFr:=hFr.fr hF3
 replace hp:=hp3
 refine go ?_
 refine wk_post0 (.inr rfl) results132  ?_
 exact ⟨_, rfl, _, A3, c3, l3, b3, _, ({ seq := x1, dig := x2, view := x3 } : Stn), ((hp.up 1 rfl).up 1 rfl), hFr, hl3, ⟨⟨hI1, hI3⟩, rfl⟩, StepP.bind hst1 (StepP.bind hst2 (StepP.bind hst3 (StepP.pure _ _)))⟩
set_option maxHeartbeats 40000000 in
theorem gStand_ok {gw : Nat} {out : List UInt8} {pa : Addr} {pc : Addr} {cs : List Value} {x : Stn} (hp : HP w0 M0 Fz w (itB gw 89 [.slice A out.length c] :: itR 5 1 A out.length c (out.map bv) :: H)) (hatx : AtF Fz w pa cs) (hrd : standR.rd Fz w cs x) (hok : standOk x) (hlen : out.length + (standE x).length ≤ 1000000) (hcap : AtF Fz w pc [.iface 87 (.pointer (some ⟨gw, 0, none⟩))]) : Ret prog 132 #[.pointer (some pa), .pointer (some pc)] w (WrP 5 89 gw w0 M0 Fz w H (out ++ standE x)) := by
 have hFr:=Frz.start Fz w
 obtain ⟨hIx, rfl⟩ := hrd
 refine ret_of_wk func132 rfl ntmps132 leB_ ?_
 refine go ?_
 apply wdT 7 [.eq _,.eq _,.eq _,.eq _,.eq _,.eq _,.eq _]
 refine ⟨?_,?_,?_,?_,?_,?_,?_,trivial⟩<;>intro F wF hER hk
 exact Ld_ sc123 (hk.qi 1) (hcap.ext hER).head qz
 exact dm (hk.qi 0)
 exact Nc_ (hk.qe 1) qz
 exact Fe_ fld97_0 (hk.qe 2) qz
 have e3:=hk.qe 0
 exact wl_makeFunc (first := [.tmp 3]) (cap := []) (by decide) (by simp only [evs, ev, e3]; rfl) rfl qz
 exact wl_nilCheckM (t := 87) (by decide) mt177 (hk.qe 4) qz
 exact dm (hk.qe 0)
 intro F wD hED hini hdo
 refine wl_drop [(0, _), (1, _), (6, _), (9, _)] ⟨di hini 0, di hini 1, dr hdo 3, dr hdo 6, trivial⟩ ?_
 clear hini hdo
 replace hFr:=hFr.ext hED
 have q0:=hED
 replace hp:=hp.ext hED
 have hcl:=gNum_ok hp ((hatx.ext q0).sub 0 1) (hok.1) (by simp only [standE, digE, List.length_append] at hlen ⊢; omega)
 refine wl_invoke (t := 87) (name := "bastide/note.num") (f := 177) (by decide) mt177 rfl rfl hcl ?_
 clear hcl
 rintro _ w1 ⟨A1, c1, hp1, hF1⟩
 replace hFr:=hFr.fr hF1
 have q1:=hatx.tk.ext q0
 replace q1:=q1.fr hF1
 replace hp:=hp1
 refine go ?_
 apply wdT 7 [.eq _,.eq _,.eq _,.eq _,.eq _,.eq _,.eq _]
 refine ⟨?_,?_,?_,?_,?_,?_,?_,trivial⟩<;>intro F wF hER hk
 exact Ld_ sc123 (hk.qi 1) ((hcap.fr q1).ext hER).head qz
 exact dm (hk.qi 0)
 exact Nc_ (hk.qe 1) qz
 exact Fe_ fld97_1 (hk.qe 2) qz
 have e11:=hk.qe 0
 exact wl_makeFunc (first := [.tmp 11]) (cap := []) (by decide) (by simp only [evs, ev, e11]; rfl) rfl qz
 exact wl_nilCheckM (t := 87) (by decide) mt175 (hk.qe 4) qz
 exact dm (hk.qe 0)
 intro F wD hED hini hdo
 refine wl_drop [(0, _), (1, _), (14, _), (17, _)] ⟨di hini 0, di hini 1, dr hdo 3, dr hdo 6, trivial⟩ ?_
 clear hini hdo
 replace hFr:=hFr.ext hED
 replace q1:=q1.ext hED
 replace hp:=hp.ext hED
 have hcl:=gDig_ok hp ((hatx.fr q1).sub 1 32) (by simp only [standE, digE, List.length_append] at hlen ⊢; omega)
 refine wl_invoke (t := 87) (name := "bastide/note.digest") (f := 175) (by decide) mt175 rfl rfl hcl ?_
 clear hcl
 rintro _ w2 ⟨A2, c2, hp2, hF2⟩
 replace hFr:=hFr.fr hF2
 replace q1:=q1.fr hF2
 replace hp:=hp2
 refine go ?_
 apply wdT 7 [.eq _,.eq _,.eq _,.eq _,.eq _,.eq _,.eq _]
 refine ⟨?_,?_,?_,?_,?_,?_,?_,trivial⟩<;>intro F wF hER hk
 exact Ld_ sc123 (hk.qi 1) ((hcap.fr q1).ext hER).head qz
 exact dm (hk.qi 0)
 exact Nc_ (hk.qe 1) qz
 exact Fe_ fld97_2 (hk.qe 2) qz
 have e19:=hk.qe 0
 exact wl_makeFunc (first := [.tmp 19]) (cap := []) (by decide) (by simp only [evs, ev, e19]; rfl) rfl qz
 exact wl_nilCheckM (t := 87) (by decide) mt177 (hk.qe 4) qz
 exact dm (hk.qe 0)
 intro F wD hED hini hdo
 refine wl_drop [(22, _), (25, _)] ⟨dr hdo 3, dr hdo 6, trivial⟩ ?_
 clear hini hdo
 replace hFr:=hFr.ext hED
 replace q1:=q1.ext hED
 replace hp:=hp.ext hED
 have hcl:=gNum_ok hp ((hatx.fr q1).sub 33 1) (hok.2.2) (by simp only [standE, digE, List.length_append] at hlen ⊢; omega)
 refine wl_invoke (t := 87) (name := "bastide/note.num") (f := 177) (by decide) mt177 rfl rfl hcl ?_
 clear hcl
 rintro _ w3 ⟨A3, c3, hp3, hF3⟩
 replace hFr:=hFr.fr hF3
 replace hp:=hp3
 refine go ?_
 refine wk_post0 (.inr rfl) results132  ?_
 rw [show out ++ standE x = (((out ++ numE x.seq) ++ x.dig.l) ++ numE x.view) from by simp only [standE, digE, ← List.append_assoc]]
 exact ⟨_, rfl, _, _, hp, hFr⟩
set_option maxHeartbeats 40000000 in
theorem gMark_ok {gw : Nat} {out : List UInt8} {pa : Addr} {pc : Addr} {cs : List Value} {x : Mrk} (hp : HP w0 M0 Fz w (itB gw 89 [.slice A out.length c] :: itR 5 1 A out.length c (out.map bv) :: H)) (hatx : AtF Fz w pa cs) (hrd : markR.rd Fz w cs x) (hok : markOk x) (hlen : out.length + (markE x).length ≤ 1000000) (hcap : AtF Fz w pc [.iface 87 (.pointer (some ⟨gw, 0, none⟩))]) : Ret prog 96 #[.pointer (some pa), .pointer (some pc)] w (WrP 5 89 gw w0 M0 Fz w H (out ++ markE x)) := by
 have hFr:=Frz.start Fz w
 obtain ⟨hIx, rfl⟩ := hrd
 refine ret_of_wk func96 rfl ntmps96 leB_ ?_
 refine go ?_
 apply wdT 7 [.eq _,.eq _,.eq _,.eq _,.eq _,.eq _,.eq _]
 refine ⟨?_,?_,?_,?_,?_,?_,?_,trivial⟩<;>intro F wF hER hk
 exact Ld_ sc123 (hk.qi 1) (hcap.ext hER).head qz
 exact dm (hk.qi 0)
 exact Nc_ (hk.qe 1) qz
 exact Fe_ fld95_0 (hk.qe 2) qz
 have e3:=hk.qe 0
 exact wl_makeFunc (first := [.tmp 3]) (cap := []) (by decide) (by simp only [evs, ev, e3]; rfl) rfl qz
 exact wl_nilCheckM (t := 87) (by decide) mt177 (hk.qe 4) qz
 exact dm (hk.qe 0)
 intro F wD hED hini hdo
 refine wl_drop [(0, _), (1, _), (6, _), (9, _)] ⟨di hini 0, di hini 1, dr hdo 3, dr hdo 6, trivial⟩ ?_
 clear hini hdo
 replace hFr:=hFr.ext hED
 have q0:=hED
 replace hp:=hp.ext hED
 have hcl:=gNum_ok hp ((hatx.ext q0).sub 0 1) (hok.1) (by simp only [markE, digE, List.length_append] at hlen ⊢; omega)
 refine wl_invoke (t := 87) (name := "bastide/note.num") (f := 177) (by decide) mt177 rfl rfl hcl ?_
 clear hcl
 rintro _ w1 ⟨A1, c1, hp1, hF1⟩
 replace hFr:=hFr.fr hF1
 have q1:=hatx.tk.ext q0
 replace q1:=q1.fr hF1
 replace hp:=hp1
 refine go ?_
 apply wdT 7 [.eq _,.eq _,.eq _,.eq _,.eq _,.eq _,.eq _]
 refine ⟨?_,?_,?_,?_,?_,?_,?_,trivial⟩<;>intro F wF hER hk
 exact Ld_ sc123 (hk.qi 1) ((hcap.fr q1).ext hER).head qz
 exact dm (hk.qi 0)
 exact Nc_ (hk.qe 1) qz
 exact Fe_ fld95_1 (hk.qe 2) qz
 have e11:=hk.qe 0
 exact wl_makeFunc (first := [.tmp 11]) (cap := []) (by decide) (by simp only [evs, ev, e11]; rfl) rfl qz
 exact wl_nilCheckM (t := 87) (by decide) mt175 (hk.qe 4) qz
 exact dm (hk.qe 0)
 intro F wD hED hini hdo
 refine wl_drop [(14, _), (17, _)] ⟨dr hdo 3, dr hdo 6, trivial⟩ ?_
 clear hini hdo
 replace hFr:=hFr.ext hED
 replace q1:=q1.ext hED
 replace hp:=hp.ext hED
 have hcl:=gDig_ok hp ((hatx.fr q1).sub 1 32) (by simp only [markE, digE, List.length_append] at hlen ⊢; omega)
 refine wl_invoke (t := 87) (name := "bastide/note.digest") (f := 175) (by decide) mt175 rfl rfl hcl ?_
 clear hcl
 rintro _ w2 ⟨A2, c2, hp2, hF2⟩
 replace hFr:=hFr.fr hF2
 replace hp:=hp2
 refine go ?_
 refine wk_post0 (.inr rfl) results96  ?_
 rw [show out ++ markE x = ((out ++ numE x.seq) ++ x.dig.l) from by simp only [markE, digE, ← List.append_assoc]]
 exact ⟨_, rfl, _, _, hp, hFr⟩
theorem flat_take {α : Type} (E : α → List UInt8) (l : List α) (k : Nat) (hk : k < l.length) : flatE E (l.take (k + 1)) = flatE E (l.take k) ++ E l[k] := by
 rw [List.take_succ_eq_append_getElem hk, flatE_snoc]
theorem flat_take_le {α : Type} (E : α → List UInt8) (l : List α) (k : Nat) : (flatE E (l.take k)).length ≤ (flatE E l).length := by
 conv => rhs; rw [← List.take_append_drop k l]
 unfold flatE
 rw [List.map_append, List.flatten_append, List.length_append]
 omega
theorem flat_room {α : Type} {E : α → List UInt8} {l _out : List α} {o : List UInt8} {k : Nat} (hk : k < l.length) (h : o.length + (listE E l).length ≤ 1000000) : (o ++ numE (l.length : Int) ++ flatE E (l.take k)).length + (E l[k]).length ≤ 1000000 := by
 have h1 := flat_take_le E l (k + 1)
 rw [flat_take E l k hk] at h1
 simp only [listE, List.length_append] at h h1 ⊢
 omega
set_option maxHeartbeats 40000000 in
theorem gListM_ok {gw : Nat} {out : List UInt8} {pa : Addr} {B : Option Addr} {d : Nat} {l : List Mrk} {E : Mrk → List UInt8} {ok : Mrk → Prop} {FV : Value} {most : Int} (hp : HP w0 M0 Fz w (itB gw 89 [.slice A out.length c] :: itR 5 1 A out.length c (out.map bv) :: H)) (hat : AtF Fz w pa [.slice B l.length d]) (hl : GS markR Fz w B d l) (hok : ∀ x ∈ l, ok x) (hE : EachW prog 5 89 gw w0 M0 Fz w markR E ok FV) (hnl : isNum (l.length : Int)) (hlen : out.length + (listE E l).length ≤ 1000000) : Ret prog 95 #[.iface 87 (.pointer (some ⟨gw, 0, none⟩)), .pointer (some pa), .int .i64 most, FV] w (WrP 5 89 gw w0 M0 Fz w H (out ++ listE E l)) := by
 have hFr:=Frz.start Fz w
 have hnl2:=hnl
 unfold isNum at hnl2
 refine ret_of_wk func95 rfl ntmps95 leB_ ?_
 refine go ?_
 apply wdT 9 [.eq _,.eq _,.eq _,.eq (.slice B l.length d),.eq (iv (l.length : Int)),.eq _,.eq _,.eq _,.eq _]
 refine ⟨?_,?_,?_,?_,?_,?_,?_,?_,?_,trivial⟩<;>intro F wF hER hk
 exact dm (hk.qi 0)
 exact dm (hk.qi 1)
 exact Nc_ (hk.qe 1) qz
 exact Ld_ sc30 (hk.qe 2) (hat.ext hER).head qz
 exact Ln_ underlying30 (hk.qe 3) qz
 exact dm (hk.qi 2)
 have e11:=hk.qe 0
 exact wl_makeFunc (first := [.tmp 11]) (cap := []) (by decide) (by simp only [evs, ev, e11]; rfl) rfl qz
 exact wl_nilCheckM (t := 87) (by decide) mt176 (hk.qe 6) qz
 exact dm (hk.qe 0)
 intro F wD hED hini hdo
 refine wl_drop [(1, _), (3, _), (15, _), (16, _), (19, _)] ⟨di hini 1, di hini 3, dr hdo 4, dr hdo 5, dr hdo 8, trivial⟩ ?_
 clear hini hdo
 replace hFr:=hFr.ext hED
 have q0:=hED
 replace hp:=hp.ext hED
 have hcl:=gMany_ok (v9 := iv most) hp hnl (by simp only [listE, List.length_append] at hlen ⊢; omega)
 refine wl_invoke (t := 87) (name := "bastide/note.many") (f := 176) (by decide) mt176 rfl rfl hcl ?_
 clear hcl
 rintro _ w1 ⟨rfl, A1, c1, hp1, hF1⟩
 replace hFr:=hFr.fr hF1
 have q1:=hat.tk.ext q0
 replace q1:=q1.fr hF1
 replace hp:=hp1
 refine go ?_
 refine wc_loop (fun L' w' mes => ∃ (k : Nat), ∃ (A2 : Option Addr), ∃ (c2 : Nat), L' = [(1, .pointer (some pa)), (3, FV), (21, iv (l.length : Int)), (22, iv (k : Int))] ∧ (k ≤ l.length) ∧ (Frz Fz Fz w w') ∧ (AtF Fz w' pa [.slice B l.length d]) ∧ (GS markR Fz w' B d l) ∧ (HP w0 M0 Fz w' (itB gw 89 [.slice A2 (out ++ numE (l.length : Int) ++ flatE E (l.take k)).length c2] :: itR 5 1 A2 (out ++ numE (l.length : Int) ++ flatE E (l.take k)).length c2 ((out ++ numE (l.length : Int) ++ flatE E (l.take k)).map bv) :: H)) ∧ l.length - k = mes) [(1, .pointer (some pa)), (3, FV), (21, iv (l.length : Int)), (22, iv (0 : Int))] (l.length - 0) (by
     refine ⟨0, A1, c1, rfl, ?_, ?_, ?_, ?_, ?_, rfl⟩
     · exact Nat.zero_le _
     · exact hFr
     · exact (hat.fr q1)
     · exact (hl.fr q1)
     · simp only [List.take_zero, flatE_nil, List.append_nil]; exact hp) ⟨rfl, rfl, rfl, rfl, trivial⟩ ?_
 rintro _ wr _ ⟨k, A2, c2, rfl, hk, hFr, hat, hl, hp, rfl⟩ KL1 hKL1
 refine go ?_
 refine Ls_ rfl rfl (go ?_)
 refine Cd (fun hc1 => ?_) fun hc1 => ?_
 have hk9 : k < l.length := by omega
 refine go ?_
 refine Ld_ sc30 rfl hat.head ?_
 refine Ln_ underlying30 rfl ?_
 refine Eq_ rfl rfl ?_
 refine wl_re (k := 30) (v := .bool false) rfl (congrArg Value.bool (decide_eq_false (by omega))) (go ?_)
 refine wc_cond_f rfl ?_
 refine go ?_
 refine Ld_ sc30 rfl hat.head (go ?_)
 obtain ⟨ax, csx, hax, hatx, hrdx⟩ := hl.el k hk9
 refine wl_idx0 (size := 33) (by decide) sl30 rfl rfl hax k rfl hk9 ?_
 have hcl:=hE _ _ _ _ _ _ _ _ hFr hp hatx hrdx (hok _ (List.getElem_mem hk9)) (flat_room (_out := l) hk9 hlen)
 refine wl_callF (vs := [.pointer (some (ax.add (k * 33)))]) (by decide) rfl rfl (fun _ h => by cases h) hcl ?_
 clear hcl
 rintro _ w9 ⟨A9, c9, hp9, hF9⟩
 replace hFr:=hFr.fr hF9
 have q2:=hat.tk.fr hF9
 replace hp:=hp9
 refine go ?_
 refine wl_add (by decide) rfl rfl (w64 (by omega) (by omega)) (gl ?_)
 refine wk_drop [(1, .pointer (some pa)), (3, FV), (21, iv (l.length : Int)), (22, iv ((k + 1) : Int))] ⟨rfl, rfl, rfl, rfl, trivial⟩ (hKL1 _ _ (m2 := l.length - (k + 1)) ?_ ?_)
 refine ⟨(k + 1), A9, c9, rfl, ?_, ?_, ?_, ?_, ?_, rfl⟩
 omega
 exact hFr
 exact (hat.fr q2)
 exact (hl.fr q2)
 rw [flat_take E l k hk9, ← List.append_assoc]; exact hp
 omega
 refine go ?_
 refine wk_post0 (.inr rfl) results95  ?_
 have hkl : k = l.length := by omega
 rw [hkl, List.take_length, List.append_assoc] at hp
 exact ⟨_, rfl, _, _, hp, hFr⟩
set_option maxHeartbeats 40000000 in
theorem gListS_ok {gw : Nat} {out : List UInt8} {pa : Addr} {B : Option Addr} {d : Nat} {l : List Stn} {E : Stn → List UInt8} {ok : Stn → Prop} {FV : Value} {most : Int} (hp : HP w0 M0 Fz w (itB gw 89 [.slice A out.length c] :: itR 5 1 A out.length c (out.map bv) :: H)) (hat : AtF Fz w pa [.slice B l.length d]) (hl : GS standR Fz w B d l) (hok : ∀ x ∈ l, ok x) (hE : EachW prog 5 89 gw w0 M0 Fz w standR E ok FV) (hnl : isNum (l.length : Int)) (hlen : out.length + (listE E l).length ≤ 1000000) : Ret prog 97 #[.iface 87 (.pointer (some ⟨gw, 0, none⟩)), .pointer (some pa), .int .i64 most, FV] w (WrP 5 89 gw w0 M0 Fz w H (out ++ listE E l)) := by
 have hFr:=Frz.start Fz w
 have hnl2:=hnl
 unfold isNum at hnl2
 refine ret_of_wk func97 rfl ntmps97 leB_ ?_
 refine go ?_
 apply wdT 9 [.eq _,.eq _,.eq _,.eq (.slice B l.length d),.eq (iv (l.length : Int)),.eq _,.eq _,.eq _,.eq _]
 refine ⟨?_,?_,?_,?_,?_,?_,?_,?_,?_,trivial⟩<;>intro F wF hER hk
 exact dm (hk.qi 0)
 exact dm (hk.qi 1)
 exact Nc_ (hk.qe 1) qz
 exact Ld_ sc31 (hk.qe 2) (hat.ext hER).head qz
 exact Ln_ underlying31 (hk.qe 3) qz
 exact dm (hk.qi 2)
 have e11:=hk.qe 0
 exact wl_makeFunc (first := [.tmp 11]) (cap := []) (by decide) (by simp only [evs, ev, e11]; rfl) rfl qz
 exact wl_nilCheckM (t := 87) (by decide) mt176 (hk.qe 6) qz
 exact dm (hk.qe 0)
 intro F wD hED hini hdo
 refine wl_drop [(1, _), (3, _), (15, _), (16, _), (19, _)] ⟨di hini 1, di hini 3, dr hdo 4, dr hdo 5, dr hdo 8, trivial⟩ ?_
 clear hini hdo
 replace hFr:=hFr.ext hED
 have q0:=hED
 replace hp:=hp.ext hED
 have hcl:=gMany_ok (v9 := iv most) hp hnl (by simp only [listE, List.length_append] at hlen ⊢; omega)
 refine wl_invoke (t := 87) (name := "bastide/note.many") (f := 176) (by decide) mt176 rfl rfl hcl ?_
 clear hcl
 rintro _ w1 ⟨rfl, A1, c1, hp1, hF1⟩
 replace hFr:=hFr.fr hF1
 have q1:=hat.tk.ext q0
 replace q1:=q1.fr hF1
 replace hp:=hp1
 refine go ?_
 refine wc_loop (fun L' w' mes => ∃ (k : Nat), ∃ (A2 : Option Addr), ∃ (c2 : Nat), L' = [(1, .pointer (some pa)), (3, FV), (21, iv (l.length : Int)), (22, iv (k : Int))] ∧ (k ≤ l.length) ∧ (Frz Fz Fz w w') ∧ (AtF Fz w' pa [.slice B l.length d]) ∧ (GS standR Fz w' B d l) ∧ (HP w0 M0 Fz w' (itB gw 89 [.slice A2 (out ++ numE (l.length : Int) ++ flatE E (l.take k)).length c2] :: itR 5 1 A2 (out ++ numE (l.length : Int) ++ flatE E (l.take k)).length c2 ((out ++ numE (l.length : Int) ++ flatE E (l.take k)).map bv) :: H)) ∧ l.length - k = mes) [(1, .pointer (some pa)), (3, FV), (21, iv (l.length : Int)), (22, iv (0 : Int))] (l.length - 0) (by
     refine ⟨0, A1, c1, rfl, ?_, ?_, ?_, ?_, ?_, rfl⟩
     · exact Nat.zero_le _
     · exact hFr
     · exact (hat.fr q1)
     · exact (hl.fr q1)
     · simp only [List.take_zero, flatE_nil, List.append_nil]; exact hp) ⟨rfl, rfl, rfl, rfl, trivial⟩ ?_
 rintro _ wr _ ⟨k, A2, c2, rfl, hk, hFr, hat, hl, hp, rfl⟩ KL1 hKL1
 refine go ?_
 refine Ls_ rfl rfl (go ?_)
 refine Cd (fun hc1 => ?_) fun hc1 => ?_
 have hk9 : k < l.length := by omega
 refine go ?_
 refine Ld_ sc31 rfl hat.head ?_
 refine Ln_ underlying31 rfl ?_
 refine Eq_ rfl rfl ?_
 refine wl_re (k := 30) (v := .bool false) rfl (congrArg Value.bool (decide_eq_false (by omega))) (go ?_)
 refine wc_cond_f rfl ?_
 refine go ?_
 refine Ld_ sc31 rfl hat.head (go ?_)
 obtain ⟨ax, csx, hax, hatx, hrdx⟩ := hl.el k hk9
 refine wl_idx0 (size := 34) (by decide) sl31 rfl rfl hax k rfl hk9 ?_
 have hcl:=hE _ _ _ _ _ _ _ _ hFr hp hatx hrdx (hok _ (List.getElem_mem hk9)) (flat_room (_out := l) hk9 hlen)
 refine wl_callF (vs := [.pointer (some (ax.add (k * 34)))]) (by decide) rfl rfl (fun _ h => by cases h) hcl ?_
 clear hcl
 rintro _ w9 ⟨A9, c9, hp9, hF9⟩
 replace hFr:=hFr.fr hF9
 have q2:=hat.tk.fr hF9
 replace hp:=hp9
 refine go ?_
 refine wl_add (by decide) rfl rfl (w64 (by omega) (by omega)) (gl ?_)
 refine wk_drop [(1, .pointer (some pa)), (3, FV), (21, iv (l.length : Int)), (22, iv ((k + 1) : Int))] ⟨rfl, rfl, rfl, rfl, trivial⟩ (hKL1 _ _ (m2 := l.length - (k + 1)) ?_ ?_)
 refine ⟨(k + 1), A9, c9, rfl, ?_, ?_, ?_, ?_, ?_, rfl⟩
 omega
 exact hFr
 exact (hat.fr q2)
 exact (hl.fr q2)
 rw [flat_take E l k hk9, ← List.append_assoc]; exact hp
 omega
 refine go ?_
 refine wk_post0 (.inr rfl) results97  ?_
 have hkl : k = l.length := by omega
 rw [hkl, List.take_length, List.append_assoc] at hp
 exact ⟨_, rfl, _, _, hp, hFr⟩
set_option maxHeartbeats 40000000 in
theorem gListI_ok {gw : Nat} {out : List UInt8} {pa : Addr} {B : Option Addr} {d : Nat} {l : List Int} {E : Int → List UInt8} {ok : Int → Prop} {FV : Value} {most : Int} (hp : HP w0 M0 Fz w (itB gw 89 [.slice A out.length c] :: itR 5 1 A out.length c (out.map bv) :: H)) (hat : AtF Fz w pa [.slice B l.length d]) (hl : GS intR Fz w B d l) (hok : ∀ x ∈ l, ok x) (hE : EachW prog 5 89 gw w0 M0 Fz w intR E ok FV) (hnl : isNum (l.length : Int)) (hlen : out.length + (listE E l).length ≤ 1000000) : Ret prog 114 #[.iface 87 (.pointer (some ⟨gw, 0, none⟩)), .pointer (some pa), .int .i64 most, FV] w (WrP 5 89 gw w0 M0 Fz w H (out ++ listE E l)) := by
 have hFr:=Frz.start Fz w
 have hnl2:=hnl
 unfold isNum at hnl2
 refine ret_of_wk func114 rfl ntmps114 leB_ ?_
 refine go ?_
 apply wdT 9 [.eq _,.eq _,.eq _,.eq (.slice B l.length d),.eq (iv (l.length : Int)),.eq _,.eq _,.eq _,.eq _]
 refine ⟨?_,?_,?_,?_,?_,?_,?_,?_,?_,trivial⟩<;>intro F wF hER hk
 exact dm (hk.qi 0)
 exact dm (hk.qi 1)
 exact Nc_ (hk.qe 1) qz
 exact Ld_ sc27 (hk.qe 2) (hat.ext hER).head qz
 exact Ln_ underlying27 (hk.qe 3) qz
 exact dm (hk.qi 2)
 have e11:=hk.qe 0
 exact wl_makeFunc (first := [.tmp 11]) (cap := []) (by decide) (by simp only [evs, ev, e11]; rfl) rfl qz
 exact wl_nilCheckM (t := 87) (by decide) mt176 (hk.qe 6) qz
 exact dm (hk.qe 0)
 intro F wD hED hini hdo
 refine wl_drop [(1, _), (3, _), (15, _), (16, _), (19, _)] ⟨di hini 1, di hini 3, dr hdo 4, dr hdo 5, dr hdo 8, trivial⟩ ?_
 clear hini hdo
 replace hFr:=hFr.ext hED
 have q0:=hED
 replace hp:=hp.ext hED
 have hcl:=gMany_ok (v9 := iv most) hp hnl (by simp only [listE, List.length_append] at hlen ⊢; omega)
 refine wl_invoke (t := 87) (name := "bastide/note.many") (f := 176) (by decide) mt176 rfl rfl hcl ?_
 clear hcl
 rintro _ w1 ⟨rfl, A1, c1, hp1, hF1⟩
 replace hFr:=hFr.fr hF1
 have q1:=hat.tk.ext q0
 replace q1:=q1.fr hF1
 replace hp:=hp1
 refine go ?_
 refine wc_loop (fun L' w' mes => ∃ (k : Nat), ∃ (A2 : Option Addr), ∃ (c2 : Nat), L' = [(1, .pointer (some pa)), (3, FV), (21, iv (l.length : Int)), (22, iv (k : Int))] ∧ (k ≤ l.length) ∧ (Frz Fz Fz w w') ∧ (AtF Fz w' pa [.slice B l.length d]) ∧ (GS intR Fz w' B d l) ∧ (HP w0 M0 Fz w' (itB gw 89 [.slice A2 (out ++ numE (l.length : Int) ++ flatE E (l.take k)).length c2] :: itR 5 1 A2 (out ++ numE (l.length : Int) ++ flatE E (l.take k)).length c2 ((out ++ numE (l.length : Int) ++ flatE E (l.take k)).map bv) :: H)) ∧ l.length - k = mes) [(1, .pointer (some pa)), (3, FV), (21, iv (l.length : Int)), (22, iv (0 : Int))] (l.length - 0) (by
     refine ⟨0, A1, c1, rfl, ?_, ?_, ?_, ?_, ?_, rfl⟩
     · exact Nat.zero_le _
     · exact hFr
     · exact (hat.fr q1)
     · exact (hl.fr q1)
     · simp only [List.take_zero, flatE_nil, List.append_nil]; exact hp) ⟨rfl, rfl, rfl, rfl, trivial⟩ ?_
 rintro _ wr _ ⟨k, A2, c2, rfl, hk, hFr, hat, hl, hp, rfl⟩ KL1 hKL1
 refine go ?_
 refine Ls_ rfl rfl (go ?_)
 refine Cd (fun hc1 => ?_) fun hc1 => ?_
 have hk9 : k < l.length := by omega
 refine go ?_
 refine Ld_ sc27 rfl hat.head ?_
 refine Ln_ underlying27 rfl ?_
 refine Eq_ rfl rfl ?_
 refine wl_re (k := 30) (v := .bool false) rfl (congrArg Value.bool (decide_eq_false (by omega))) (go ?_)
 refine wc_cond_f rfl ?_
 refine go ?_
 refine Ld_ sc27 rfl hat.head (go ?_)
 obtain ⟨ax, csx, hax, hatx, hrdx⟩ := hl.el k hk9
 refine wl_idx0 (size := 1) (by decide) sl27 rfl rfl hax k rfl hk9 ?_
 have hcl:=hE _ _ _ _ _ _ _ _ hFr hp hatx hrdx (hok _ (List.getElem_mem hk9)) (flat_room (_out := l) hk9 hlen)
 refine wl_callF (vs := [.pointer (some (ax.add (k * 1)))]) (by decide) rfl rfl (fun _ h => by cases h) hcl ?_
 clear hcl
 rintro _ w9 ⟨A9, c9, hp9, hF9⟩
 replace hFr:=hFr.fr hF9
 have q2:=hat.tk.fr hF9
 replace hp:=hp9
 refine go ?_
 refine wl_add (by decide) rfl rfl (w64 (by omega) (by omega)) (gl ?_)
 refine wk_drop [(1, .pointer (some pa)), (3, FV), (21, iv (l.length : Int)), (22, iv ((k + 1) : Int))] ⟨rfl, rfl, rfl, rfl, trivial⟩ (hKL1 _ _ (m2 := l.length - (k + 1)) ?_ ?_)
 refine ⟨(k + 1), A9, c9, rfl, ?_, ?_, ?_, ?_, ?_, rfl⟩
 omega
 exact hFr
 exact (hat.fr q2)
 exact (hl.fr q2)
 rw [flat_take E l k hk9, ← List.append_assoc]; exact hp
 omega
 refine go ?_
 refine wk_post0 (.inr rfl) results114  ?_
 have hkl : k = l.length := by omega
 rw [hkl, List.take_length, List.append_assoc] at hp
 exact ⟨_, rfl, _, _, hp, hFr⟩
set_option maxHeartbeats 40000000 in
theorem gListD_ok {gw : Nat} {out : List UInt8} {pa : Addr} {B : Option Addr} {d : Nat} {l : List Dig} {E : Dig → List UInt8} {ok : Dig → Prop} {FV : Value} {most : Int} (hp : HP w0 M0 Fz w (itB gw 89 [.slice A out.length c] :: itR 5 1 A out.length c (out.map bv) :: H)) (hat : AtF Fz w pa [.slice B l.length d]) (hl : GS digR Fz w B d l) (hok : ∀ x ∈ l, ok x) (hE : EachW prog 5 89 gw w0 M0 Fz w digR E ok FV) (hnl : isNum (l.length : Int)) (hlen : out.length + (listE E l).length ≤ 1000000) : Ret prog 113 #[.iface 87 (.pointer (some ⟨gw, 0, none⟩)), .pointer (some pa), .int .i64 most, FV] w (WrP 5 89 gw w0 M0 Fz w H (out ++ listE E l)) := by
 have hFr:=Frz.start Fz w
 have hnl2:=hnl
 unfold isNum at hnl2
 refine ret_of_wk func113 rfl ntmps113 leB_ ?_
 refine go ?_
 apply wdT 9 [.eq _,.eq _,.eq _,.eq (.slice B l.length d),.eq (iv (l.length : Int)),.eq _,.eq _,.eq _,.eq _]
 refine ⟨?_,?_,?_,?_,?_,?_,?_,?_,?_,trivial⟩<;>intro F wF hER hk
 exact dm (hk.qi 0)
 exact dm (hk.qi 1)
 exact Nc_ (hk.qe 1) qz
 exact Ld_ sc36 (hk.qe 2) (hat.ext hER).head qz
 exact Ln_ underlying36 (hk.qe 3) qz
 exact dm (hk.qi 2)
 have e11:=hk.qe 0
 exact wl_makeFunc (first := [.tmp 11]) (cap := []) (by decide) (by simp only [evs, ev, e11]; rfl) rfl qz
 exact wl_nilCheckM (t := 87) (by decide) mt176 (hk.qe 6) qz
 exact dm (hk.qe 0)
 intro F wD hED hini hdo
 refine wl_drop [(1, _), (3, _), (15, _), (16, _), (19, _)] ⟨di hini 1, di hini 3, dr hdo 4, dr hdo 5, dr hdo 8, trivial⟩ ?_
 clear hini hdo
 replace hFr:=hFr.ext hED
 have q0:=hED
 replace hp:=hp.ext hED
 have hcl:=gMany_ok (v9 := iv most) hp hnl (by simp only [listE, List.length_append] at hlen ⊢; omega)
 refine wl_invoke (t := 87) (name := "bastide/note.many") (f := 176) (by decide) mt176 rfl rfl hcl ?_
 clear hcl
 rintro _ w1 ⟨rfl, A1, c1, hp1, hF1⟩
 replace hFr:=hFr.fr hF1
 have q1:=hat.tk.ext q0
 replace q1:=q1.fr hF1
 replace hp:=hp1
 refine go ?_
 refine wc_loop (fun L' w' mes => ∃ (k : Nat), ∃ (A2 : Option Addr), ∃ (c2 : Nat), L' = [(1, .pointer (some pa)), (3, FV), (21, iv (l.length : Int)), (22, iv (k : Int))] ∧ (k ≤ l.length) ∧ (Frz Fz Fz w w') ∧ (AtF Fz w' pa [.slice B l.length d]) ∧ (GS digR Fz w' B d l) ∧ (HP w0 M0 Fz w' (itB gw 89 [.slice A2 (out ++ numE (l.length : Int) ++ flatE E (l.take k)).length c2] :: itR 5 1 A2 (out ++ numE (l.length : Int) ++ flatE E (l.take k)).length c2 ((out ++ numE (l.length : Int) ++ flatE E (l.take k)).map bv) :: H)) ∧ l.length - k = mes) [(1, .pointer (some pa)), (3, FV), (21, iv (l.length : Int)), (22, iv (0 : Int))] (l.length - 0) (by
     refine ⟨0, A1, c1, rfl, ?_, ?_, ?_, ?_, ?_, rfl⟩
     · exact Nat.zero_le _
     · exact hFr
     · exact (hat.fr q1)
     · exact (hl.fr q1)
     · simp only [List.take_zero, flatE_nil, List.append_nil]; exact hp) ⟨rfl, rfl, rfl, rfl, trivial⟩ ?_
 rintro _ wr _ ⟨k, A2, c2, rfl, hk, hFr, hat, hl, hp, rfl⟩ KL1 hKL1
 refine go ?_
 refine Ls_ rfl rfl (go ?_)
 refine Cd (fun hc1 => ?_) fun hc1 => ?_
 have hk9 : k < l.length := by omega
 refine go ?_
 refine Ld_ sc36 rfl hat.head ?_
 refine Ln_ underlying36 rfl ?_
 refine Eq_ rfl rfl ?_
 refine wl_re (k := 30) (v := .bool false) rfl (congrArg Value.bool (decide_eq_false (by omega))) (go ?_)
 refine wc_cond_f rfl ?_
 refine go ?_
 refine Ld_ sc36 rfl hat.head (go ?_)
 obtain ⟨ax, csx, hax, hatx, hrdx⟩ := hl.el k hk9
 refine wl_idx0 (size := 32) (by decide) sl36 rfl rfl hax k rfl hk9 ?_
 have hcl:=hE _ _ _ _ _ _ _ _ hFr hp hatx hrdx (hok _ (List.getElem_mem hk9)) (flat_room (_out := l) hk9 hlen)
 refine wl_callF (vs := [.pointer (some (ax.add (k * 32)))]) (by decide) rfl rfl (fun _ h => by cases h) hcl ?_
 clear hcl
 rintro _ w9 ⟨A9, c9, hp9, hF9⟩
 replace hFr:=hFr.fr hF9
 have q2:=hat.tk.fr hF9
 replace hp:=hp9
 refine go ?_
 refine wl_add (by decide) rfl rfl (w64 (by omega) (by omega)) (gl ?_)
 refine wk_drop [(1, .pointer (some pa)), (3, FV), (21, iv (l.length : Int)), (22, iv ((k + 1) : Int))] ⟨rfl, rfl, rfl, rfl, trivial⟩ (hKL1 _ _ (m2 := l.length - (k + 1)) ?_ ?_)
 refine ⟨(k + 1), A9, c9, rfl, ?_, ?_, ?_, ?_, ?_, rfl⟩
 omega
 exact hFr
 exact (hat.fr q2)
 exact (hl.fr q2)
 rw [flat_take E l k hk9, ← List.append_assoc]; exact hp
 omega
 refine go ?_
 refine wk_post0 (.inr rfl) results113  ?_
 have hkl : k = l.length := by omega
 rw [hkl, List.take_length, List.append_assoc] at hp
 exact ⟨_, rfl, _, _, hp, hFr⟩
set_option maxHeartbeats 40000000 in
theorem gListC_ok {gw : Nat} {out : List UInt8} {pa : Addr} {B : Option Addr} {d : Nat} {l : List Chn} {E : Chn → List UInt8} {ok : Chn → Prop} {FV : Value} {most : Int} (hp : HP w0 M0 Fz w (itB gw 89 [.slice A out.length c] :: itR 5 1 A out.length c (out.map bv) :: H)) (hat : AtF Fz w pa [.slice B l.length d]) (hl : GS changeR Fz w B d l) (hok : ∀ x ∈ l, ok x) (hE : EachW prog 5 89 gw w0 M0 Fz w changeR E ok FV) (hnl : isNum (l.length : Int)) (hlen : out.length + (listE E l).length ≤ 1000000) : Ret prog 109 #[.iface 87 (.pointer (some ⟨gw, 0, none⟩)), .pointer (some pa), .int .i64 most, FV] w (WrP 5 89 gw w0 M0 Fz w H (out ++ listE E l)) := by
 have hFr:=Frz.start Fz w
 have hnl2:=hnl
 unfold isNum at hnl2
 refine ret_of_wk func109 rfl ntmps109 leB_ ?_
 refine go ?_
 apply wdT 9 [.eq _,.eq _,.eq _,.eq (.slice B l.length d),.eq (iv (l.length : Int)),.eq _,.eq _,.eq _,.eq _]
 refine ⟨?_,?_,?_,?_,?_,?_,?_,?_,?_,trivial⟩<;>intro F wF hER hk
 exact dm (hk.qi 0)
 exact dm (hk.qi 1)
 exact Nc_ (hk.qe 1) qz
 exact Ld_ sc34 (hk.qe 2) (hat.ext hER).head qz
 exact Ln_ underlying34 (hk.qe 3) qz
 exact dm (hk.qi 2)
 have e11:=hk.qe 0
 exact wl_makeFunc (first := [.tmp 11]) (cap := []) (by decide) (by simp only [evs, ev, e11]; rfl) rfl qz
 exact wl_nilCheckM (t := 87) (by decide) mt176 (hk.qe 6) qz
 exact dm (hk.qe 0)
 intro F wD hED hini hdo
 refine wl_drop [(1, _), (3, _), (15, _), (16, _), (19, _)] ⟨di hini 1, di hini 3, dr hdo 4, dr hdo 5, dr hdo 8, trivial⟩ ?_
 clear hini hdo
 replace hFr:=hFr.ext hED
 have q0:=hED
 replace hp:=hp.ext hED
 have hcl:=gMany_ok (v9 := iv most) hp hnl (by simp only [listE, List.length_append] at hlen ⊢; omega)
 refine wl_invoke (t := 87) (name := "bastide/note.many") (f := 176) (by decide) mt176 rfl rfl hcl ?_
 clear hcl
 rintro _ w1 ⟨rfl, A1, c1, hp1, hF1⟩
 replace hFr:=hFr.fr hF1
 have q1:=hat.tk.ext q0
 replace q1:=q1.fr hF1
 replace hp:=hp1
 refine go ?_
 refine wc_loop (fun L' w' mes => ∃ (k : Nat), ∃ (A2 : Option Addr), ∃ (c2 : Nat), L' = [(1, .pointer (some pa)), (3, FV), (21, iv (l.length : Int)), (22, iv (k : Int))] ∧ (k ≤ l.length) ∧ (Frz Fz Fz w w') ∧ (AtF Fz w' pa [.slice B l.length d]) ∧ (GS changeR Fz w' B d l) ∧ (HP w0 M0 Fz w' (itB gw 89 [.slice A2 (out ++ numE (l.length : Int) ++ flatE E (l.take k)).length c2] :: itR 5 1 A2 (out ++ numE (l.length : Int) ++ flatE E (l.take k)).length c2 ((out ++ numE (l.length : Int) ++ flatE E (l.take k)).map bv) :: H)) ∧ l.length - k = mes) [(1, .pointer (some pa)), (3, FV), (21, iv (l.length : Int)), (22, iv (0 : Int))] (l.length - 0) (by
     refine ⟨0, A1, c1, rfl, ?_, ?_, ?_, ?_, ?_, rfl⟩
     · exact Nat.zero_le _
     · exact hFr
     · exact (hat.fr q1)
     · exact (hl.fr q1)
     · simp only [List.take_zero, flatE_nil, List.append_nil]; exact hp) ⟨rfl, rfl, rfl, rfl, trivial⟩ ?_
 rintro _ wr _ ⟨k, A2, c2, rfl, hk, hFr, hat, hl, hp, rfl⟩ KL1 hKL1
 refine go ?_
 refine Ls_ rfl rfl (go ?_)
 refine Cd (fun hc1 => ?_) fun hc1 => ?_
 have hk9 : k < l.length := by omega
 refine go ?_
 refine Ld_ sc34 rfl hat.head ?_
 refine Ln_ underlying34 rfl ?_
 refine Eq_ rfl rfl ?_
 refine wl_re (k := 30) (v := .bool false) rfl (congrArg Value.bool (decide_eq_false (by omega))) (go ?_)
 refine wc_cond_f rfl ?_
 refine go ?_
 refine Ld_ sc34 rfl hat.head (go ?_)
 obtain ⟨ax, csx, hax, hatx, hrdx⟩ := hl.el k hk9
 refine wl_idx0 (size := 6) (by decide) sl34 rfl rfl hax k rfl hk9 ?_
 have hcl:=hE _ _ _ _ _ _ _ _ hFr hp hatx hrdx (hok _ (List.getElem_mem hk9)) (flat_room (_out := l) hk9 hlen)
 refine wl_callF (vs := [.pointer (some (ax.add (k * 6)))]) (by decide) rfl rfl (fun _ h => by cases h) hcl ?_
 clear hcl
 rintro _ w9 ⟨A9, c9, hp9, hF9⟩
 replace hFr:=hFr.fr hF9
 have q2:=hat.tk.fr hF9
 replace hp:=hp9
 refine go ?_
 refine wl_add (by decide) rfl rfl (w64 (by omega) (by omega)) (gl ?_)
 refine wk_drop [(1, .pointer (some pa)), (3, FV), (21, iv (l.length : Int)), (22, iv ((k + 1) : Int))] ⟨rfl, rfl, rfl, rfl, trivial⟩ (hKL1 _ _ (m2 := l.length - (k + 1)) ?_ ?_)
 refine ⟨(k + 1), A9, c9, rfl, ?_, ?_, ?_, ?_, ?_, rfl⟩
 omega
 exact hFr
 exact (hat.fr q2)
 exact (hl.fr q2)
 rw [flat_take E l k hk9, ← List.append_assoc]; exact hp
 omega
 refine go ?_
 refine wk_post0 (.inr rfl) results109  ?_
 have hkl : k = l.length := by omega
 rw [hkl, List.take_length, List.append_assoc] at hp
 exact ⟨_, rfl, _, _, hp, hFr⟩
set_option maxHeartbeats 40000000 in
theorem gListP_ok {gw : Nat} {out : List UInt8} {pa : Addr} {B : Option Addr} {d : Nat} {l : List Pck} {E : Pck → List UInt8} {ok : Pck → Prop} {FV : Value} {most : Int} (hp : HP w0 M0 Fz w (itB gw 89 [.slice A out.length c] :: itR 5 1 A out.length c (out.map bv) :: H)) (hat : AtF Fz w pa [.slice B l.length d]) (hl : GS pickR Fz w B d l) (hok : ∀ x ∈ l, ok x) (hE : EachW prog 5 89 gw w0 M0 Fz w pickR E ok FV) (hnl : isNum (l.length : Int)) (hlen : out.length + (listE E l).length ≤ 1000000) : Ret prog 111 #[.iface 87 (.pointer (some ⟨gw, 0, none⟩)), .pointer (some pa), .int .i64 most, FV] w (WrP 5 89 gw w0 M0 Fz w H (out ++ listE E l)) := by
 have hFr:=Frz.start Fz w
 have hnl2:=hnl
 unfold isNum at hnl2
 refine ret_of_wk func111 rfl ntmps111 leB_ ?_
 refine go ?_
 apply wdT 9 [.eq _,.eq _,.eq _,.eq (.slice B l.length d),.eq (iv (l.length : Int)),.eq _,.eq _,.eq _,.eq _]
 refine ⟨?_,?_,?_,?_,?_,?_,?_,?_,?_,trivial⟩<;>intro F wF hER hk
 exact dm (hk.qi 0)
 exact dm (hk.qi 1)
 exact Nc_ (hk.qe 1) qz
 exact Ld_ sc35 (hk.qe 2) (hat.ext hER).head qz
 exact Ln_ underlying35 (hk.qe 3) qz
 exact dm (hk.qi 2)
 have e11:=hk.qe 0
 exact wl_makeFunc (first := [.tmp 11]) (cap := []) (by decide) (by simp only [evs, ev, e11]; rfl) rfl qz
 exact wl_nilCheckM (t := 87) (by decide) mt176 (hk.qe 6) qz
 exact dm (hk.qe 0)
 intro F wD hED hini hdo
 refine wl_drop [(1, _), (3, _), (15, _), (16, _), (19, _)] ⟨di hini 1, di hini 3, dr hdo 4, dr hdo 5, dr hdo 8, trivial⟩ ?_
 clear hini hdo
 replace hFr:=hFr.ext hED
 have q0:=hED
 replace hp:=hp.ext hED
 have hcl:=gMany_ok (v9 := iv most) hp hnl (by simp only [listE, List.length_append] at hlen ⊢; omega)
 refine wl_invoke (t := 87) (name := "bastide/note.many") (f := 176) (by decide) mt176 rfl rfl hcl ?_
 clear hcl
 rintro _ w1 ⟨rfl, A1, c1, hp1, hF1⟩
 replace hFr:=hFr.fr hF1
 have q1:=hat.tk.ext q0
 replace q1:=q1.fr hF1
 replace hp:=hp1
 refine go ?_
 refine wc_loop (fun L' w' mes => ∃ (k : Nat), ∃ (A2 : Option Addr), ∃ (c2 : Nat), L' = [(1, .pointer (some pa)), (3, FV), (21, iv (l.length : Int)), (22, iv (k : Int))] ∧ (k ≤ l.length) ∧ (Frz Fz Fz w w') ∧ (AtF Fz w' pa [.slice B l.length d]) ∧ (GS pickR Fz w' B d l) ∧ (HP w0 M0 Fz w' (itB gw 89 [.slice A2 (out ++ numE (l.length : Int) ++ flatE E (l.take k)).length c2] :: itR 5 1 A2 (out ++ numE (l.length : Int) ++ flatE E (l.take k)).length c2 ((out ++ numE (l.length : Int) ++ flatE E (l.take k)).map bv) :: H)) ∧ l.length - k = mes) [(1, .pointer (some pa)), (3, FV), (21, iv (l.length : Int)), (22, iv (0 : Int))] (l.length - 0) (by
     refine ⟨0, A1, c1, rfl, ?_, ?_, ?_, ?_, ?_, rfl⟩
     · exact Nat.zero_le _
     · exact hFr
     · exact (hat.fr q1)
     · exact (hl.fr q1)
     · simp only [List.take_zero, flatE_nil, List.append_nil]; exact hp) ⟨rfl, rfl, rfl, rfl, trivial⟩ ?_
 rintro _ wr _ ⟨k, A2, c2, rfl, hk, hFr, hat, hl, hp, rfl⟩ KL1 hKL1
 refine go ?_
 refine Ls_ rfl rfl (go ?_)
 refine Cd (fun hc1 => ?_) fun hc1 => ?_
 have hk9 : k < l.length := by omega
 refine go ?_
 refine Ld_ sc35 rfl hat.head ?_
 refine Ln_ underlying35 rfl ?_
 refine Eq_ rfl rfl ?_
 refine wl_re (k := 30) (v := .bool false) rfl (congrArg Value.bool (decide_eq_false (by omega))) (go ?_)
 refine wc_cond_f rfl ?_
 refine go ?_
 refine Ld_ sc35 rfl hat.head (go ?_)
 obtain ⟨ax, csx, hax, hatx, hrdx⟩ := hl.el k hk9
 refine wl_idx0 (size := 34) (by decide) sl35 rfl rfl hax k rfl hk9 ?_
 have hcl:=hE _ _ _ _ _ _ _ _ hFr hp hatx hrdx (hok _ (List.getElem_mem hk9)) (flat_room (_out := l) hk9 hlen)
 refine wl_callF (vs := [.pointer (some (ax.add (k * 34)))]) (by decide) rfl rfl (fun _ h => by cases h) hcl ?_
 clear hcl
 rintro _ w9 ⟨A9, c9, hp9, hF9⟩
 replace hFr:=hFr.fr hF9
 have q2:=hat.tk.fr hF9
 replace hp:=hp9
 refine go ?_
 refine wl_add (by decide) rfl rfl (w64 (by omega) (by omega)) (gl ?_)
 refine wk_drop [(1, .pointer (some pa)), (3, FV), (21, iv (l.length : Int)), (22, iv ((k + 1) : Int))] ⟨rfl, rfl, rfl, rfl, trivial⟩ (hKL1 _ _ (m2 := l.length - (k + 1)) ?_ ?_)
 refine ⟨(k + 1), A9, c9, rfl, ?_, ?_, ?_, ?_, ?_, rfl⟩
 omega
 exact hFr
 exact (hat.fr q2)
 exact (hl.fr q2)
 rw [flat_take E l k hk9, ← List.append_assoc]; exact hp
 omega
 refine go ?_
 refine wk_post0 (.inr rfl) results111  ?_
 have hkl : k = l.length := by omega
 rw [hkl, List.take_length, List.append_assoc] at hp
 exact ⟨_, rfl, _, _, hp, hFr⟩
set_option maxHeartbeats 40000000 in
theorem rListM_ok {gr : Nat} {l : List UInt8} {bad : Bool} {X : List Value → It} {pX : Addr} {most : Int} {p : PR Mrk} {FV : Value} (hp : HP w0 M0 Fz w (itB gr 103 [.slice A l.length c, .bool bad] :: X ([.slice none 0 0]) :: H)) (hS : Slot X pX 1) (hl : GS byteR Fz w A c l) (hE : EachR prog 103 gr w0 M0 Fz w markR ([Value.int .i64 0] ++ (digC dig0)) p FV) (hm : most ≤ 100) : Ret prog 95 #[.iface 101 (.pointer (some ⟨gr, 0, none⟩)), .pointer (some pX), .int .i64 most, FV] w (RdP 103 gr w0 M0 Fz w H X (sliceR markR) (listP p most) bad l) := by
 have hFr:=Frz.start Fz w
 refine ret_of_wk func95 rfl ntmps95 leB_ ?_
 refine go ?_
 apply wdT 9 [.eq _,.eq _,.eq _,.eq _,.eq _,.eq _,.eq _,.eq _,.eq _]
 refine ⟨?_,?_,?_,?_,?_,?_,?_,?_,?_,trivial⟩<;>intro F wF hER hk
 exact dm (hk.qi 0)
 exact dm (hk.qi 1)
 exact Nc_ (hk.qe 1) qz
 exact Ld_ sc30 (hk.qe 2) ((hp.ext hER).slotAt (i := 1) hS rfl rfl).head qz
 exact Ln_ underlying30 (hk.qe 3) qz
 exact dm (hk.qi 2)
 have e11:=hk.qe 0
 exact wl_makeFunc (first := [.tmp 11]) (cap := []) (by decide) (by simp only [evs, ev, e11]; rfl) rfl qz
 exact wl_nilCheckM (t := 101) (by decide) mt187 (hk.qe 6) qz
 exact dm (hk.qe 0)
 intro F wD hED hini hdo
 refine wl_drop [(1, _), (3, _), (15, _), (16, _), (19, _)] ⟨di hini 1, di hini 3, dr hdo 4, dr hdo 5, dr hdo 8, trivial⟩ ?_
 clear hini hdo
 replace hFr:=hFr.ext hED
 have q0:=hED
 replace hp:=hp.ext hED
 have hcl:=nMany_ok (m0 := 0) (most := most) hp (hl.ext q0)
 refine wl_invoke (t := 101) (name := "bastide/note.many") (f := 187) (by decide) mt187 rfl rfl hcl ?_
 clear hcl
 rintro _ w1 ⟨F1, A1, c1, l1, b1, x1, rfl, hp1, hF1, hl1, hst1, hz1⟩
 replace hFr:=hFr.fr hF1
 replace hp:=hp1
 have hML : ∀ q : Int, 0 ≤ q → q < x1 → x1 ≤ most := by
   intro q h0 h1
   cases hq : b1 with
   | false => exact (many_lim hst1 hq).2
   | true => have := hz1 hq; omega
 refine go ?_
 refine wc_loop (fun L' w' mes => ∃ (k : Nat), ∃ (F1 : Nat → Prop), ∃ (A2 : Option Addr), ∃ (c2 : Nat), ∃ (l2 : List UInt8), ∃ (b2 : Bool), ∃ (AL : Option Addr), ∃ (cL : Nat), ∃ (xs : List Mrk), ∃ (rows : List (List Value)), L' = [(1, .pointer (some pX)), (3, FV), (21, iv x1), (22, iv (k : Int))] ∧ (k ≤ x1.toNat) ∧ (xs.length = k) ∧ (RF markR F1 w' rows xs) ∧ (Frz Fz F1 w w') ∧ (GS byteR F1 w' A2 c2 l2) ∧ (StepP (repP p k) (rst b1 l1) (rst b2 l2) xs) ∧ (HP w0 M0 F1 w' (itB gr 103 [.slice A2 l2.length c2, .bool b2] :: X ([.slice AL xs.length cL]) :: itR 95 33 AL xs.length cL rows.flatten :: H)) ∧ x1.toNat - k = mes) [(1, .pointer (some pX)), (3, FV), (21, iv x1), (22, iv (0 : Int))] (x1.toNat - 0) (by
     refine ⟨0, F1, A1, c1, l1, b1, none, 0, [], [], rfl, ?_, ?_, ?_, ?_, ?_, ?_, ?_, rfl⟩
     · exact Nat.zero_le _
     · rfl
     · exact RF.nil _ _ _
     · exact hFr
     · exact hl1
     · exact StepP.pure _ _
     · exact ((hp.noRow 95 33).as_ (H' := _ :: _ :: _ :: _) rfl).rot3) ⟨rfl, rfl, rfl, rfl, trivial⟩ ?_
 rintro _ wr _ ⟨k, F1, A2, c2, l2, b2, AL, cL, xs, rows, rfl, hk, hxk, hRF, hFr, hl2, hstL, hp, rfl⟩ KL1 hKL1
 refine go ?_
 refine Ls_ rfl rfl (go ?_)
 refine Cd (fun hc1 => ?_) fun hc1 => ?_
 have hx9:=hML k (by omega) (by omega)
 refine go ?_
 refine Ld_ sc30 rfl (hp.slotAt (i := 1) hS rfl rfl).head ?_
 refine Ln_ underlying30 rfl ?_
 refine Eq_ rfl rfl ?_
 refine wl_re (k := 30) (v := .bool true) rfl (congrArg Value.bool (decide_eq_true (by omega))) (go ?_)
 refine wc_cond_t rfl (go ?_)
 refine wl_halloc (z := .agg #[iv 0, .int .u8 0, .int .u8 0, .int .u8 0, .int .u8 0, .int .u8 0, .int .u8 0, .int .u8 0, .int .u8 0, .int .u8 0, .int .u8 0, .int .u8 0, .int .u8 0, .int .u8 0, .int .u8 0, .int .u8 0, .int .u8 0, .int .u8 0, .int .u8 0, .int .u8 0, .int .u8 0, .int .u8 0, .int .u8 0, .int .u8 0, .int .u8 0, .int .u8 0, .int .u8 0, .int .u8 0, .int .u8 0, .int .u8 0, .int .u8 0, .int .u8 0, .int .u8 0]) (by decide) (by kernel_rfl) hp ?_
 rintro gs10 w2 hp2 hE2
 replace hFr:=hFr.ext hE2
 have q1:=hE2
 replace hp:=hp2
 replace hp:=hp.ay (itB gs10 95 ([iv mark0.seq] ++ (digC mark0.dig)) :: _)
 refine go ?_
 obtain ⟨KM, ⟨hRo, hRk⟩, hKF, hKlt, hpo, hup⟩ := hp.apart (i := 3) rfl
 apply wc_drawTM 7 6 KM [.eq _,.eq _,.eq _,.eq _,.eq _,SP.tmpR _ 95 33 1 ([Value.int .i64 0] ++ (digC dig0)),SP.turn KM _ 95 33 (xs.length + 1) (rows.flatten ++ ([Value.int .i64 0] ++ (digC dig0)))] (by kernel_rfl) (by kernel_rfl) ⟨.inr (fun _ _ _ _ h => h),.inr (fun _ _ _ _ h => h),.inr (fun _ _ _ _ h => h),.inr (fun _ _ _ _ h => h),.inr (fun _ _ _ _ h => h),.inr (SP.tmpR_st hKlt),.inl rfl,trivial⟩
 refine ⟨?_,?_,?_,?_,?_,?_,?_,trivial⟩<;>intro F wF hER hEE hk
 exact dm (hk.qi 1)
 exact dm (hk.qi 1)
 exact Nc_ (hk.qe 1) qz
 exact Ld_ sc30 (hk.qe 2) ((hpo _ hER).slotAt (i := 2) hS rfl rfl).head qz
 exact Hx_ ([iv mark0.seq] ++ (digC mark0.dig)) 0 ag95 (hk.qi 10) (hpo _ hER) rfl rfl rfl qz
 have e35:=hk.qe 4
 refine wl_bslice (size := 33) (xs := [.tmp 35]) (vs := [.agg ([Value.int .i64 0] ++ (digC dig0)).toArray]) (by decide) sl30 rfl (by simp only [evs, ev, e35]; first | done | rfl) rfl (by intro v hv; rw [List.mem_singleton.1 hv]; rfl) leB_ 0 (Nat.zero_le _) ?_
 rintro gt wt hgt hot hEt
 exact qz ⟨hEt, gt, rfl, by rw [hgt]; exact hER.size, hot⟩
 have hEx:=hEE rfl
 have e34:=hk.qe 3
 obtain ⟨u36, e36, h36⟩:=hk.qp 5
 obtain ⟨gt, rfl, hgt0, hot⟩ := h36
 refine wl_append (size := 33) (m := 1) (news := [Value.int .i64 0] ++ (digC dig0)) (by decide) sl30 e34 e36 (hRo.ext hEx) rfl (fun b hb => by cases hb; exact hot.at0) (by simp) (List.all_eq_true.1 rfl) (by omega) (Nat.zero_le _) ?_
 rintro A3 c3 w3 ho3 hch3 h43
 exact qz ⟨hch3.weak (fun b _ x => (hRk b).2 ⟨x.1, x.2.2⟩), A3, c3, rfl, ho3, fun b hb => (by
     rcases h43 with ⟨rfl, rfl⟩ | rfl
     · exact .inl ((hRk b).2 hb)
     · obtain ⟨_, a, ha, rfl⟩ := hb
       cases ha
       exact .inr hEx.size)⟩
 intro F wD hED hini hdo
 have e1:=di hini 1
 have e3:=di hini 3
 have e9:=di hini 9
 have e21:=di hini 21
 have e22:=di hini 22
 have e31:=dr hdo 0
 obtain ⟨u37, e37, h37⟩ := hdo 6 37 (Nat.lt_of_lt_of_eq (by decide) rfl) rfl
 obtain ⟨A3, c3, rfl, ho3, hK3⟩ := h37
 refine wl_drop [(1, _), (3, _), (9, _), (21, _), (22, _), (31, _), (37, _)] ⟨e1, e3, e9, e21, e22, e31, e37, trivial⟩ ?_
 clear e1 e3 e9 e21 e22 e31 e37 hini hdo
 replace hFr:=hFr.fz (hED.weak (fun b _ hb => hKF b hb))
 replace hl2:=(hl2.ext q1).fz (hED.weak (fun b _ hb => hKF b hb))
 replace hRF:=(hRF.ext q1).fz (hED.weak (fun b _ hb => hKF b hb))
 replace hp:=hup _ (itR 95 33 A3 (xs.length + 1) c3 (rows.flatten ++ ([Value.int .i64 0] ++ (digC dig0)))) (fun b => c3 ≠ 0 ∧ blk A3 b) hED ⟨ho3, fun _ => Iff.rfl⟩ hK3
 refine go ?_
 refine wl_sstore1 0 (i := 2) hS (by rw [add_zero']; rfl) rfl hp rfl rfl sz30 (by decide) rfl ?_
 rintro w3 hp3 hC3
 replace hFr:=hFr.fz hC3
 have q2:=hl2.tk.fz hC3
 replace hp:=hp3
 refine go ?_
 refine Ld_ sc30 rfl (hp.slotAt (i := 2) hS rfl rfl).head (go ?_)
 have hOR:=hp.rowAt (i := 3) rfl
 obtain ⟨g7, rfl⟩ : ∃ g, A3 = some ⟨g, 0, none⟩ := by
   obtain ⟨g, hg, _⟩ := hOR.el 0 (by omega)
   exact ⟨g, hg⟩
 have hfl:=(hRF.fr q2).flen
 refine wl_idx0 (size := 33) (by decide) sl30 rfl rfl rfl k rfl (by omega) ?_
 rw [show (⟨g7, 0, none⟩ : Addr).add (k * 33) = ⟨g7, rows.flatten.length, none⟩ by rw [add_lit', hfl, hxk, Nat.zero_add]; rfl]
 have hpc:=((((hp.tail.up 1 rfl).up 2 rfl).up 2 rfl).as_ (H' := itB gr 103 [.slice A2 l2.length c2, .bool b2] :: itR 95 33 (some ⟨g7, 0, none⟩) (xs.length + 1) c3 (rows.flatten ++ (([Value.int .i64 0] ++ (digC dig0)) ++ [])) :: X ([.slice (some ⟨g7, 0, none⟩) (xs.length + 1) c3]) :: H) rfl)
 have hcl:=hE _ _ _ (fun cs => itR 95 33 (some ⟨g7, 0, none⟩) (xs.length + 1) c3 (rows.flatten ++ (cs ++ []))) ⟨g7, rows.flatten.length, none⟩ _ _ _ _ hFr hpc (Slot.row rows.flatten [] (by decide)) (hl2.fr q2)
 refine wl_callF (vs := [.pointer (some ⟨g7, rows.flatten.length, none⟩)]) (by decide) rfl rfl (fun _ h => by cases h) hcl ?_
 clear hcl
 rintro _ w9 ⟨F9, A9, c9, l9, b9, cs9, x9, hp9, hF9, hl9, hrd9, hst9⟩
 replace hFr:=hFr.fr hF9
 replace q2:=q2.fr hF9
 replace hp:=hp9
 have hp:=hp.ay (_ :: _ :: _ :: _)
 have hp:=(hp.up 2 rfl).as_ (H' := _ :: _ :: _ :: _) rfl
 have hp:=(hp.up 1 rfl).as_ (H' := _ :: _ :: _ :: _) rfl
 refine go ?_
 refine wl_add (by decide) rfl rfl (w64 (by omega) (by omega)) (gl ?_)
 refine wk_drop [(1, .pointer (some pX)), (3, FV), (21, iv x1), (22, iv ((k + 1) : Int))] ⟨rfl, rfl, rfl, rfl, trivial⟩ (hKL1 _ _ (m2 := x1.toNat - (k + 1)) ?_ ?_)
 refine ⟨(k + 1), F9, A9, c9, l9, b9, (some ⟨g7, 0, none⟩), c3, (xs ++ [x9]), (rows ++ [cs9]), rfl, ?_, ?_, ?_, ?_, ?_, ?_, ?_, rfl⟩
 omega
 rw [List.length_append, hxk]; rfl
 exact ((hRF.fr q2).append (RF.one hrd9))
 exact hFr
 exact hl9
 exact StepP.snoc hstL hst9
 rw [flat_snoc, List.length_append]; exact hp
 omega
 refine go ?_
 refine wk_post0 (.inr rfl) results95  ?_
 obtain ⟨F8, hp8, hs8, hb8⟩ := ((hp.up 2 rfl).as_ (H' := _ :: _ :: _ :: _) rfl).frzRow
 have hgs:=OwnRow.gsRF (r := markR) (hp.rowAt (i := 2) rfl) (hRF.wid hs8) hb8
 exact ⟨_, rfl, F8, A2, c2, l2, b2, _, xs, hp8, hFr.wid hs8, hl2.wid hs8, sliceR_mk hgs, StepP.bind hst1 (by rw [show x1.toNat = k by omega]; exact hstL)⟩
set_option maxHeartbeats 40000000 in
theorem rListS_ok {gr : Nat} {l : List UInt8} {bad : Bool} {X : List Value → It} {pX : Addr} {most : Int} {p : PR Stn} {FV : Value} (hp : HP w0 M0 Fz w (itB gr 103 [.slice A l.length c, .bool bad] :: X ([.slice none 0 0]) :: H)) (hS : Slot X pX 1) (hl : GS byteR Fz w A c l) (hE : EachR prog 103 gr w0 M0 Fz w standR ([Value.int .i64 0] ++ (digC dig0 ++ ([Value.int .i64 0]))) p FV) (hm : most ≤ 100) : Ret prog 97 #[.iface 101 (.pointer (some ⟨gr, 0, none⟩)), .pointer (some pX), .int .i64 most, FV] w (RdP 103 gr w0 M0 Fz w H X (sliceR standR) (listP p most) bad l) := by
 have hFr:=Frz.start Fz w
 refine ret_of_wk func97 rfl ntmps97 leB_ ?_
 refine go ?_
 apply wdT 9 [.eq _,.eq _,.eq _,.eq _,.eq _,.eq _,.eq _,.eq _,.eq _]
 refine ⟨?_,?_,?_,?_,?_,?_,?_,?_,?_,trivial⟩<;>intro F wF hER hk
 exact dm (hk.qi 0)
 exact dm (hk.qi 1)
 exact Nc_ (hk.qe 1) qz
 exact Ld_ sc31 (hk.qe 2) ((hp.ext hER).slotAt (i := 1) hS rfl rfl).head qz
 exact Ln_ underlying31 (hk.qe 3) qz
 exact dm (hk.qi 2)
 have e11:=hk.qe 0
 exact wl_makeFunc (first := [.tmp 11]) (cap := []) (by decide) (by simp only [evs, ev, e11]; rfl) rfl qz
 exact wl_nilCheckM (t := 101) (by decide) mt187 (hk.qe 6) qz
 exact dm (hk.qe 0)
 intro F wD hED hini hdo
 refine wl_drop [(1, _), (3, _), (15, _), (16, _), (19, _)] ⟨di hini 1, di hini 3, dr hdo 4, dr hdo 5, dr hdo 8, trivial⟩ ?_
 clear hini hdo
 replace hFr:=hFr.ext hED
 have q0:=hED
 replace hp:=hp.ext hED
 have hcl:=nMany_ok (m0 := 0) (most := most) hp (hl.ext q0)
 refine wl_invoke (t := 101) (name := "bastide/note.many") (f := 187) (by decide) mt187 rfl rfl hcl ?_
 clear hcl
 rintro _ w1 ⟨F1, A1, c1, l1, b1, x1, rfl, hp1, hF1, hl1, hst1, hz1⟩
 replace hFr:=hFr.fr hF1
 replace hp:=hp1
 have hML : ∀ q : Int, 0 ≤ q → q < x1 → x1 ≤ most := by
   intro q h0 h1
   cases hq : b1 with
   | false => exact (many_lim hst1 hq).2
   | true => have := hz1 hq; omega
 refine go ?_
 refine wc_loop (fun L' w' mes => ∃ (k : Nat), ∃ (F1 : Nat → Prop), ∃ (A2 : Option Addr), ∃ (c2 : Nat), ∃ (l2 : List UInt8), ∃ (b2 : Bool), ∃ (AL : Option Addr), ∃ (cL : Nat), ∃ (xs : List Stn), ∃ (rows : List (List Value)), L' = [(1, .pointer (some pX)), (3, FV), (21, iv x1), (22, iv (k : Int))] ∧ (k ≤ x1.toNat) ∧ (xs.length = k) ∧ (RF standR F1 w' rows xs) ∧ (Frz Fz F1 w w') ∧ (GS byteR F1 w' A2 c2 l2) ∧ (StepP (repP p k) (rst b1 l1) (rst b2 l2) xs) ∧ (HP w0 M0 F1 w' (itB gr 103 [.slice A2 l2.length c2, .bool b2] :: X ([.slice AL xs.length cL]) :: itR 97 34 AL xs.length cL rows.flatten :: H)) ∧ x1.toNat - k = mes) [(1, .pointer (some pX)), (3, FV), (21, iv x1), (22, iv (0 : Int))] (x1.toNat - 0) (by
     refine ⟨0, F1, A1, c1, l1, b1, none, 0, [], [], rfl, ?_, ?_, ?_, ?_, ?_, ?_, ?_, rfl⟩
     · exact Nat.zero_le _
     · rfl
     · exact RF.nil _ _ _
     · exact hFr
     · exact hl1
     · exact StepP.pure _ _
     · exact ((hp.noRow 97 34).as_ (H' := _ :: _ :: _ :: _) rfl).rot3) ⟨rfl, rfl, rfl, rfl, trivial⟩ ?_
 rintro _ wr _ ⟨k, F1, A2, c2, l2, b2, AL, cL, xs, rows, rfl, hk, hxk, hRF, hFr, hl2, hstL, hp, rfl⟩ KL1 hKL1
 refine go ?_
 refine Ls_ rfl rfl (go ?_)
 refine Cd (fun hc1 => ?_) fun hc1 => ?_
 have hx9:=hML k (by omega) (by omega)
 refine go ?_
 refine Ld_ sc31 rfl (hp.slotAt (i := 1) hS rfl rfl).head ?_
 refine Ln_ underlying31 rfl ?_
 refine Eq_ rfl rfl ?_
 refine wl_re (k := 30) (v := .bool true) rfl (congrArg Value.bool (decide_eq_true (by omega))) (go ?_)
 refine wc_cond_t rfl (go ?_)
 refine wl_halloc (z := .agg #[iv 0, .int .u8 0, .int .u8 0, .int .u8 0, .int .u8 0, .int .u8 0, .int .u8 0, .int .u8 0, .int .u8 0, .int .u8 0, .int .u8 0, .int .u8 0, .int .u8 0, .int .u8 0, .int .u8 0, .int .u8 0, .int .u8 0, .int .u8 0, .int .u8 0, .int .u8 0, .int .u8 0, .int .u8 0, .int .u8 0, .int .u8 0, .int .u8 0, .int .u8 0, .int .u8 0, .int .u8 0, .int .u8 0, .int .u8 0, .int .u8 0, .int .u8 0, .int .u8 0, iv 0]) (by decide) (by kernel_rfl) hp ?_
 rintro gs10 w2 hp2 hE2
 replace hFr:=hFr.ext hE2
 have q1:=hE2
 replace hp:=hp2
 replace hp:=hp.ay (itB gs10 97 ([iv stand0.seq] ++ (digC stand0.dig ++ ([iv stand0.view]))) :: _)
 refine go ?_
 obtain ⟨KM, ⟨hRo, hRk⟩, hKF, hKlt, hpo, hup⟩ := hp.apart (i := 3) rfl
 apply wc_drawTM 7 6 KM [.eq _,.eq _,.eq _,.eq _,.eq _,SP.tmpR _ 97 34 1 ([Value.int .i64 0] ++ (digC dig0 ++ ([Value.int .i64 0]))),SP.turn KM _ 97 34 (xs.length + 1) (rows.flatten ++ ([Value.int .i64 0] ++ (digC dig0 ++ ([Value.int .i64 0]))))] (by kernel_rfl) (by kernel_rfl) ⟨.inr (fun _ _ _ _ h => h),.inr (fun _ _ _ _ h => h),.inr (fun _ _ _ _ h => h),.inr (fun _ _ _ _ h => h),.inr (fun _ _ _ _ h => h),.inr (SP.tmpR_st hKlt),.inl rfl,trivial⟩
 refine ⟨?_,?_,?_,?_,?_,?_,?_,trivial⟩<;>intro F wF hER hEE hk
 exact dm (hk.qi 1)
 exact dm (hk.qi 1)
 exact Nc_ (hk.qe 1) qz
 exact Ld_ sc31 (hk.qe 2) ((hpo _ hER).slotAt (i := 2) hS rfl rfl).head qz
 exact Hx_ ([iv stand0.seq] ++ (digC stand0.dig ++ ([iv stand0.view]))) 0 ag97 (hk.qi 10) (hpo _ hER) rfl rfl rfl qz
 have e35:=hk.qe 4
 refine wl_bslice (size := 34) (xs := [.tmp 35]) (vs := [.agg ([Value.int .i64 0] ++ (digC dig0 ++ ([Value.int .i64 0]))).toArray]) (by decide) sl31 rfl (by simp only [evs, ev, e35]; first | done | rfl) rfl (by intro v hv; rw [List.mem_singleton.1 hv]; rfl) leB_ 0 (Nat.zero_le _) ?_
 rintro gt wt hgt hot hEt
 exact qz ⟨hEt, gt, rfl, by rw [hgt]; exact hER.size, hot⟩
 have hEx:=hEE rfl
 have e34:=hk.qe 3
 obtain ⟨u36, e36, h36⟩:=hk.qp 5
 obtain ⟨gt, rfl, hgt0, hot⟩ := h36
 refine wl_append (size := 34) (m := 1) (news := [Value.int .i64 0] ++ (digC dig0 ++ ([Value.int .i64 0]))) (by decide) sl31 e34 e36 (hRo.ext hEx) rfl (fun b hb => by cases hb; exact hot.at0) (by simp) (List.all_eq_true.1 rfl) (by omega) (Nat.zero_le _) ?_
 rintro A3 c3 w3 ho3 hch3 h43
 exact qz ⟨hch3.weak (fun b _ x => (hRk b).2 ⟨x.1, x.2.2⟩), A3, c3, rfl, ho3, fun b hb => (by
     rcases h43 with ⟨rfl, rfl⟩ | rfl
     · exact .inl ((hRk b).2 hb)
     · obtain ⟨_, a, ha, rfl⟩ := hb
       cases ha
       exact .inr hEx.size)⟩
 intro F wD hED hini hdo
 have e1:=di hini 1
 have e3:=di hini 3
 have e9:=di hini 9
 have e21:=di hini 21
 have e22:=di hini 22
 have e31:=dr hdo 0
 obtain ⟨u37, e37, h37⟩ := hdo 6 37 (Nat.lt_of_lt_of_eq (by decide) rfl) rfl
 obtain ⟨A3, c3, rfl, ho3, hK3⟩ := h37
 refine wl_drop [(1, _), (3, _), (9, _), (21, _), (22, _), (31, _), (37, _)] ⟨e1, e3, e9, e21, e22, e31, e37, trivial⟩ ?_
 clear e1 e3 e9 e21 e22 e31 e37 hini hdo
 replace hFr:=hFr.fz (hED.weak (fun b _ hb => hKF b hb))
 replace hl2:=(hl2.ext q1).fz (hED.weak (fun b _ hb => hKF b hb))
 replace hRF:=(hRF.ext q1).fz (hED.weak (fun b _ hb => hKF b hb))
 replace hp:=hup _ (itR 97 34 A3 (xs.length + 1) c3 (rows.flatten ++ ([Value.int .i64 0] ++ (digC dig0 ++ ([Value.int .i64 0]))))) (fun b => c3 ≠ 0 ∧ blk A3 b) hED ⟨ho3, fun _ => Iff.rfl⟩ hK3
 refine go ?_
 refine wl_sstore1 0 (i := 2) hS (by rw [add_zero']; rfl) rfl hp rfl rfl sz31 (by decide) rfl ?_
 rintro w3 hp3 hC3
 replace hFr:=hFr.fz hC3
 have q2:=hl2.tk.fz hC3
 replace hp:=hp3
 refine go ?_
 refine Ld_ sc31 rfl (hp.slotAt (i := 2) hS rfl rfl).head (go ?_)
 have hOR:=hp.rowAt (i := 3) rfl
 obtain ⟨g7, rfl⟩ : ∃ g, A3 = some ⟨g, 0, none⟩ := by
   obtain ⟨g, hg, _⟩ := hOR.el 0 (by omega)
   exact ⟨g, hg⟩
 have hfl:=(hRF.fr q2).flen
 refine wl_idx0 (size := 34) (by decide) sl31 rfl rfl rfl k rfl (by omega) ?_
 rw [show (⟨g7, 0, none⟩ : Addr).add (k * 34) = ⟨g7, rows.flatten.length, none⟩ by rw [add_lit', hfl, hxk, Nat.zero_add]; rfl]
 have hpc:=((((hp.tail.up 1 rfl).up 2 rfl).up 2 rfl).as_ (H' := itB gr 103 [.slice A2 l2.length c2, .bool b2] :: itR 97 34 (some ⟨g7, 0, none⟩) (xs.length + 1) c3 (rows.flatten ++ (([Value.int .i64 0] ++ (digC dig0 ++ ([Value.int .i64 0]))) ++ [])) :: X ([.slice (some ⟨g7, 0, none⟩) (xs.length + 1) c3]) :: H) rfl)
 have hcl:=hE _ _ _ (fun cs => itR 97 34 (some ⟨g7, 0, none⟩) (xs.length + 1) c3 (rows.flatten ++ (cs ++ []))) ⟨g7, rows.flatten.length, none⟩ _ _ _ _ hFr hpc (Slot.row rows.flatten [] (by decide)) (hl2.fr q2)
 refine wl_callF (vs := [.pointer (some ⟨g7, rows.flatten.length, none⟩)]) (by decide) rfl rfl (fun _ h => by cases h) hcl ?_
 clear hcl
 rintro _ w9 ⟨F9, A9, c9, l9, b9, cs9, x9, hp9, hF9, hl9, hrd9, hst9⟩
 replace hFr:=hFr.fr hF9
 replace q2:=q2.fr hF9
 replace hp:=hp9
 have hp:=hp.ay (_ :: _ :: _ :: _)
 have hp:=(hp.up 2 rfl).as_ (H' := _ :: _ :: _ :: _) rfl
 have hp:=(hp.up 1 rfl).as_ (H' := _ :: _ :: _ :: _) rfl
 refine go ?_
 refine wl_add (by decide) rfl rfl (w64 (by omega) (by omega)) (gl ?_)
 refine wk_drop [(1, .pointer (some pX)), (3, FV), (21, iv x1), (22, iv ((k + 1) : Int))] ⟨rfl, rfl, rfl, rfl, trivial⟩ (hKL1 _ _ (m2 := x1.toNat - (k + 1)) ?_ ?_)
 refine ⟨(k + 1), F9, A9, c9, l9, b9, (some ⟨g7, 0, none⟩), c3, (xs ++ [x9]), (rows ++ [cs9]), rfl, ?_, ?_, ?_, ?_, ?_, ?_, ?_, rfl⟩
 omega
 rw [List.length_append, hxk]; rfl
 exact ((hRF.fr q2).append (RF.one hrd9))
 exact hFr
 exact hl9
 exact StepP.snoc hstL hst9
 rw [flat_snoc, List.length_append]; exact hp
 omega
 refine go ?_
 refine wk_post0 (.inr rfl) results97  ?_
 obtain ⟨F8, hp8, hs8, hb8⟩ := ((hp.up 2 rfl).as_ (H' := _ :: _ :: _ :: _) rfl).frzRow
 have hgs:=OwnRow.gsRF (r := standR) (hp.rowAt (i := 2) rfl) (hRF.wid hs8) hb8
 exact ⟨_, rfl, F8, A2, c2, l2, b2, _, xs, hp8, hFr.wid hs8, hl2.wid hs8, sliceR_mk hgs, StepP.bind hst1 (by rw [show x1.toNat = k by omega]; exact hstL)⟩
set_option maxHeartbeats 40000000 in
theorem rListI_ok {gr : Nat} {l : List UInt8} {bad : Bool} {X : List Value → It} {pX : Addr} {most : Int} {p : PR Int} {FV : Value} (hp : HP w0 M0 Fz w (itB gr 103 [.slice A l.length c, .bool bad] :: X ([.slice none 0 0]) :: H)) (hS : Slot X pX 1) (hl : GS byteR Fz w A c l) (hE : EachR prog 103 gr w0 M0 Fz w i64R ([Value.int .i64 0]) p FV) (hm : most ≤ 100) : Ret prog 114 #[.iface 101 (.pointer (some ⟨gr, 0, none⟩)), .pointer (some pX), .int .i64 most, FV] w (RdP 103 gr w0 M0 Fz w H X (sliceR i64R) (listP p most) bad l) := by
 have hFr:=Frz.start Fz w
 refine ret_of_wk func114 rfl ntmps114 leB_ ?_
 refine go ?_
 apply wdT 9 [.eq _,.eq _,.eq _,.eq _,.eq _,.eq _,.eq _,.eq _,.eq _]
 refine ⟨?_,?_,?_,?_,?_,?_,?_,?_,?_,trivial⟩<;>intro F wF hER hk
 exact dm (hk.qi 0)
 exact dm (hk.qi 1)
 exact Nc_ (hk.qe 1) qz
 exact Ld_ sc27 (hk.qe 2) ((hp.ext hER).slotAt (i := 1) hS rfl rfl).head qz
 exact Ln_ underlying27 (hk.qe 3) qz
 exact dm (hk.qi 2)
 have e11:=hk.qe 0
 exact wl_makeFunc (first := [.tmp 11]) (cap := []) (by decide) (by simp only [evs, ev, e11]; rfl) rfl qz
 exact wl_nilCheckM (t := 101) (by decide) mt187 (hk.qe 6) qz
 exact dm (hk.qe 0)
 intro F wD hED hini hdo
 refine wl_drop [(1, _), (3, _), (15, _), (16, _), (19, _)] ⟨di hini 1, di hini 3, dr hdo 4, dr hdo 5, dr hdo 8, trivial⟩ ?_
 clear hini hdo
 replace hFr:=hFr.ext hED
 have q0:=hED
 replace hp:=hp.ext hED
 have hcl:=nMany_ok (m0 := 0) (most := most) hp (hl.ext q0)
 refine wl_invoke (t := 101) (name := "bastide/note.many") (f := 187) (by decide) mt187 rfl rfl hcl ?_
 clear hcl
 rintro _ w1 ⟨F1, A1, c1, l1, b1, x1, rfl, hp1, hF1, hl1, hst1, hz1⟩
 replace hFr:=hFr.fr hF1
 replace hp:=hp1
 have hML : ∀ q : Int, 0 ≤ q → q < x1 → x1 ≤ most := by
   intro q h0 h1
   cases hq : b1 with
   | false => exact (many_lim hst1 hq).2
   | true => have := hz1 hq; omega
 refine go ?_
 refine wc_loop (fun L' w' mes => ∃ (k : Nat), ∃ (F1 : Nat → Prop), ∃ (A2 : Option Addr), ∃ (c2 : Nat), ∃ (l2 : List UInt8), ∃ (b2 : Bool), ∃ (AL : Option Addr), ∃ (cL : Nat), ∃ (xs : List Int), ∃ (rows : List (List Value)), L' = [(1, .pointer (some pX)), (3, FV), (21, iv x1), (22, iv (k : Int))] ∧ (k ≤ x1.toNat) ∧ (xs.length = k) ∧ (RF i64R F1 w' rows xs) ∧ (Frz Fz F1 w w') ∧ (GS byteR F1 w' A2 c2 l2) ∧ (StepP (repP p k) (rst b1 l1) (rst b2 l2) xs) ∧ (HP w0 M0 F1 w' (itB gr 103 [.slice A2 l2.length c2, .bool b2] :: X ([.slice AL xs.length cL]) :: itR 3 1 AL xs.length cL rows.flatten :: H)) ∧ x1.toNat - k = mes) [(1, .pointer (some pX)), (3, FV), (21, iv x1), (22, iv (0 : Int))] (x1.toNat - 0) (by
     refine ⟨0, F1, A1, c1, l1, b1, none, 0, [], [], rfl, ?_, ?_, ?_, ?_, ?_, ?_, ?_, rfl⟩
     · exact Nat.zero_le _
     · rfl
     · exact RF.nil _ _ _
     · exact hFr
     · exact hl1
     · exact StepP.pure _ _
     · exact ((hp.noRow 3 1).as_ (H' := _ :: _ :: _ :: _) rfl).rot3) ⟨rfl, rfl, rfl, rfl, trivial⟩ ?_
 rintro _ wr _ ⟨k, F1, A2, c2, l2, b2, AL, cL, xs, rows, rfl, hk, hxk, hRF, hFr, hl2, hstL, hp, rfl⟩ KL1 hKL1
 refine go ?_
 refine Ls_ rfl rfl (go ?_)
 refine Cd (fun hc1 => ?_) fun hc1 => ?_
 have hx9:=hML k (by omega) (by omega)
 refine go ?_
 refine Ld_ sc27 rfl (hp.slotAt (i := 1) hS rfl rfl).head ?_
 refine Ln_ underlying27 rfl ?_
 refine Eq_ rfl rfl ?_
 refine wl_re (k := 30) (v := .bool true) rfl (congrArg Value.bool (decide_eq_true (by omega))) (go ?_)
 refine wc_cond_t rfl (go ?_)
 refine Ld_ sc27 rfl (hp.slotAt (i := 1) hS rfl rfl).head (go ?_)
 refine wl_bsliceE (enc := fun z : Int => iv z) (xs := [.tmp 35]) (bs := [0]) (fun _ => rfl) (by decide) sl27 rfl rfl rfl (by simp) _ (Nat.le_refl _) ?_
 rintro gt wt hgt hot hEt
 replace hFr:=hFr.ext hEt
 have q1:=hEt
 replace hp:=hp.ext hEt
 refine wl_happend (i := 2) (m := 1) (news := [iv 0]) (by decide) sl27 rfl rfl hp rfl rfl (fun b hb => by cases hb; exact hot.at0) (by simp) (by simp [Value.oneCell']) (by omega) ?_
 rintro A3 c3 w3 hp3 hC3
 replace hFr:=hFr.fz hC3
 have q2:=hl2.tk.ext q1
 replace q2:=q2.fz hC3
 replace hp:=hp3
 refine go ?_
 refine wl_sstore1 0 (i := 1) hS (by rw [add_zero']; rfl) rfl hp rfl rfl sz27 (by decide) rfl ?_
 rintro w2 hp2 hC2
 replace hFr:=hFr.fz hC2
 replace q2:=q2.fz hC2
 replace hp:=hp2
 replace hp:=hp.ay (_ :: X ([.slice A3 (xs.length + 1) c3]) :: _)
 refine go ?_
 refine Ld_ sc27 rfl (hp.slotAt (i := 1) hS rfl rfl).head (go ?_)
 have hOR:=hp.rowAt (i := 2) rfl
 obtain ⟨g7, rfl⟩ : ∃ g, A3 = some ⟨g, 0, none⟩ := by
   obtain ⟨g, hg, _⟩ := hOR.el 0 (by omega)
   exact ⟨g, hg⟩
 have hfl:=(hRF.fr q2).flen
 refine wl_idx0 (size := 1) (by decide) sl27 rfl rfl rfl k rfl (by omega) ?_
 rw [show (⟨g7, 0, none⟩ : Addr).add (k * 1) = ⟨g7, rows.flatten.length, none⟩ by rw [add_lit', hfl, hxk, Nat.zero_add]; rfl]
 have hpc:=((((hp.up 1 rfl).up 2 rfl).up 2 rfl).as_ (H' := itB gr 103 [.slice A2 l2.length c2, .bool b2] :: itR 3 1 (some ⟨g7, 0, none⟩) (xs.length + 1) c3 (rows.flatten ++ (([Value.int .i64 0]) ++ [])) :: X ([.slice (some ⟨g7, 0, none⟩) (xs.length + 1) c3]) :: H) rfl)
 have hcl:=hE _ _ _ (fun cs => itR 3 1 (some ⟨g7, 0, none⟩) (xs.length + 1) c3 (rows.flatten ++ (cs ++ []))) ⟨g7, rows.flatten.length, none⟩ _ _ _ _ hFr hpc (Slot.row rows.flatten [] (by decide)) (hl2.fr q2)
 refine wl_callF (vs := [.pointer (some ⟨g7, rows.flatten.length, none⟩)]) (by decide) rfl rfl (fun _ h => by cases h) hcl ?_
 clear hcl
 rintro _ w9 ⟨F9, A9, c9, l9, b9, cs9, x9, hp9, hF9, hl9, hrd9, hst9⟩
 replace hFr:=hFr.fr hF9
 replace q2:=q2.fr hF9
 replace hp:=hp9
 have hp:=hp.ay (_ :: _ :: _ :: _)
 have hp:=(hp.up 2 rfl).as_ (H' := _ :: _ :: _ :: _) rfl
 have hp:=(hp.up 1 rfl).as_ (H' := _ :: _ :: _ :: _) rfl
 refine go ?_
 refine wl_add (by decide) rfl rfl (w64 (by omega) (by omega)) (gl ?_)
 refine wk_drop [(1, .pointer (some pX)), (3, FV), (21, iv x1), (22, iv ((k + 1) : Int))] ⟨rfl, rfl, rfl, rfl, trivial⟩ (hKL1 _ _ (m2 := x1.toNat - (k + 1)) ?_ ?_)
 refine ⟨(k + 1), F9, A9, c9, l9, b9, (some ⟨g7, 0, none⟩), c3, (xs ++ [x9]), (rows ++ [cs9]), rfl, ?_, ?_, ?_, ?_, ?_, ?_, ?_, rfl⟩
 omega
 rw [List.length_append, hxk]; rfl
 exact ((hRF.fr q2).append (RF.one hrd9))
 exact hFr
 exact hl9
 exact StepP.snoc hstL hst9
 rw [flat_snoc, List.length_append]; exact hp
 omega
 refine go ?_
 refine wk_post0 (.inr rfl) results114  ?_
 obtain ⟨F8, hp8, hs8, hb8⟩ := ((hp.up 2 rfl).as_ (H' := _ :: _ :: _ :: _) rfl).frzRow
 have hgs:=OwnRow.gsRF (r := i64R) (hp.rowAt (i := 2) rfl) (hRF.wid hs8) hb8
 exact ⟨_, rfl, F8, A2, c2, l2, b2, _, xs, hp8, hFr.wid hs8, hl2.wid hs8, sliceR_mk hgs, StepP.bind hst1 (by rw [show x1.toNat = k by omega]; exact hstL)⟩
set_option maxHeartbeats 40000000 in
theorem rListD_ok {gr : Nat} {l : List UInt8} {bad : Bool} {X : List Value → It} {pX : Addr} {most : Int} {p : PR Dig} {FV : Value} (hp : HP w0 M0 Fz w (itB gr 103 [.slice A l.length c, .bool bad] :: X ([.slice none 0 0]) :: H)) (hS : Slot X pX 1) (hl : GS byteR Fz w A c l) (hE : EachR prog 103 gr w0 M0 Fz w digR (digC dig0) p FV) (hm : most ≤ 100) : Ret prog 113 #[.iface 101 (.pointer (some ⟨gr, 0, none⟩)), .pointer (some pX), .int .i64 most, FV] w (RdP 103 gr w0 M0 Fz w H X (sliceR digR) (listP p most) bad l) := by
 have hFr:=Frz.start Fz w
 refine ret_of_wk func113 rfl ntmps113 leB_ ?_
 refine go ?_
 apply wdT 9 [.eq _,.eq _,.eq _,.eq _,.eq _,.eq _,.eq _,.eq _,.eq _]
 refine ⟨?_,?_,?_,?_,?_,?_,?_,?_,?_,trivial⟩<;>intro F wF hER hk
 exact dm (hk.qi 0)
 exact dm (hk.qi 1)
 exact Nc_ (hk.qe 1) qz
 exact Ld_ sc36 (hk.qe 2) ((hp.ext hER).slotAt (i := 1) hS rfl rfl).head qz
 exact Ln_ underlying36 (hk.qe 3) qz
 exact dm (hk.qi 2)
 have e11:=hk.qe 0
 exact wl_makeFunc (first := [.tmp 11]) (cap := []) (by decide) (by simp only [evs, ev, e11]; rfl) rfl qz
 exact wl_nilCheckM (t := 101) (by decide) mt187 (hk.qe 6) qz
 exact dm (hk.qe 0)
 intro F wD hED hini hdo
 refine wl_drop [(1, _), (3, _), (15, _), (16, _), (19, _)] ⟨di hini 1, di hini 3, dr hdo 4, dr hdo 5, dr hdo 8, trivial⟩ ?_
 clear hini hdo
 replace hFr:=hFr.ext hED
 have q0:=hED
 replace hp:=hp.ext hED
 have hcl:=nMany_ok (m0 := 0) (most := most) hp (hl.ext q0)
 refine wl_invoke (t := 101) (name := "bastide/note.many") (f := 187) (by decide) mt187 rfl rfl hcl ?_
 clear hcl
 rintro _ w1 ⟨F1, A1, c1, l1, b1, x1, rfl, hp1, hF1, hl1, hst1, hz1⟩
 replace hFr:=hFr.fr hF1
 replace hp:=hp1
 have hML : ∀ q : Int, 0 ≤ q → q < x1 → x1 ≤ most := by
   intro q h0 h1
   cases hq : b1 with
   | false => exact (many_lim hst1 hq).2
   | true => have := hz1 hq; omega
 refine go ?_
 refine wc_loop (fun L' w' mes => ∃ (k : Nat), ∃ (F1 : Nat → Prop), ∃ (A2 : Option Addr), ∃ (c2 : Nat), ∃ (l2 : List UInt8), ∃ (b2 : Bool), ∃ (AL : Option Addr), ∃ (cL : Nat), ∃ (xs : List Dig), ∃ (rows : List (List Value)), L' = [(1, .pointer (some pX)), (3, FV), (21, iv x1), (22, iv (k : Int))] ∧ (k ≤ x1.toNat) ∧ (xs.length = k) ∧ (RF digR F1 w' rows xs) ∧ (Frz Fz F1 w w') ∧ (GS byteR F1 w' A2 c2 l2) ∧ (StepP (repP p k) (rst b1 l1) (rst b2 l2) xs) ∧ (HP w0 M0 F1 w' (itB gr 103 [.slice A2 l2.length c2, .bool b2] :: X ([.slice AL xs.length cL]) :: itR 23 32 AL xs.length cL rows.flatten :: H)) ∧ x1.toNat - k = mes) [(1, .pointer (some pX)), (3, FV), (21, iv x1), (22, iv (0 : Int))] (x1.toNat - 0) (by
     refine ⟨0, F1, A1, c1, l1, b1, none, 0, [], [], rfl, ?_, ?_, ?_, ?_, ?_, ?_, ?_, rfl⟩
     · exact Nat.zero_le _
     · rfl
     · exact RF.nil _ _ _
     · exact hFr
     · exact hl1
     · exact StepP.pure _ _
     · exact ((hp.noRow 23 32).as_ (H' := _ :: _ :: _ :: _) rfl).rot3) ⟨rfl, rfl, rfl, rfl, trivial⟩ ?_
 rintro _ wr _ ⟨k, F1, A2, c2, l2, b2, AL, cL, xs, rows, rfl, hk, hxk, hRF, hFr, hl2, hstL, hp, rfl⟩ KL1 hKL1
 refine go ?_
 refine Ls_ rfl rfl (go ?_)
 refine Cd (fun hc1 => ?_) fun hc1 => ?_
 have hx9:=hML k (by omega) (by omega)
 refine go ?_
 refine Ld_ sc36 rfl (hp.slotAt (i := 1) hS rfl rfl).head ?_
 refine Ln_ underlying36 rfl ?_
 refine Eq_ rfl rfl ?_
 refine wl_re (k := 30) (v := .bool true) rfl (congrArg Value.bool (decide_eq_true (by omega))) (go ?_)
 refine wc_cond_t rfl (go ?_)
 refine wl_halloc (z := .agg #[.int .u8 0, .int .u8 0, .int .u8 0, .int .u8 0, .int .u8 0, .int .u8 0, .int .u8 0, .int .u8 0, .int .u8 0, .int .u8 0, .int .u8 0, .int .u8 0, .int .u8 0, .int .u8 0, .int .u8 0, .int .u8 0, .int .u8 0, .int .u8 0, .int .u8 0, .int .u8 0, .int .u8 0, .int .u8 0, .int .u8 0, .int .u8 0, .int .u8 0, .int .u8 0, .int .u8 0, .int .u8 0, .int .u8 0, .int .u8 0, .int .u8 0, .int .u8 0]) (by decide) (by kernel_rfl) hp ?_
 rintro gs10 w2 hp2 hE2
 replace hFr:=hFr.ext hE2
 have q1:=hE2
 replace hp:=hp2
 replace hp:=hp.ay (itB gs10 23 (digC dig0) :: _)
 refine go ?_
 obtain ⟨KM, ⟨hRo, hRk⟩, hKF, hKlt, hpo, hup⟩ := hp.apart (i := 3) rfl
 apply wc_drawTM 7 6 KM [.eq _,.eq _,.eq _,.eq _,.eq _,SP.tmpR _ 23 32 1 (digC dig0),SP.turn KM _ 23 32 (xs.length + 1) (rows.flatten ++ (digC dig0))] (by kernel_rfl) (by kernel_rfl) ⟨.inr (fun _ _ _ _ h => h),.inr (fun _ _ _ _ h => h),.inr (fun _ _ _ _ h => h),.inr (fun _ _ _ _ h => h),.inr (fun _ _ _ _ h => h),.inr (SP.tmpR_st hKlt),.inl rfl,trivial⟩
 refine ⟨?_,?_,?_,?_,?_,?_,?_,trivial⟩<;>intro F wF hER hEE hk
 exact dm (hk.qi 1)
 exact dm (hk.qi 1)
 exact Nc_ (hk.qe 1) qz
 exact Ld_ sc36 (hk.qe 2) ((hpo _ hER).slotAt (i := 2) hS rfl rfl).head qz
 exact Hx_ (digC dig0) 0 ag23 (hk.qi 10) (hpo _ hER) rfl rfl rfl qz
 have e35:=hk.qe 4
 refine wl_bslice (size := 32) (xs := [.tmp 35]) (vs := [.agg (digC dig0).toArray]) (by decide) sl36 rfl (by simp only [evs, ev, e35]; first | done | rfl) rfl (by intro v hv; rw [List.mem_singleton.1 hv]; rfl) leB_ 0 (Nat.zero_le _) ?_
 rintro gt wt hgt hot hEt
 exact qz ⟨hEt, gt, rfl, by rw [hgt]; exact hER.size, hot⟩
 have hEx:=hEE rfl
 have e34:=hk.qe 3
 obtain ⟨u36, e36, h36⟩:=hk.qp 5
 obtain ⟨gt, rfl, hgt0, hot⟩ := h36
 refine wl_append (size := 32) (m := 1) (news := digC dig0) (by decide) sl36 e34 e36 (hRo.ext hEx) rfl (fun b hb => by cases hb; exact hot.at0) (by simp) (List.all_eq_true.1 rfl) (by omega) (Nat.zero_le _) ?_
 rintro A3 c3 w3 ho3 hch3 h43
 exact qz ⟨hch3.weak (fun b _ x => (hRk b).2 ⟨x.1, x.2.2⟩), A3, c3, rfl, ho3, fun b hb => (by
     rcases h43 with ⟨rfl, rfl⟩ | rfl
     · exact .inl ((hRk b).2 hb)
     · obtain ⟨_, a, ha, rfl⟩ := hb
       cases ha
       exact .inr hEx.size)⟩
 intro F wD hED hini hdo
 have e1:=di hini 1
 have e3:=di hini 3
 have e9:=di hini 9
 have e21:=di hini 21
 have e22:=di hini 22
 have e31:=dr hdo 0
 obtain ⟨u37, e37, h37⟩ := hdo 6 37 (Nat.lt_of_lt_of_eq (by decide) rfl) rfl
 obtain ⟨A3, c3, rfl, ho3, hK3⟩ := h37
 refine wl_drop [(1, _), (3, _), (9, _), (21, _), (22, _), (31, _), (37, _)] ⟨e1, e3, e9, e21, e22, e31, e37, trivial⟩ ?_
 clear e1 e3 e9 e21 e22 e31 e37 hini hdo
 replace hFr:=hFr.fz (hED.weak (fun b _ hb => hKF b hb))
 replace hl2:=(hl2.ext q1).fz (hED.weak (fun b _ hb => hKF b hb))
 replace hRF:=(hRF.ext q1).fz (hED.weak (fun b _ hb => hKF b hb))
 replace hp:=hup _ (itR 23 32 A3 (xs.length + 1) c3 (rows.flatten ++ (digC dig0))) (fun b => c3 ≠ 0 ∧ blk A3 b) hED ⟨ho3, fun _ => Iff.rfl⟩ hK3
 refine go ?_
 refine wl_sstore1 0 (i := 2) hS (by rw [add_zero']; rfl) rfl hp rfl rfl sz36 (by decide) rfl ?_
 rintro w3 hp3 hC3
 replace hFr:=hFr.fz hC3
 have q2:=hl2.tk.fz hC3
 replace hp:=hp3
 refine go ?_
 refine Ld_ sc36 rfl (hp.slotAt (i := 2) hS rfl rfl).head (go ?_)
 have hOR:=hp.rowAt (i := 3) rfl
 obtain ⟨g7, rfl⟩ : ∃ g, A3 = some ⟨g, 0, none⟩ := by
   obtain ⟨g, hg, _⟩ := hOR.el 0 (by omega)
   exact ⟨g, hg⟩
 have hfl:=(hRF.fr q2).flen
 refine wl_idx0 (size := 32) (by decide) sl36 rfl rfl rfl k rfl (by omega) ?_
 rw [show (⟨g7, 0, none⟩ : Addr).add (k * 32) = ⟨g7, rows.flatten.length, none⟩ by rw [add_lit', hfl, hxk, Nat.zero_add]; rfl]
 have hpc:=((((hp.tail.up 1 rfl).up 2 rfl).up 2 rfl).as_ (H' := itB gr 103 [.slice A2 l2.length c2, .bool b2] :: itR 23 32 (some ⟨g7, 0, none⟩) (xs.length + 1) c3 (rows.flatten ++ ((digC dig0) ++ [])) :: X ([.slice (some ⟨g7, 0, none⟩) (xs.length + 1) c3]) :: H) rfl)
 have hcl:=hE _ _ _ (fun cs => itR 23 32 (some ⟨g7, 0, none⟩) (xs.length + 1) c3 (rows.flatten ++ (cs ++ []))) ⟨g7, rows.flatten.length, none⟩ _ _ _ _ hFr hpc (Slot.row rows.flatten [] (by decide)) (hl2.fr q2)
 refine wl_callF (vs := [.pointer (some ⟨g7, rows.flatten.length, none⟩)]) (by decide) rfl rfl (fun _ h => by cases h) hcl ?_
 clear hcl
 rintro _ w9 ⟨F9, A9, c9, l9, b9, cs9, x9, hp9, hF9, hl9, hrd9, hst9⟩
 replace hFr:=hFr.fr hF9
 replace q2:=q2.fr hF9
 replace hp:=hp9
 have hp:=hp.ay (_ :: _ :: _ :: _)
 have hp:=(hp.up 2 rfl).as_ (H' := _ :: _ :: _ :: _) rfl
 have hp:=(hp.up 1 rfl).as_ (H' := _ :: _ :: _ :: _) rfl
 refine go ?_
 refine wl_add (by decide) rfl rfl (w64 (by omega) (by omega)) (gl ?_)
 refine wk_drop [(1, .pointer (some pX)), (3, FV), (21, iv x1), (22, iv ((k + 1) : Int))] ⟨rfl, rfl, rfl, rfl, trivial⟩ (hKL1 _ _ (m2 := x1.toNat - (k + 1)) ?_ ?_)
 refine ⟨(k + 1), F9, A9, c9, l9, b9, (some ⟨g7, 0, none⟩), c3, (xs ++ [x9]), (rows ++ [cs9]), rfl, ?_, ?_, ?_, ?_, ?_, ?_, ?_, rfl⟩
 omega
 rw [List.length_append, hxk]; rfl
 exact ((hRF.fr q2).append (RF.one hrd9))
 exact hFr
 exact hl9
 exact StepP.snoc hstL hst9
 rw [flat_snoc, List.length_append]; exact hp
 omega
 refine go ?_
 refine wk_post0 (.inr rfl) results113  ?_
 obtain ⟨F8, hp8, hs8, hb8⟩ := ((hp.up 2 rfl).as_ (H' := _ :: _ :: _ :: _) rfl).frzRow
 have hgs:=OwnRow.gsRF (r := digR) (hp.rowAt (i := 2) rfl) (hRF.wid hs8) hb8
 exact ⟨_, rfl, F8, A2, c2, l2, b2, _, xs, hp8, hFr.wid hs8, hl2.wid hs8, sliceR_mk hgs, StepP.bind hst1 (by rw [show x1.toNat = k by omega]; exact hstL)⟩
set_option maxHeartbeats 40000000 in
theorem rListC_ok {gr : Nat} {l : List UInt8} {bad : Bool} {X : List Value → It} {pX : Addr} {most : Int} {p : PR Chn} {FV : Value} (hp : HP w0 M0 Fz w (itB gr 103 [.slice A l.length c, .bool bad] :: X ([.slice none 0 0]) :: H)) (hS : Slot X pX 1) (hl : GS byteR Fz w A c l) (hE : EachR prog 103 gr w0 M0 Fz w changeR ([Value.int .i64 0, Value.int .i64 0, Value.int .i64 0, Value.slice none 0 0, Value.slice none 0 0, Value.slice none 0 0]) p FV) (hm : most ≤ 100) : Ret prog 109 #[.iface 101 (.pointer (some ⟨gr, 0, none⟩)), .pointer (some pX), .int .i64 most, FV] w (RdP 103 gr w0 M0 Fz w H X (sliceR changeR) (listP p most) bad l) := by
 have hFr:=Frz.start Fz w
 refine ret_of_wk func109 rfl ntmps109 leB_ ?_
 refine go ?_
 apply wdT 9 [.eq _,.eq _,.eq _,.eq _,.eq _,.eq _,.eq _,.eq _,.eq _]
 refine ⟨?_,?_,?_,?_,?_,?_,?_,?_,?_,trivial⟩<;>intro F wF hER hk
 exact dm (hk.qi 0)
 exact dm (hk.qi 1)
 exact Nc_ (hk.qe 1) qz
 exact Ld_ sc34 (hk.qe 2) ((hp.ext hER).slotAt (i := 1) hS rfl rfl).head qz
 exact Ln_ underlying34 (hk.qe 3) qz
 exact dm (hk.qi 2)
 have e11:=hk.qe 0
 exact wl_makeFunc (first := [.tmp 11]) (cap := []) (by decide) (by simp only [evs, ev, e11]; rfl) rfl qz
 exact wl_nilCheckM (t := 101) (by decide) mt187 (hk.qe 6) qz
 exact dm (hk.qe 0)
 intro F wD hED hini hdo
 refine wl_drop [(1, _), (3, _), (15, _), (16, _), (19, _)] ⟨di hini 1, di hini 3, dr hdo 4, dr hdo 5, dr hdo 8, trivial⟩ ?_
 clear hini hdo
 replace hFr:=hFr.ext hED
 have q0:=hED
 replace hp:=hp.ext hED
 have hcl:=nMany_ok (m0 := 0) (most := most) hp (hl.ext q0)
 refine wl_invoke (t := 101) (name := "bastide/note.many") (f := 187) (by decide) mt187 rfl rfl hcl ?_
 clear hcl
 rintro _ w1 ⟨F1, A1, c1, l1, b1, x1, rfl, hp1, hF1, hl1, hst1, hz1⟩
 replace hFr:=hFr.fr hF1
 replace hp:=hp1
 have hML : ∀ q : Int, 0 ≤ q → q < x1 → x1 ≤ most := by
   intro q h0 h1
   cases hq : b1 with
   | false => exact (many_lim hst1 hq).2
   | true => have := hz1 hq; omega
 refine go ?_
 refine wc_loop (fun L' w' mes => ∃ (k : Nat), ∃ (F1 : Nat → Prop), ∃ (A2 : Option Addr), ∃ (c2 : Nat), ∃ (l2 : List UInt8), ∃ (b2 : Bool), ∃ (AL : Option Addr), ∃ (cL : Nat), ∃ (xs : List Chn), ∃ (rows : List (List Value)), L' = [(1, .pointer (some pX)), (3, FV), (21, iv x1), (22, iv (k : Int))] ∧ (k ≤ x1.toNat) ∧ (xs.length = k) ∧ (RF changeR F1 w' rows xs) ∧ (Frz Fz F1 w w') ∧ (GS byteR F1 w' A2 c2 l2) ∧ (StepP (repP p k) (rst b1 l1) (rst b2 l2) xs) ∧ (HP w0 M0 F1 w' (itB gr 103 [.slice A2 l2.length c2, .bool b2] :: X ([.slice AL xs.length cL]) :: itR 33 6 AL xs.length cL rows.flatten :: H)) ∧ x1.toNat - k = mes) [(1, .pointer (some pX)), (3, FV), (21, iv x1), (22, iv (0 : Int))] (x1.toNat - 0) (by
     refine ⟨0, F1, A1, c1, l1, b1, none, 0, [], [], rfl, ?_, ?_, ?_, ?_, ?_, ?_, ?_, rfl⟩
     · exact Nat.zero_le _
     · rfl
     · exact RF.nil _ _ _
     · exact hFr
     · exact hl1
     · exact StepP.pure _ _
     · exact ((hp.noRow 33 6).as_ (H' := _ :: _ :: _ :: _) rfl).rot3) ⟨rfl, rfl, rfl, rfl, trivial⟩ ?_
 rintro _ wr _ ⟨k, F1, A2, c2, l2, b2, AL, cL, xs, rows, rfl, hk, hxk, hRF, hFr, hl2, hstL, hp, rfl⟩ KL1 hKL1
 refine go ?_
 refine Ls_ rfl rfl (go ?_)
 refine Cd (fun hc1 => ?_) fun hc1 => ?_
 have hx9:=hML k (by omega) (by omega)
 refine go ?_
 refine Ld_ sc34 rfl (hp.slotAt (i := 1) hS rfl rfl).head ?_
 refine Ln_ underlying34 rfl ?_
 refine Eq_ rfl rfl ?_
 refine wl_re (k := 30) (v := .bool true) rfl (congrArg Value.bool (decide_eq_true (by omega))) (go ?_)
 refine wc_cond_t rfl (go ?_)
 refine wl_halloc (z := .agg #[iv 0, iv 0, iv 0, s0, s0, s0]) (by decide) (by kernel_rfl) hp ?_
 rintro gs10 w2 hp2 hE2
 replace hFr:=hFr.ext hE2
 have q1:=hE2
 replace hp:=hp2
 replace hp:=hp.ay (itB gs10 33 ([iv change0.node, iv change0.view, iv change0.low, s0, s0, s0]) :: _)
 refine go ?_
 obtain ⟨KM, ⟨hRo, hRk⟩, hKF, hKlt, hpo, hup⟩ := hp.apart (i := 3) rfl
 apply wc_drawTM 7 6 KM [.eq _,.eq _,.eq _,.eq _,.eq _,SP.tmpR _ 33 6 1 ([Value.int .i64 0,Value.int .i64 0,Value.int .i64 0,Value.slice none 0 0,Value.slice none 0 0,Value.slice none 0 0]),SP.turn KM _ 33 6 (xs.length + 1) (rows.flatten ++ ([Value.int .i64 0,Value.int .i64 0,Value.int .i64 0,Value.slice none 0 0,Value.slice none 0 0,Value.slice none 0 0]))] (by kernel_rfl) (by kernel_rfl) ⟨.inr (fun _ _ _ _ h => h),.inr (fun _ _ _ _ h => h),.inr (fun _ _ _ _ h => h),.inr (fun _ _ _ _ h => h),.inr (fun _ _ _ _ h => h),.inr (SP.tmpR_st hKlt),.inl rfl,trivial⟩
 refine ⟨?_,?_,?_,?_,?_,?_,?_,trivial⟩<;>intro F wF hER hEE hk
 exact dm (hk.qi 1)
 exact dm (hk.qi 1)
 exact Nc_ (hk.qe 1) qz
 exact Ld_ sc34 (hk.qe 2) ((hpo _ hER).slotAt (i := 2) hS rfl rfl).head qz
 exact Hx_ ([iv change0.node, iv change0.view, iv change0.low, s0, s0, s0]) 0 ag33 (hk.qi 10) (hpo _ hER) rfl rfl rfl qz
 have e35:=hk.qe 4
 refine wl_bslice (size := 6) (xs := [.tmp 35]) (vs := [.agg ([Value.int .i64 0, Value.int .i64 0, Value.int .i64 0, Value.slice none 0 0, Value.slice none 0 0, Value.slice none 0 0]).toArray]) (by decide) sl34 rfl (by simp only [evs, ev, e35]; first | done | rfl) rfl (by intro v hv; rw [List.mem_singleton.1 hv]; rfl) leB_ 0 (Nat.zero_le _) ?_
 rintro gt wt hgt hot hEt
 exact qz ⟨hEt, gt, rfl, by rw [hgt]; exact hER.size, hot⟩
 have hEx:=hEE rfl
 have e34:=hk.qe 3
 obtain ⟨u36, e36, h36⟩:=hk.qp 5
 obtain ⟨gt, rfl, hgt0, hot⟩ := h36
 refine wl_append (size := 6) (m := 1) (news := [Value.int .i64 0, Value.int .i64 0, Value.int .i64 0, Value.slice none 0 0, Value.slice none 0 0, Value.slice none 0 0]) (by decide) sl34 e34 e36 (hRo.ext hEx) rfl (fun b hb => by cases hb; exact hot.at0) (by simp) (List.all_eq_true.1 rfl) (by omega) (Nat.zero_le _) ?_
 rintro A3 c3 w3 ho3 hch3 h43
 exact qz ⟨hch3.weak (fun b _ x => (hRk b).2 ⟨x.1, x.2.2⟩), A3, c3, rfl, ho3, fun b hb => (by
     rcases h43 with ⟨rfl, rfl⟩ | rfl
     · exact .inl ((hRk b).2 hb)
     · obtain ⟨_, a, ha, rfl⟩ := hb
       cases ha
       exact .inr hEx.size)⟩
 intro F wD hED hini hdo
 have e1:=di hini 1
 have e3:=di hini 3
 have e9:=di hini 9
 have e21:=di hini 21
 have e22:=di hini 22
 have e31:=dr hdo 0
 obtain ⟨u37, e37, h37⟩ := hdo 6 37 (Nat.lt_of_lt_of_eq (by decide) rfl) rfl
 obtain ⟨A3, c3, rfl, ho3, hK3⟩ := h37
 refine wl_drop [(1, _), (3, _), (9, _), (21, _), (22, _), (31, _), (37, _)] ⟨e1, e3, e9, e21, e22, e31, e37, trivial⟩ ?_
 clear e1 e3 e9 e21 e22 e31 e37 hini hdo
 replace hFr:=hFr.fz (hED.weak (fun b _ hb => hKF b hb))
 replace hl2:=(hl2.ext q1).fz (hED.weak (fun b _ hb => hKF b hb))
 replace hRF:=(hRF.ext q1).fz (hED.weak (fun b _ hb => hKF b hb))
 replace hp:=hup _ (itR 33 6 A3 (xs.length + 1) c3 (rows.flatten ++ ([Value.int .i64 0, Value.int .i64 0, Value.int .i64 0, Value.slice none 0 0, Value.slice none 0 0, Value.slice none 0 0]))) (fun b => c3 ≠ 0 ∧ blk A3 b) hED ⟨ho3, fun _ => Iff.rfl⟩ hK3
 refine go ?_
 refine wl_sstore1 0 (i := 2) hS (by rw [add_zero']; rfl) rfl hp rfl rfl sz34 (by decide) rfl ?_
 rintro w3 hp3 hC3
 replace hFr:=hFr.fz hC3
 have q2:=hl2.tk.fz hC3
 replace hp:=hp3
 refine go ?_
 refine Ld_ sc34 rfl (hp.slotAt (i := 2) hS rfl rfl).head (go ?_)
 have hOR:=hp.rowAt (i := 3) rfl
 obtain ⟨g7, rfl⟩ : ∃ g, A3 = some ⟨g, 0, none⟩ := by
   obtain ⟨g, hg, _⟩ := hOR.el 0 (by omega)
   exact ⟨g, hg⟩
 have hfl:=(hRF.fr q2).flen
 refine wl_idx0 (size := 6) (by decide) sl34 rfl rfl rfl k rfl (by omega) ?_
 rw [show (⟨g7, 0, none⟩ : Addr).add (k * 6) = ⟨g7, rows.flatten.length, none⟩ by rw [add_lit', hfl, hxk, Nat.zero_add]; rfl]
 have hpc:=((((hp.tail.up 1 rfl).up 2 rfl).up 2 rfl).as_ (H' := itB gr 103 [.slice A2 l2.length c2, .bool b2] :: itR 33 6 (some ⟨g7, 0, none⟩) (xs.length + 1) c3 (rows.flatten ++ (([Value.int .i64 0, Value.int .i64 0, Value.int .i64 0, Value.slice none 0 0, Value.slice none 0 0, Value.slice none 0 0]) ++ [])) :: X ([.slice (some ⟨g7, 0, none⟩) (xs.length + 1) c3]) :: H) rfl)
 have hcl:=hE _ _ _ (fun cs => itR 33 6 (some ⟨g7, 0, none⟩) (xs.length + 1) c3 (rows.flatten ++ (cs ++ []))) ⟨g7, rows.flatten.length, none⟩ _ _ _ _ hFr hpc (Slot.row rows.flatten [] (by decide)) (hl2.fr q2)
 refine wl_callF (vs := [.pointer (some ⟨g7, rows.flatten.length, none⟩)]) (by decide) rfl rfl (fun _ h => by cases h) hcl ?_
 clear hcl
 rintro _ w9 ⟨F9, A9, c9, l9, b9, cs9, x9, hp9, hF9, hl9, hrd9, hst9⟩
 replace hFr:=hFr.fr hF9
 replace q2:=q2.fr hF9
 replace hp:=hp9
 have hp:=hp.ay (_ :: _ :: _ :: _)
 have hp:=(hp.up 2 rfl).as_ (H' := _ :: _ :: _ :: _) rfl
 have hp:=(hp.up 1 rfl).as_ (H' := _ :: _ :: _ :: _) rfl
 refine go ?_
 refine wl_add (by decide) rfl rfl (w64 (by omega) (by omega)) (gl ?_)
 refine wk_drop [(1, .pointer (some pX)), (3, FV), (21, iv x1), (22, iv ((k + 1) : Int))] ⟨rfl, rfl, rfl, rfl, trivial⟩ (hKL1 _ _ (m2 := x1.toNat - (k + 1)) ?_ ?_)
 refine ⟨(k + 1), F9, A9, c9, l9, b9, (some ⟨g7, 0, none⟩), c3, (xs ++ [x9]), (rows ++ [cs9]), rfl, ?_, ?_, ?_, ?_, ?_, ?_, ?_, rfl⟩
 omega
 rw [List.length_append, hxk]; rfl
 exact ((hRF.fr q2).append (RF.one hrd9))
 exact hFr
 exact hl9
 exact StepP.snoc hstL hst9
 rw [flat_snoc, List.length_append]; exact hp
 omega
 refine go ?_
 refine wk_post0 (.inr rfl) results109  ?_
 obtain ⟨F8, hp8, hs8, hb8⟩ := ((hp.up 2 rfl).as_ (H' := _ :: _ :: _ :: _) rfl).frzRow
 have hgs:=OwnRow.gsRF (r := changeR) (hp.rowAt (i := 2) rfl) (hRF.wid hs8) hb8
 exact ⟨_, rfl, F8, A2, c2, l2, b2, _, xs, hp8, hFr.wid hs8, hl2.wid hs8, sliceR_mk hgs, StepP.bind hst1 (by rw [show x1.toNat = k by omega]; exact hstL)⟩
set_option maxHeartbeats 40000000 in
theorem rListP_ok {gr : Nat} {l : List UInt8} {bad : Bool} {X : List Value → It} {pX : Addr} {most : Int} {p : PR Pck} {FV : Value} (hp : HP w0 M0 Fz w (itB gr 103 [.slice A l.length c, .bool bad] :: X ([.slice none 0 0]) :: H)) (hS : Slot X pX 1) (hl : GS byteR Fz w A c l) (hE : EachR prog 103 gr w0 M0 Fz w pickR ([Value.int .i64 0] ++ (digC dig0 ++ ([Value.slice none 0 0]))) p FV) (hm : most ≤ 100) : Ret prog 111 #[.iface 101 (.pointer (some ⟨gr, 0, none⟩)), .pointer (some pX), .int .i64 most, FV] w (RdP 103 gr w0 M0 Fz w H X (sliceR pickR) (listP p most) bad l) := by
 have hFr:=Frz.start Fz w
 refine ret_of_wk func111 rfl ntmps111 leB_ ?_
 refine go ?_
 apply wdT 9 [.eq _,.eq _,.eq _,.eq _,.eq _,.eq _,.eq _,.eq _,.eq _]
 refine ⟨?_,?_,?_,?_,?_,?_,?_,?_,?_,trivial⟩<;>intro F wF hER hk
 exact dm (hk.qi 0)
 exact dm (hk.qi 1)
 exact Nc_ (hk.qe 1) qz
 exact Ld_ sc35 (hk.qe 2) ((hp.ext hER).slotAt (i := 1) hS rfl rfl).head qz
 exact Ln_ underlying35 (hk.qe 3) qz
 exact dm (hk.qi 2)
 have e11:=hk.qe 0
 exact wl_makeFunc (first := [.tmp 11]) (cap := []) (by decide) (by simp only [evs, ev, e11]; rfl) rfl qz
 exact wl_nilCheckM (t := 101) (by decide) mt187 (hk.qe 6) qz
 exact dm (hk.qe 0)
 intro F wD hED hini hdo
 refine wl_drop [(1, _), (3, _), (15, _), (16, _), (19, _)] ⟨di hini 1, di hini 3, dr hdo 4, dr hdo 5, dr hdo 8, trivial⟩ ?_
 clear hini hdo
 replace hFr:=hFr.ext hED
 have q0:=hED
 replace hp:=hp.ext hED
 have hcl:=nMany_ok (m0 := 0) (most := most) hp (hl.ext q0)
 refine wl_invoke (t := 101) (name := "bastide/note.many") (f := 187) (by decide) mt187 rfl rfl hcl ?_
 clear hcl
 rintro _ w1 ⟨F1, A1, c1, l1, b1, x1, rfl, hp1, hF1, hl1, hst1, hz1⟩
 replace hFr:=hFr.fr hF1
 replace hp:=hp1
 have hML : ∀ q : Int, 0 ≤ q → q < x1 → x1 ≤ most := by
   intro q h0 h1
   cases hq : b1 with
   | false => exact (many_lim hst1 hq).2
   | true => have := hz1 hq; omega
 refine go ?_
 refine wc_loop (fun L' w' mes => ∃ (k : Nat), ∃ (F1 : Nat → Prop), ∃ (A2 : Option Addr), ∃ (c2 : Nat), ∃ (l2 : List UInt8), ∃ (b2 : Bool), ∃ (AL : Option Addr), ∃ (cL : Nat), ∃ (xs : List Pck), ∃ (rows : List (List Value)), L' = [(1, .pointer (some pX)), (3, FV), (21, iv x1), (22, iv (k : Int))] ∧ (k ≤ x1.toNat) ∧ (xs.length = k) ∧ (RF pickR F1 w' rows xs) ∧ (Frz Fz F1 w w') ∧ (GS byteR F1 w' A2 c2 l2) ∧ (StepP (repP p k) (rst b1 l1) (rst b2 l2) xs) ∧ (HP w0 M0 F1 w' (itB gr 103 [.slice A2 l2.length c2, .bool b2] :: X ([.slice AL xs.length cL]) :: itR 66 34 AL xs.length cL rows.flatten :: H)) ∧ x1.toNat - k = mes) [(1, .pointer (some pX)), (3, FV), (21, iv x1), (22, iv (0 : Int))] (x1.toNat - 0) (by
     refine ⟨0, F1, A1, c1, l1, b1, none, 0, [], [], rfl, ?_, ?_, ?_, ?_, ?_, ?_, ?_, rfl⟩
     · exact Nat.zero_le _
     · rfl
     · exact RF.nil _ _ _
     · exact hFr
     · exact hl1
     · exact StepP.pure _ _
     · exact ((hp.noRow 66 34).as_ (H' := _ :: _ :: _ :: _) rfl).rot3) ⟨rfl, rfl, rfl, rfl, trivial⟩ ?_
 rintro _ wr _ ⟨k, F1, A2, c2, l2, b2, AL, cL, xs, rows, rfl, hk, hxk, hRF, hFr, hl2, hstL, hp, rfl⟩ KL1 hKL1
 refine go ?_
 refine Ls_ rfl rfl (go ?_)
 refine Cd (fun hc1 => ?_) fun hc1 => ?_
 have hx9:=hML k (by omega) (by omega)
 refine go ?_
 refine Ld_ sc35 rfl (hp.slotAt (i := 1) hS rfl rfl).head ?_
 refine Ln_ underlying35 rfl ?_
 refine Eq_ rfl rfl ?_
 refine wl_re (k := 30) (v := .bool true) rfl (congrArg Value.bool (decide_eq_true (by omega))) (go ?_)
 refine wc_cond_t rfl (go ?_)
 refine wl_halloc (z := .agg #[iv 0, .int .u8 0, .int .u8 0, .int .u8 0, .int .u8 0, .int .u8 0, .int .u8 0, .int .u8 0, .int .u8 0, .int .u8 0, .int .u8 0, .int .u8 0, .int .u8 0, .int .u8 0, .int .u8 0, .int .u8 0, .int .u8 0, .int .u8 0, .int .u8 0, .int .u8 0, .int .u8 0, .int .u8 0, .int .u8 0, .int .u8 0, .int .u8 0, .int .u8 0, .int .u8 0, .int .u8 0, .int .u8 0, .int .u8 0, .int .u8 0, .int .u8 0, .int .u8 0, s0]) (by decide) (by kernel_rfl) hp ?_
 rintro gs10 w2 hp2 hE2
 replace hFr:=hFr.ext hE2
 have q1:=hE2
 replace hp:=hp2
 replace hp:=hp.ay (itB gs10 66 ([iv pick0.seq] ++ (digC pick0.dig ++ ([s0]))) :: _)
 refine go ?_
 obtain ⟨KM, ⟨hRo, hRk⟩, hKF, hKlt, hpo, hup⟩ := hp.apart (i := 3) rfl
 apply wc_drawTM 7 6 KM [.eq _,.eq _,.eq _,.eq _,.eq _,SP.tmpR _ 66 34 1 ([Value.int .i64 0] ++ (digC dig0 ++ ([Value.slice none 0 0]))),SP.turn KM _ 66 34 (xs.length + 1) (rows.flatten ++ ([Value.int .i64 0] ++ (digC dig0 ++ ([Value.slice none 0 0]))))] (by kernel_rfl) (by kernel_rfl) ⟨.inr (fun _ _ _ _ h => h),.inr (fun _ _ _ _ h => h),.inr (fun _ _ _ _ h => h),.inr (fun _ _ _ _ h => h),.inr (fun _ _ _ _ h => h),.inr (SP.tmpR_st hKlt),.inl rfl,trivial⟩
 refine ⟨?_,?_,?_,?_,?_,?_,?_,trivial⟩<;>intro F wF hER hEE hk
 exact dm (hk.qi 1)
 exact dm (hk.qi 1)
 exact Nc_ (hk.qe 1) qz
 exact Ld_ sc35 (hk.qe 2) ((hpo _ hER).slotAt (i := 2) hS rfl rfl).head qz
 exact Hx_ ([iv pick0.seq] ++ (digC pick0.dig ++ ([s0]))) 0 ag66 (hk.qi 10) (hpo _ hER) rfl rfl rfl qz
 have e35:=hk.qe 4
 refine wl_bslice (size := 34) (xs := [.tmp 35]) (vs := [.agg ([Value.int .i64 0] ++ (digC dig0 ++ ([Value.slice none 0 0]))).toArray]) (by decide) sl35 rfl (by simp only [evs, ev, e35]; first | done | rfl) rfl (by intro v hv; rw [List.mem_singleton.1 hv]; rfl) leB_ 0 (Nat.zero_le _) ?_
 rintro gt wt hgt hot hEt
 exact qz ⟨hEt, gt, rfl, by rw [hgt]; exact hER.size, hot⟩
 have hEx:=hEE rfl
 have e34:=hk.qe 3
 obtain ⟨u36, e36, h36⟩:=hk.qp 5
 obtain ⟨gt, rfl, hgt0, hot⟩ := h36
 refine wl_append (size := 34) (m := 1) (news := [Value.int .i64 0] ++ (digC dig0 ++ ([Value.slice none 0 0]))) (by decide) sl35 e34 e36 (hRo.ext hEx) rfl (fun b hb => by cases hb; exact hot.at0) (by simp) (List.all_eq_true.1 rfl) (by omega) (Nat.zero_le _) ?_
 rintro A3 c3 w3 ho3 hch3 h43
 exact qz ⟨hch3.weak (fun b _ x => (hRk b).2 ⟨x.1, x.2.2⟩), A3, c3, rfl, ho3, fun b hb => (by
     rcases h43 with ⟨rfl, rfl⟩ | rfl
     · exact .inl ((hRk b).2 hb)
     · obtain ⟨_, a, ha, rfl⟩ := hb
       cases ha
       exact .inr hEx.size)⟩
 intro F wD hED hini hdo
 have e1:=di hini 1
 have e3:=di hini 3
 have e9:=di hini 9
 have e21:=di hini 21
 have e22:=di hini 22
 have e31:=dr hdo 0
 obtain ⟨u37, e37, h37⟩ := hdo 6 37 (Nat.lt_of_lt_of_eq (by decide) rfl) rfl
 obtain ⟨A3, c3, rfl, ho3, hK3⟩ := h37
 refine wl_drop [(1, _), (3, _), (9, _), (21, _), (22, _), (31, _), (37, _)] ⟨e1, e3, e9, e21, e22, e31, e37, trivial⟩ ?_
 clear e1 e3 e9 e21 e22 e31 e37 hini hdo
 replace hFr:=hFr.fz (hED.weak (fun b _ hb => hKF b hb))
 replace hl2:=(hl2.ext q1).fz (hED.weak (fun b _ hb => hKF b hb))
 replace hRF:=(hRF.ext q1).fz (hED.weak (fun b _ hb => hKF b hb))
 replace hp:=hup _ (itR 66 34 A3 (xs.length + 1) c3 (rows.flatten ++ ([Value.int .i64 0] ++ (digC dig0 ++ ([Value.slice none 0 0]))))) (fun b => c3 ≠ 0 ∧ blk A3 b) hED ⟨ho3, fun _ => Iff.rfl⟩ hK3
 refine go ?_
 refine wl_sstore1 0 (i := 2) hS (by rw [add_zero']; rfl) rfl hp rfl rfl sz35 (by decide) rfl ?_
 rintro w3 hp3 hC3
 replace hFr:=hFr.fz hC3
 have q2:=hl2.tk.fz hC3
 replace hp:=hp3
 refine go ?_
 refine Ld_ sc35 rfl (hp.slotAt (i := 2) hS rfl rfl).head (go ?_)
 have hOR:=hp.rowAt (i := 3) rfl
 obtain ⟨g7, rfl⟩ : ∃ g, A3 = some ⟨g, 0, none⟩ := by
   obtain ⟨g, hg, _⟩ := hOR.el 0 (by omega)
   exact ⟨g, hg⟩
 have hfl:=(hRF.fr q2).flen
 refine wl_idx0 (size := 34) (by decide) sl35 rfl rfl rfl k rfl (by omega) ?_
 rw [show (⟨g7, 0, none⟩ : Addr).add (k * 34) = ⟨g7, rows.flatten.length, none⟩ by rw [add_lit', hfl, hxk, Nat.zero_add]; rfl]
 have hpc:=((((hp.tail.up 1 rfl).up 2 rfl).up 2 rfl).as_ (H' := itB gr 103 [.slice A2 l2.length c2, .bool b2] :: itR 66 34 (some ⟨g7, 0, none⟩) (xs.length + 1) c3 (rows.flatten ++ (([Value.int .i64 0] ++ (digC dig0 ++ ([Value.slice none 0 0]))) ++ [])) :: X ([.slice (some ⟨g7, 0, none⟩) (xs.length + 1) c3]) :: H) rfl)
 have hcl:=hE _ _ _ (fun cs => itR 66 34 (some ⟨g7, 0, none⟩) (xs.length + 1) c3 (rows.flatten ++ (cs ++ []))) ⟨g7, rows.flatten.length, none⟩ _ _ _ _ hFr hpc (Slot.row rows.flatten [] (by decide)) (hl2.fr q2)
 refine wl_callF (vs := [.pointer (some ⟨g7, rows.flatten.length, none⟩)]) (by decide) rfl rfl (fun _ h => by cases h) hcl ?_
 clear hcl
 rintro _ w9 ⟨F9, A9, c9, l9, b9, cs9, x9, hp9, hF9, hl9, hrd9, hst9⟩
 replace hFr:=hFr.fr hF9
 replace q2:=q2.fr hF9
 replace hp:=hp9
 have hp:=hp.ay (_ :: _ :: _ :: _)
 have hp:=(hp.up 2 rfl).as_ (H' := _ :: _ :: _ :: _) rfl
 have hp:=(hp.up 1 rfl).as_ (H' := _ :: _ :: _ :: _) rfl
 refine go ?_
 refine wl_add (by decide) rfl rfl (w64 (by omega) (by omega)) (gl ?_)
 refine wk_drop [(1, .pointer (some pX)), (3, FV), (21, iv x1), (22, iv ((k + 1) : Int))] ⟨rfl, rfl, rfl, rfl, trivial⟩ (hKL1 _ _ (m2 := x1.toNat - (k + 1)) ?_ ?_)
 refine ⟨(k + 1), F9, A9, c9, l9, b9, (some ⟨g7, 0, none⟩), c3, (xs ++ [x9]), (rows ++ [cs9]), rfl, ?_, ?_, ?_, ?_, ?_, ?_, ?_, rfl⟩
 omega
 rw [List.length_append, hxk]; rfl
 exact ((hRF.fr q2).append (RF.one hrd9))
 exact hFr
 exact hl9
 exact StepP.snoc hstL hst9
 rw [flat_snoc, List.length_append]; exact hp
 omega
 refine go ?_
 refine wk_post0 (.inr rfl) results111  ?_
 obtain ⟨F8, hp8, hs8, hb8⟩ := ((hp.up 2 rfl).as_ (H' := _ :: _ :: _ :: _) rfl).frzRow
 have hgs:=OwnRow.gsRF (r := pickR) (hp.rowAt (i := 2) rfl) (hRF.wid hs8) hb8
 exact ⟨_, rfl, F8, A2, c2, l2, b2, _, xs, hp8, hFr.wid hs8, hl2.wid hs8, sliceR_mk hgs, StepP.bind hst1 (by rw [show x1.toNat = k by omega]; exact hstL)⟩
set_option maxHeartbeats 4000000 in
theorem nStand_ok {w : World} {t : Nat} {v0 : Value}  : Ret Tryz.prog 98 #[.iface t v0] w (fun v w2 => ∃ g, v = .func (.func 132) ([] : List Value).toArray [Value.pointer (some ⟨g, 0, none⟩)].toArray ∧ w.heap.size ≤ g ∧ w2.heap[g]? = some (.cells [Value.iface t v0].toArray 123 (0, 0)) ∧ Ext w w2) := by
 refine ret_of_wk Tryz.func98 rfl Tryz.ntmps98 (Nat.le_of_ble_eq_true rfl) ?_
 have hEc : Ext w w := Chg.refl _ _
 refine wc_seq ?_
 refine wc_region ?_
 refine wl_box (by decide) rfl ?_
 rintro gs1 w1 hg1 hb1 hE1
 replace hEc := hEc.trans hE1
 refine wl_assign (by decide) rfl ?_
 refine wl_nil ?_
 refine wk_norm ?_
 refine wc_seq ?_
 refine wc_region ?_
 refine wl_makeFunc (first := []) (cap := [.tmp 1]) (by decide) rfl rfl ?_
 refine wl_assign (by decide) rfl ?_
 refine wl_nil ?_
 refine wk_norm ?_
 refine wc_ret ?_
 refine wk_post1 (.inl rfl) Tryz.results98 rfl ?_
 exact ⟨_, rfl, gs1, rfl, by rw [hg1]; exact Nat.le_refl _, hb1, hEc⟩
set_option maxHeartbeats 40000000 in
theorem rChange_ok {gr : Nat} {l : List UInt8} {bad : Bool} {X : List Value → It} {pX : Addr} (hp : HP w0 M0 Fz w (itB gr 103 [.slice A l.length c, .bool bad] :: X ([.int .i64 0, .int .i64 0, .int .i64 0, .slice none 0 0, .slice none 0 0, .slice none 0 0]) :: H)) (hS : Slot X pX 6) (hl : GS byteR Fz w A c l) : Ret prog 57 #[.iface 101 (.pointer (some ⟨gr, 0, none⟩)), .pointer (some pX)] w (RdP 103 gr w0 M0 Fz w H X changeR changeP bad l) := by
 have hFr:=Frz.start Fz w
 refine ret_of_wk func57 rfl ntmps57 leB_ ?_
 refine go ?_
 refine wl_hbox (by decide) rfl hp ?_
 rintro gs2 wc1 hpc1 hEc1
 replace hFr:=hFr.ext hEc1
 have q0:=hEc1
 replace hp:=hpc1
 obtain ⟨Fzc, hpc2, hsc2, hcap⟩ := (hp.as_ (H' := itB gs2 123 [.iface 101 (pt gr 0)] :: _) rfl).frzBlk
 replace hp:=hpc2
 replace hFr:=hFr.wid hsc2
 have q1:=hl.tk.ext q0
 replace q1:=q1.wid hsc2
 refine go ?_
 apply wdT 7 [.eq _,.eq _,.eq _,.eq _,.eq _,.eq _,.eq _]
 refine ⟨?_,?_,?_,?_,?_,?_,?_,trivial⟩<;>intro F wF hER hk
 exact Ld_ sc123 (hk.qi 2) (hcap.ext hER).head qz
 exact dm (hk.qi 1)
 exact Nc_ (hk.qe 1) qz
 have e6:=hk.qe 2
 refine Fe_ fld33_0 e6 ?_
 rw [add_zero']
 exact qz
 have e4:=hk.qe 0
 exact wl_makeFunc (first := [.tmp 4]) (cap := []) (by decide) (by simp only [evs, ev, e4]; rfl) rfl qz
 exact wl_nilCheckM (t := 101) (by decide) mt188 (hk.qe 4) qz
 exact dm (hk.qe 0)
 intro F wD hED hini hdo
 refine wl_drop [(1, _), (2, _), (7, _), (10, _)] ⟨di hini 1, di hini 2, dr hdo 3, dr hdo 6, trivial⟩ ?_
 clear hini hdo
 replace hFr:=hFr.ext hED
 replace q1:=q1.ext hED
 have q2:=hED
 replace hp:=hp.ext hED
 have hcl:=nNum_ok (X := (fun cs => X (([]) ++ (cs ++ ([iv 0, iv 0, s0, s0, s0]))))) (pX := pX) (v0 := 0) hp (hS.sub ([]) ([iv 0, iv 0, s0, s0, s0]) rfl) (hl.fr q1) (by unfold i64; omega)
 refine wl_invoke (t := 101) (name := "bastide/note.num") (f := 188) (by decide) mt188 rfl rfl hcl ?_
 clear hcl
 rintro _ w1 ⟨F1, A1, c1, l1, b1, cs1, x1, hp1, hF1, hl1, hrd1, hst1⟩
 obtain ⟨hI1, rfl⟩ := hrd1
 replace hFr:=hFr.fr hF1
 replace q1:=q1.fr hF1
 have q3:=hcap.tk.ext q2
 replace q3:=q3.fr hF1
 replace hp:=hp1
 refine go ?_
 apply wdT 7 [.eq _,.eq _,.eq _,.eq _,.eq _,.eq _,.eq _]
 refine ⟨?_,?_,?_,?_,?_,?_,?_,trivial⟩<;>intro F wF hER hk
 exact Ld_ sc123 (hk.qi 2) ((hcap.fr q3).ext hER).head qz
 exact dm (hk.qi 1)
 exact Nc_ (hk.qe 1) qz
 exact Fe_ fld33_1 (hk.qe 2) qz
 have e12:=hk.qe 0
 exact wl_makeFunc (first := [.tmp 12]) (cap := []) (by decide) (by simp only [evs, ev, e12]; rfl) rfl qz
 exact wl_nilCheckM (t := 101) (by decide) mt188 (hk.qe 4) qz
 exact dm (hk.qe 0)
 intro F wD hED hini hdo
 refine wl_drop [(1, _), (2, _), (15, _), (18, _)] ⟨di hini 1, di hini 2, dr hdo 3, dr hdo 6, trivial⟩ ?_
 clear hini hdo
 replace hFr:=hFr.ext hED
 replace q3:=q3.ext hED
 have q4:=hED
 replace hp:=hp.ext hED
 have hcl:=nNum_ok (X := (fun cs => X (([iv x1]) ++ (cs ++ ([iv 0, s0, s0, s0]))))) (pX := (pX.add 1)) (v0 := 0) hp (hS.sub ([iv x1]) ([iv 0, s0, s0, s0]) rfl) (hl1.ext q4) (by unfold i64; omega)
 refine wl_invoke (t := 101) (name := "bastide/note.num") (f := 188) (by decide) mt188 rfl rfl hcl ?_
 clear hcl
 rintro _ w2 ⟨F2, A2, c2, l2, b2, cs2, x2, hp2, hF2, hl2, hrd2, hst2⟩
 obtain ⟨hI2, rfl⟩ := hrd2
 replace hFr:=hFr.fr hF2
 replace q3:=q3.fr hF2
 replace hp:=hp2
 refine go ?_
 apply wdT 7 [.eq _,.eq _,.eq _,.eq _,.eq _,.eq _,.eq _]
 refine ⟨?_,?_,?_,?_,?_,?_,?_,trivial⟩<;>intro F wF hER hk
 exact Ld_ sc123 (hk.qi 2) ((hcap.fr q3).ext hER).head qz
 exact dm (hk.qi 1)
 exact Nc_ (hk.qe 1) qz
 exact Fe_ fld33_2 (hk.qe 2) qz
 have e20:=hk.qe 0
 exact wl_makeFunc (first := [.tmp 20]) (cap := []) (by decide) (by simp only [evs, ev, e20]; rfl) rfl qz
 exact wl_nilCheckM (t := 101) (by decide) mt188 (hk.qe 4) qz
 exact dm (hk.qe 0)
 intro F wD hED hini hdo
 refine wl_drop [(1, _), (2, _), (23, _), (26, _)] ⟨di hini 1, di hini 2, dr hdo 3, dr hdo 6, trivial⟩ ?_
 clear hini hdo
 replace hFr:=hFr.ext hED
 replace q3:=q3.ext hED
 have q5:=hED
 replace hp:=hp.ext hED
 have hcl:=nNum_ok (X := (fun cs => X (([iv x1, iv x2]) ++ (cs ++ ([s0, s0, s0]))))) (pX := (pX.add 2)) (v0 := 0) hp (hS.sub ([iv x1, iv x2]) ([s0, s0, s0]) rfl) (hl2.ext q5) (by unfold i64; omega)
 refine wl_invoke (t := 101) (name := "bastide/note.num") (f := 188) (by decide) mt188 rfl rfl hcl ?_
 clear hcl
 rintro _ w3 ⟨F3, A3, c3, l3, b3, cs3, x3, hp3, hF3, hl3, hrd3, hst3⟩
 obtain ⟨hI3, rfl⟩ := hrd3
 replace hFr:=hFr.fr hF3
 replace q3:=q3.fr hF3
 replace hp:=hp3
 refine go ?_
 apply wdT 5 [.eq _,.eq _,.eq _,.eq _,.eq _]
 refine ⟨?_,?_,?_,?_,?_,trivial⟩<;>intro F wF hER hk
 exact Ld_ sc123 (hk.qi 2) ((hcap.fr q3).ext hER).head qz
 exact dm (hk.qi 1)
 exact Nc_ (hk.qe 1) qz
 exact Fe_ fld33_3 (hk.qe 2) qz
 have e2:=hk.qi 2
 exact wl_makeFunc (first := []) (cap := [.tmp 2]) (by decide) rfl (by simp only [evs, ev, e2]; rfl) qz
 intro F wD hED hini hdo
 refine wl_drop [(1, _), (2, _), (28, _), (31, _), (32, _)] ⟨di hini 1, di hini 2, dr hdo 0, dr hdo 3, dr hdo 4, trivial⟩ ?_
 clear hini hdo
 replace hFr:=hFr.ext hED
 replace q3:=q3.ext hED
 have q6:=hED
 replace hp:=hp.ext hED
 have hcl:=rListM_ok (X := (fun cs => X (([iv x1, iv x2, iv x3]) ++ (cs ++ ([s0, s0]))))) (pX := (pX.add 3)) (p := markP) (most := 5) (FV := .func (.func 96) ([] : List Value).toArray [Value.pointer (some ⟨gs2, 0, none⟩)].toArray) hp (hS.sub ([iv x1, iv x2, iv x3]) ([s0, s0]) rfl) (hl3.ext q6) (fun w1 F1 H1 X pa A c l bad hF hp hS hl => RetV.func (first := []) (cap := [pt gs2 0]) (vs := [.pointer (some pa)]) cl96 (rMark_ok hp hS hl ((hcap.fr q3).frz hF))) (by decide)
 refine Cl_ cl95 rfl hcl ?_
 clear hcl
 rintro _ w4 ⟨F4, A4, c4, l4, b4, cs4, x4, hp4, hF4, hl4, hrd4, hst4⟩
 obtain ⟨B4, d4, rfl, hg4⟩ := hrd4
 replace hFr:=hFr.fr hF4
 replace q3:=q3.fr hF4
 replace hp:=hp4
 refine go ?_
 apply wdT 6 [.eq _,.eq _,.eq _,.eq _,.eq _,SP.clo _ 123 132 [.iface 101 (pt gr 0)]]
 refine ⟨?_,?_,?_,?_,?_,?_,trivial⟩<;>intro F wF hER hk
 exact Ld_ sc123 (hk.qi 2) ((hcap.fr q3).ext hER).head qz
 exact dm (hk.qi 1)
 exact Nc_ (hk.qe 1) qz
 exact Fe_ fld33_4 (hk.qe 2) qz
 exact Ld_ sc123 (hk.qi 2) ((hcap.fr q3).ext hER).head qz
 have e38:=hk.qe 4
 have hcl:=nStand_ok (w := wF) (t := 101) (v0 := pt gr 0)
 refine Cl_ cl98 (by simp only [evs, ev, e38]; first | done | rfl) hcl ?_
 clear hcl
 rintro _ w7 ⟨g7, rfl, hg7, hb7, hE7⟩
 exact qz ⟨hE7, g7, rfl, Nat.le_trans hER.size hg7, hb7⟩
 intro F wD hED hini hdo
 have e1:=di hini 1
 have e2:=di hini 2
 have e34:=dr hdo 0
 have e37:=dr hdo 3
 obtain ⟨u39, e39, h39⟩ := hdo 5 39 (Nat.lt_of_lt_of_eq (by decide) rfl) rfl
 obtain ⟨g39, rfl, hge39, hb39⟩ := h39
 refine wl_drop [(1, _), (2, _), (34, _), (37, _), (39, _)] ⟨e1, e2, e34, e37, e39, trivial⟩ ?_
 clear e1 e2 e34 e37 e39 hini hdo
 obtain ⟨Fz5, hp5, hsub5, hnew5, hup5⟩ := hp.frz hED
 replace hp:=hp5
 replace hFr:=(hFr.ext hED).wid hsub5
 replace q3:=(q3.ext hED).wid hsub5
 have q7:=(hl4.tk.ext hED).wid hsub5
 have hBq39 : Blk wD g39 123 [.iface 101 (pt gr 0)] := hb39
 have hcq39 : AtF Fz5 wD ⟨g39, 0, none⟩ [.iface 101 (pt gr 0)] := ⟨hBq39.at0, hnew5 _ hge39 hBq39.lt, hBq39.lt⟩
 have hcl:=rListS_ok (X := (fun cs => X (([iv x1, iv x2, iv x3, .slice B4 x4.length d4]) ++ (cs ++ ([s0]))))) (pX := (pX.add 4)) (p := standP) (most := 8) (FV := .func (.func 132) ([] : List Value).toArray [Value.pointer (some ⟨g39, 0, none⟩)].toArray) hp (hS.sub ([iv x1, iv x2, iv x3, .slice B4 x4.length d4]) ([s0]) rfl) (hl4.fr q7) (fun w1 F1 H1 X pa A c l bad hF hp hS hl => RetV.func (first := []) (cap := [pt g39 0]) (vs := [.pointer (some pa)]) cl132 (rStand_ok hp hS hl (hcq39.frz hF))) (by decide)
 refine Cl_ cl97 rfl hcl ?_
 clear hcl
 rintro _ w6 ⟨F6, A6, c6, l6, b6, cs6, x6, hp6, hF6, hl6, hrd6, hst6⟩
 obtain ⟨B6, d6, rfl, hg6⟩ := hrd6
 replace hFr:=hFr.fr hF6
 replace q3:=q3.fr hF6
 replace q7:=q7.fr hF6
 replace hp:=hp6
 refine go ?_
 apply wdT 6 [.eq _,.eq _,.eq _,.eq _,.eq _,SP.clo _ 123 132 [.iface 101 (pt gr 0)]]
 refine ⟨?_,?_,?_,?_,?_,?_,trivial⟩<;>intro F wF hER hk
 exact Ld_ sc123 (hk.qi 2) ((hcap.fr q3).ext hER).head qz
 exact dm (hk.qi 1)
 exact Nc_ (hk.qe 1) qz
 exact Fe_ fld33_5 (hk.qe 2) qz
 exact Ld_ sc123 (hk.qi 2) ((hcap.fr q3).ext hER).head qz
 have e45:=hk.qe 4
 have hcl:=nStand_ok (w := wF) (t := 101) (v0 := pt gr 0)
 refine Cl_ cl98 (by simp only [evs, ev, e45]; first | done | rfl) hcl ?_
 clear hcl
 rintro _ w7 ⟨g7, rfl, hg7, hb7, hE7⟩
 exact qz ⟨hE7, g7, rfl, Nat.le_trans hER.size hg7, hb7⟩
 intro F wD hED hini hdo
 have e41:=dr hdo 0
 have e44:=dr hdo 3
 obtain ⟨u46, e46, h46⟩ := hdo 5 46 (Nat.lt_of_lt_of_eq (by decide) rfl) rfl
 obtain ⟨g46, rfl, hge46, hb46⟩ := h46
 refine wl_drop [(41, _), (44, _), (46, _)] ⟨e41, e44, e46, trivial⟩ ?_
 clear e41 e44 e46 hini hdo
 obtain ⟨Fz7, hp7, hsub7, hnew7, hup7⟩ := hp.frz hED
 replace hp:=hp7
 replace hFr:=(hFr.ext hED).wid hsub7
 replace q7:=(q7.ext hED).wid hsub7
 have q8:=(hl6.tk.ext hED).wid hsub7
 have hBq46 : Blk wD g46 123 [.iface 101 (pt gr 0)] := hb46
 have hcq46 : AtF Fz7 wD ⟨g46, 0, none⟩ [.iface 101 (pt gr 0)] := ⟨hBq46.at0, hnew7 _ hge46 hBq46.lt, hBq46.lt⟩
 have hcl:=rListS_ok (X := (fun cs => X (([iv x1, iv x2, iv x3, .slice B4 x4.length d4, .slice B6 x6.length d6]) ++ (cs ++ ([]))))) (pX := (pX.add 5)) (p := standP) (most := 32) (FV := .func (.func 132) ([] : List Value).toArray [Value.pointer (some ⟨g46, 0, none⟩)].toArray) hp (hS.sub ([iv x1, iv x2, iv x3, .slice B4 x4.length d4, .slice B6 x6.length d6]) ([]) rfl) (hl6.fr q8) (fun w1 F1 H1 X pa A c l bad hF hp hS hl => RetV.func (first := []) (cap := [pt g46 0]) (vs := [.pointer (some pa)]) cl132 (rStand_ok hp hS hl (hcq46.frz hF))) (by decide)
 refine Cl_ cl97 rfl hcl ?_
 clear hcl
 rintro _ w8 ⟨F8, A8, c8, l8, b8, cs8, x8, hp8, hF8, hl8, hrd8, hst8⟩
 obtain ⟨B8, d8, rfl, hg8⟩ := hrd8
 replace hFr:=hFr.fr hF8
 replace q7:=q7.fr hF8
 replace q8:=q8.fr hF8
 replace hp:=hp8
 refine go ?_
 refine wk_post0 (.inr rfl) results57  ?_
 exact ⟨_, rfl, _, A8, c8, l8, b8, _, ({ node := x1, view := x2, low := x3, marks := x4, p := x6, q := x8 } : Chn), ((hp.up 1 rfl).up 1 rfl), hFr, hl8, ⟨⟨hI1, hI2, hI3⟩, _, _, _, _, _, _, rfl, (hg4.fr q7), (hg6.fr q8), hg8⟩, StepP.bind hst1 (StepP.bind hst2 (StepP.bind hst3 (StepP.bind hst4 (StepP.bind hst6 (StepP.bind hst8 (StepP.pure _ _))))))⟩
set_option maxHeartbeats 40000000 in
theorem rAnswer_ok {gr : Nat} {l : List UInt8} {bad : Bool} {X : List Value → It} {pX : Addr} (hp : HP w0 M0 Fz w (itB gr 103 [.slice A l.length c, .bool bad] :: X ([.int .i64 0, .slice none 0 0, .int .i64 0, .slice none 0 0]) :: H)) (hS : Slot X pX 4) (hl : GS byteR Fz w A c l) : Ret prog 108 #[.iface 101 (.pointer (some ⟨gr, 0, none⟩)), .pointer (some pX)] w (RdP 103 gr w0 M0 Fz w H X ansR ansP bad l) := by
 have hFr:=Frz.start Fz w
 refine ret_of_wk func108 rfl ntmps108 leB_ ?_
 refine go ?_
 refine Fe_ fld29_0 rfl ?_
 rw [add_zero']
 refine Ld_ sc25 rfl (hp.slotAt (i := 1) hS rfl rfl).head ?_
 refine wl_halloc (z := iv 0) (by decide) (by kernel_rfl) hp ?_
 rintro gs4 w1 hp1 hE1
 replace hFr:=hFr.ext hE1
 have q0:=hE1
 replace hp:=hp1
 refine wl_hstore1 (i := 0) rfl rfl hp rfl sz3 (Nat.lt_of_lt_of_le (Nat.lt_succ_self _) leB_) rfl ?_
 rintro w2 hp2 hC2
 replace hFr:=hFr.fz hC2
 have q1:=hl.tk.ext q0
 replace q1:=q1.fz hC2
 replace hp:=hp2
 refine go ?_
 replace hp:=((hp.up 0 rfl).up 1 rfl).as_ (H' := itB gr 103 [.slice A l.length c, .bool bad] :: itB gs4 3 ([iv 0]) :: X ([iv 0, s0, iv 0, s0]) :: H) rfl
 have hcl:=nNum_ok (X := (fun cs => itB gs4 3 (([]) ++ (cs ++ ([]))))) (pX := ⟨gs4, 0, none⟩) (v0 := 0) hp (Slot.blk ([]) ([])) (hl.fr q1) (by unfold i64; omega)
 refine wl_invoke (t := 101) (name := "bastide/note.num") (f := 188) (by decide) mt188 rfl rfl hcl ?_
 clear hcl
 rintro _ w3 ⟨F3, A3, c3, l3, b3, cs3, x3, hp3, hF3, hl3, hrd3, hst3⟩
 obtain ⟨hI3, rfl⟩ := hrd3
 replace hFr:=hFr.fr hF3
 replace q1:=q1.fr hF3
 replace hp:=hp3
 refine go ?_
 refine Hl_ 1 sc3 rfl hp rfl rfl (go ?_)
 refine Fe_ fld29_0 rfl ?_
 rw [add_zero']
 refine wl_sstore1 0 (i := 2) hS (by rw [add_zero']; rfl) rfl hp rfl rfl sz25 (by decide) rfl ?_
 rintro w4 hp4 hC4
 replace hFr:=hFr.fz hC4
 have q2:=hl3.tk.fz hC4
 replace hp:=hp4
 refine go ?_
 apply wdT 7 [.eq _,.eq _,.eq _,.eq _,.eq _,.eq _,.eq _]
 refine ⟨?_,?_,?_,?_,?_,?_,?_,trivial⟩<;>intro F wF hER hk
 exact dm (hk.qi 0)
 exact dm (hk.qi 1)
 exact Nc_ (hk.qe 1) qz
 exact Fe_ fld29_1 (hk.qe 2) qz
 have e15:=hk.qe 0
 exact wl_makeFunc (first := [.tmp 15]) (cap := []) (by decide) (by simp only [evs, ev, e15]; rfl) rfl qz
 exact wl_nilCheckM (t := 101) (by decide) mt189 (hk.qe 4) qz
 exact dm (hk.qe 0)
 intro F wD hED hini hdo
 refine wl_drop [(0, _), (1, _), (18, _), (21, _)] ⟨di hini 0, di hini 1, dr hdo 3, dr hdo 6, trivial⟩ ?_
 clear hini hdo
 replace hFr:=hFr.ext hED
 replace q2:=q2.ext hED
 replace hp:=hp.ext hED
 replace hp:=((hp.up 2 rfl).up 1 rfl).as_ (H' := itB gr 103 ([.slice A3 l3.length c3, .bool b3]) :: X ([iv x3, s0, iv 0, s0]) :: itB gs4 3 ([iv x3]) :: H) rfl
 have hcl:=nStr_ok (X := (fun cs => X (([iv x3]) ++ (cs ++ ([iv 0, s0]))))) (pX := (pX.add 1)) (most := 16) hp (hS.sub ([iv x3]) ([iv 0, s0]) rfl) (hl3.fr q2)
 refine wl_invoke (t := 101) (name := "bastide/note.str") (f := 189) (by decide) mt189 rfl rfl hcl ?_
 clear hcl
 rintro _ w5 ⟨F5, A5, c5, l5, b5, cs5, x5, hp5, hF5, hl5, hrd5, hst5⟩
 obtain ⟨B5, d5, rfl, hg5⟩ := hrd5
 replace hFr:=hFr.fr hF5
 replace hp:=hp5
 refine go ?_
 apply wdT 7 [.eq _,.eq _,.eq _,.eq _,.eq _,.eq _,.eq _]
 refine ⟨?_,?_,?_,?_,?_,?_,?_,trivial⟩<;>intro F wF hER hk
 exact dm (hk.qi 0)
 exact dm (hk.qi 1)
 exact Nc_ (hk.qe 1) qz
 exact Fe_ fld29_2 (hk.qe 2) qz
 have e23:=hk.qe 0
 exact wl_makeFunc (first := [.tmp 23]) (cap := []) (by decide) (by simp only [evs, ev, e23]; rfl) rfl qz
 exact wl_nilCheckM (t := 101) (by decide) mt188 (hk.qe 4) qz
 exact dm (hk.qe 0)
 intro F wD hED hini hdo
 refine wl_drop [(0, _), (1, _), (26, _), (29, _)] ⟨di hini 0, di hini 1, dr hdo 3, dr hdo 6, trivial⟩ ?_
 clear hini hdo
 replace hFr:=hFr.ext hED
 have q3:=hED
 replace hp:=hp.ext hED
 have hcl:=nNum_ok (X := (fun cs => X (([iv x3, .slice B5 x5.length d5]) ++ (cs ++ ([s0]))))) (pX := (pX.add 2)) (v0 := 0) hp (hS.sub ([iv x3, .slice B5 x5.length d5]) ([s0]) rfl) (hl5.ext q3) (by unfold i64; omega)
 refine wl_invoke (t := 101) (name := "bastide/note.num") (f := 188) (by decide) mt188 rfl rfl hcl ?_
 clear hcl
 rintro _ w6 ⟨F6, A6, c6, l6, b6, cs6, x6, hp6, hF6, hl6, hrd6, hst6⟩
 obtain ⟨hI6, rfl⟩ := hrd6
 replace hFr:=hFr.fr hF6
 have q4:=hl5.tk.ext q3
 replace q4:=q4.fr hF6
 replace hp:=hp6
 refine go ?_
 apply wdT 7 [.eq _,.eq _,.eq _,.eq _,.eq _,.eq _,.eq _]
 refine ⟨?_,?_,?_,?_,?_,?_,?_,trivial⟩<;>intro F wF hER hk
 exact dm (hk.qi 0)
 exact dm (hk.qi 1)
 exact Nc_ (hk.qe 1) qz
 exact Fe_ fld29_3 (hk.qe 2) qz
 exact dm (hk.qi 0)
 exact wl_nilCheckI (by decide) (hk.qe 4) qz
 have e36:=hk.qe 5
 exact wl_makeFunc (first := [.tmp 36]) (cap := []) (by decide) (by simp only [evs, ev, e36]; rfl) rfl qz
 intro F wD hED hini hdo
 refine wl_drop [(31, _), (34, _), (37, _)] ⟨dr hdo 0, dr hdo 3, dr hdo 6, trivial⟩ ?_
 clear hini hdo
 replace hFr:=hFr.ext hED
 replace q4:=q4.ext hED
 have q5:=hED
 replace hp:=hp.ext hED
 have hcl:=rListI_ok (X := (fun cs => X (([iv x3, .slice B5 x5.length d5, iv x6]) ++ (cs ++ ([]))))) (pX := (pX.add 3)) (p := numP) (most := 7) (FV := .func (.method "bastide/note.num") [Value.iface 101 (pt gr 0)].toArray ([] : List Value).toArray) hp (hS.sub ([iv x3, .slice B5 x5.length d5, iv x6]) ([]) rfl) (hl6.ext q5) (fun w1 F1 H1 X pa A c l bad hF hp hS hl => RetV.meth (vs := [.pointer (some pa)]) mt188 (nNum_ok (v0 := 0) hp hS hl (by unfold i64; omega))) (by decide)
 refine Cl_ cl114 rfl hcl ?_
 clear hcl
 rintro _ w7 ⟨F7, A7, c7, l7, b7, cs7, x7, hp7, hF7, hl7, hrd7, hst7⟩
 obtain ⟨B7, d7, rfl, hg7⟩ := hrd7
 replace hg7:=hg7.ints
 replace hFr:=hFr.fr hF7
 replace q4:=q4.fr hF7
 replace hp:=hp7
 refine go ?_
 refine wk_post0 (.inr rfl) results108  ?_
 exact ⟨_, rfl, _, A7, c7, l7, b7, _, ({ err := x3, data := x5, epoch := x6, nodes := x7 } : Ans), (((hp.up 2 rfl).tail.up 1 rfl).up 1 rfl), hFr, hl7, ⟨⟨hI3, hI6⟩, _, _, _, _, rfl, (hg5.fr q4), hg7⟩, StepP.bind hst3 (StepP.bind hst5 (StepP.bind hst6 (StepP.bind hst7 (StepP.pure _ _))))⟩
set_option maxHeartbeats 40000000 in
theorem gChange_ok {gw : Nat} {out : List UInt8} {pa : Addr} {cs : List Value} {x : Chn} (hp : HP w0 M0 Fz w (itB gw 89 [.slice A out.length c] :: itR 5 1 A out.length c (out.map bv) :: H)) (hatx : AtF Fz w pa cs) (hrd : changeR.rd Fz w cs x) (hok : changeOk x) (hlen : out.length + (changeE x).length ≤ 1000000) : Ret prog 57 #[.iface 87 (.pointer (some ⟨gw, 0, none⟩)), .pointer (some pa)] w (WrP 5 89 gw w0 M0 Fz w H (out ++ changeE x)) := by
 have hFr:=Frz.start Fz w
 obtain ⟨hIx, B0, d0, B1, d1, B2, d2, rfl, hx0, hx1, hx2⟩ := hrd
 refine ret_of_wk func57 rfl ntmps57 leB_ ?_
 refine go ?_
 refine wl_hbox (by decide) rfl hp ?_
 rintro gs2 wc1 hpc1 hEc1
 replace hFr:=hFr.ext hEc1
 have q0:=hEc1
 replace hp:=hpc1
 obtain ⟨Fzc, hpc2, hsc2, hcap⟩ := (hp.as_ (H' := itB gs2 123 [.iface 87 (pt gw 0)] :: _) rfl).frzBlk
 replace hp:=hpc2
 replace hFr:=hFr.wid hsc2
 have q1:=hatx.tk.ext q0
 replace q1:=q1.wid hsc2
 refine go ?_
 apply wdT 7 [.eq _,.eq _,.eq _,.eq _,.eq _,.eq _,.eq _]
 refine ⟨?_,?_,?_,?_,?_,?_,?_,trivial⟩<;>intro F wF hER hk
 exact Ld_ sc123 (hk.qi 2) (hcap.ext hER).head qz
 exact dm (hk.qi 1)
 exact Nc_ (hk.qe 1) qz
 exact Fe_ fld33_0 (hk.qe 2) qz
 have e4:=hk.qe 0
 exact wl_makeFunc (first := [.tmp 4]) (cap := []) (by decide) (by simp only [evs, ev, e4]; rfl) rfl qz
 exact wl_nilCheckM (t := 87) (by decide) mt177 (hk.qe 4) qz
 exact dm (hk.qe 0)
 intro F wD hED hini hdo
 refine wl_drop [(1, _), (2, _), (7, _), (10, _)] ⟨di hini 1, di hini 2, dr hdo 3, dr hdo 6, trivial⟩ ?_
 clear hini hdo
 replace hFr:=hFr.ext hED
 replace q1:=q1.ext hED
 have q2:=hED
 replace hp:=hp.ext hED
 have hcl:=gNum_ok hp ((hatx.fr q1).sub 0 1) hok.1 (by simp only [changeE, List.length_append] at hlen ⊢; omega)
 refine wl_invoke (t := 87) (name := "bastide/note.num") (f := 177) (by decide) mt177 rfl rfl hcl ?_
 clear hcl
 rintro _ w1 ⟨A1, c1, hp1, hF1⟩
 replace hFr:=hFr.fr hF1
 replace q1:=q1.fr hF1
 have q3:=hcap.tk.ext q2
 replace q3:=q3.fr hF1
 replace hp:=hp1
 refine go ?_
 apply wdT 7 [.eq _,.eq _,.eq _,.eq _,.eq _,.eq _,.eq _]
 refine ⟨?_,?_,?_,?_,?_,?_,?_,trivial⟩<;>intro F wF hER hk
 exact Ld_ sc123 (hk.qi 2) ((hcap.fr q3).ext hER).head qz
 exact dm (hk.qi 1)
 exact Nc_ (hk.qe 1) qz
 exact Fe_ fld33_1 (hk.qe 2) qz
 have e12:=hk.qe 0
 exact wl_makeFunc (first := [.tmp 12]) (cap := []) (by decide) (by simp only [evs, ev, e12]; rfl) rfl qz
 exact wl_nilCheckM (t := 87) (by decide) mt177 (hk.qe 4) qz
 exact dm (hk.qe 0)
 intro F wD hED hini hdo
 refine wl_drop [(1, _), (2, _), (15, _), (18, _)] ⟨di hini 1, di hini 2, dr hdo 3, dr hdo 6, trivial⟩ ?_
 clear hini hdo
 replace hFr:=hFr.ext hED
 replace q1:=q1.ext hED
 replace q3:=q3.ext hED
 replace hp:=hp.ext hED
 have hcl:=gNum_ok hp ((hatx.fr q1).sub 1 1) hok.2.1 (by simp only [changeE, List.length_append] at hlen ⊢; omega)
 refine wl_invoke (t := 87) (name := "bastide/note.num") (f := 177) (by decide) mt177 rfl rfl hcl ?_
 clear hcl
 rintro _ w2 ⟨A2, c2, hp2, hF2⟩
 replace hFr:=hFr.fr hF2
 replace q1:=q1.fr hF2
 replace q3:=q3.fr hF2
 replace hp:=hp2
 refine go ?_
 apply wdT 7 [.eq _,.eq _,.eq _,.eq _,.eq _,.eq _,.eq _]
 refine ⟨?_,?_,?_,?_,?_,?_,?_,trivial⟩<;>intro F wF hER hk
 exact Ld_ sc123 (hk.qi 2) ((hcap.fr q3).ext hER).head qz
 exact dm (hk.qi 1)
 exact Nc_ (hk.qe 1) qz
 exact Fe_ fld33_2 (hk.qe 2) qz
 have e20:=hk.qe 0
 exact wl_makeFunc (first := [.tmp 20]) (cap := []) (by decide) (by simp only [evs, ev, e20]; rfl) rfl qz
 exact wl_nilCheckM (t := 87) (by decide) mt177 (hk.qe 4) qz
 exact dm (hk.qe 0)
 intro F wD hED hini hdo
 refine wl_drop [(1, _), (2, _), (23, _), (26, _)] ⟨di hini 1, di hini 2, dr hdo 3, dr hdo 6, trivial⟩ ?_
 clear hini hdo
 replace hFr:=hFr.ext hED
 replace q1:=q1.ext hED
 replace q3:=q3.ext hED
 replace hp:=hp.ext hED
 have hcl:=gNum_ok hp ((hatx.fr q1).sub 2 1) hok.2.2.1 (by simp only [changeE, List.length_append] at hlen ⊢; omega)
 refine wl_invoke (t := 87) (name := "bastide/note.num") (f := 177) (by decide) mt177 rfl rfl hcl ?_
 clear hcl
 rintro _ w3 ⟨A3, c3, hp3, hF3⟩
 replace hFr:=hFr.fr hF3
 replace q1:=q1.fr hF3
 replace q3:=q3.fr hF3
 replace hp:=hp3
 refine go ?_
 apply wdT 5 [.eq _,.eq _,.eq _,.eq _,.eq _]
 refine ⟨?_,?_,?_,?_,?_,trivial⟩<;>intro F wF hER hk
 exact Ld_ sc123 (hk.qi 2) ((hcap.fr q3).ext hER).head qz
 exact dm (hk.qi 1)
 exact Nc_ (hk.qe 1) qz
 exact Fe_ fld33_3 (hk.qe 2) qz
 have e2:=hk.qi 2
 exact wl_makeFunc (first := []) (cap := [.tmp 2]) (by decide) rfl (by simp only [evs, ev, e2]; rfl) qz
 intro F wD hED hini hdo
 refine wl_drop [(1, _), (2, _), (28, _), (31, _), (32, _)] ⟨di hini 1, di hini 2, dr hdo 0, dr hdo 3, dr hdo 4, trivial⟩ ?_
 clear hini hdo
 replace hFr:=hFr.ext hED
 replace q1:=q1.ext hED
 replace q3:=q3.ext hED
 replace hp:=hp.ext hED
 have hcl:=gListM_ok (E := markE) (ok := markOk) (FV := .func (.func 96) ([] : List Value).toArray [Value.pointer (some ⟨gs2, 0, none⟩)].toArray) (most := 5) hp ((hatx.fr q1).sub 3 1) (hx0.fr q1) (hok.2.2.2.1).2 (fun w1 H1 A c out pa cs x hF hp hat hrd hok hlen => RetV.func (first := []) (cap := [pt gs2 0]) (vs := [.pointer (some pa)]) cl96 (gMark_ok hp hat hrd hok hlen ((hcap.fr q3).frz hF))) (by have := (hok.2.2.2.1).1; unfold isNum; omega) (by simp only [changeE, List.length_append] at hlen ⊢; omega)
 refine Cl_ cl95 rfl hcl ?_
 clear hcl
 rintro _ w4 ⟨A4, c4, hp4, hF4⟩
 replace hFr:=hFr.fr hF4
 replace q1:=q1.fr hF4
 replace q3:=q3.fr hF4
 replace hp:=hp4
 refine go ?_
 apply wdT 6 [.eq _,.eq _,.eq _,.eq _,.eq _,SP.clo _ 123 132 [.iface 87 (pt gw 0)]]
 refine ⟨?_,?_,?_,?_,?_,?_,trivial⟩<;>intro F wF hER hk
 exact Ld_ sc123 (hk.qi 2) ((hcap.fr q3).ext hER).head qz
 exact dm (hk.qi 1)
 exact Nc_ (hk.qe 1) qz
 exact Fe_ fld33_4 (hk.qe 2) qz
 exact Ld_ sc123 (hk.qi 2) ((hcap.fr q3).ext hER).head qz
 have e38:=hk.qe 4
 have hcl:=nStand_ok (w := wF) (t := 87) (v0 := pt gw 0)
 refine Cl_ cl98 (by simp only [evs, ev, e38]; first | done | rfl) hcl ?_
 clear hcl
 rintro _ w7 ⟨g7, rfl, hg7, hb7, hE7⟩
 exact qz ⟨hE7, g7, rfl, Nat.le_trans hER.size hg7, hb7⟩
 intro F wD hED hini hdo
 have e1:=di hini 1
 have e2:=di hini 2
 have e34:=dr hdo 0
 have e37:=dr hdo 3
 obtain ⟨u39, e39, h39⟩ := hdo 5 39 (Nat.lt_of_lt_of_eq (by decide) rfl) rfl
 obtain ⟨g39, rfl, hge39, hb39⟩ := h39
 refine wl_drop [(1, _), (2, _), (34, _), (37, _), (39, _)] ⟨e1, e2, e34, e37, e39, trivial⟩ ?_
 clear e1 e2 e34 e37 e39 hini hdo
 obtain ⟨Fz5, hp5, hsub5, hnew5, hup5⟩ := hp.frz hED
 replace hp:=hp5
 replace hFr:=(hFr.ext hED).wid hsub5
 replace q1:=(q1.ext hED).wid hsub5
 replace q3:=(q3.ext hED).wid hsub5
 have hBq39 : Blk wD g39 123 [.iface 87 (pt gw 0)] := hb39
 have hcq39 : AtF Fz5 wD ⟨g39, 0, none⟩ [.iface 87 (pt gw 0)] := ⟨hBq39.at0, hnew5 _ hge39 hBq39.lt, hBq39.lt⟩
 have hcl:=gListS_ok (E := standE) (ok := standOk) (FV := .func (.func 132) ([] : List Value).toArray [Value.pointer (some ⟨g39, 0, none⟩)].toArray) (most := 8) hp ((hatx.fr q1).sub 4 1) (hx1.fr q1) (hok.2.2.2.2.1).2 (fun w1 H1 A c out pa cs x hF hp hat hrd hok hlen => RetV.func (first := []) (cap := [pt g39 0]) (vs := [.pointer (some pa)]) cl132 (gStand_ok hp hat hrd hok hlen (hcq39.frz hF))) (by have := (hok.2.2.2.2.1).1; unfold isNum; omega) (by simp only [changeE, List.length_append] at hlen ⊢; omega)
 refine Cl_ cl97 rfl hcl ?_
 clear hcl
 rintro _ w6 ⟨A6, c6, hp6, hF6⟩
 replace hFr:=hFr.fr hF6
 replace q1:=q1.fr hF6
 replace q3:=q3.fr hF6
 replace hp:=hp6
 refine go ?_
 apply wdT 6 [.eq _,.eq _,.eq _,.eq _,.eq _,SP.clo _ 123 132 [.iface 87 (pt gw 0)]]
 refine ⟨?_,?_,?_,?_,?_,?_,trivial⟩<;>intro F wF hER hk
 exact Ld_ sc123 (hk.qi 2) ((hcap.fr q3).ext hER).head qz
 exact dm (hk.qi 1)
 exact Nc_ (hk.qe 1) qz
 exact Fe_ fld33_5 (hk.qe 2) qz
 exact Ld_ sc123 (hk.qi 2) ((hcap.fr q3).ext hER).head qz
 have e45:=hk.qe 4
 have hcl:=nStand_ok (w := wF) (t := 87) (v0 := pt gw 0)
 refine Cl_ cl98 (by simp only [evs, ev, e45]; first | done | rfl) hcl ?_
 clear hcl
 rintro _ w7 ⟨g7, rfl, hg7, hb7, hE7⟩
 exact qz ⟨hE7, g7, rfl, Nat.le_trans hER.size hg7, hb7⟩
 intro F wD hED hini hdo
 have e41:=dr hdo 0
 have e44:=dr hdo 3
 obtain ⟨u46, e46, h46⟩ := hdo 5 46 (Nat.lt_of_lt_of_eq (by decide) rfl) rfl
 obtain ⟨g46, rfl, hge46, hb46⟩ := h46
 refine wl_drop [(41, _), (44, _), (46, _)] ⟨e41, e44, e46, trivial⟩ ?_
 clear e41 e44 e46 hini hdo
 obtain ⟨Fz7, hp7, hsub7, hnew7, hup7⟩ := hp.frz hED
 replace hp:=hp7
 replace hFr:=(hFr.ext hED).wid hsub7
 replace q1:=(q1.ext hED).wid hsub7
 have hBq46 : Blk wD g46 123 [.iface 87 (pt gw 0)] := hb46
 have hcq46 : AtF Fz7 wD ⟨g46, 0, none⟩ [.iface 87 (pt gw 0)] := ⟨hBq46.at0, hnew7 _ hge46 hBq46.lt, hBq46.lt⟩
 have hcl:=gListS_ok (E := standE) (ok := standOk) (FV := .func (.func 132) ([] : List Value).toArray [Value.pointer (some ⟨g46, 0, none⟩)].toArray) (most := 32) hp ((hatx.fr q1).sub 5 1) (hx2.fr q1) (hok.2.2.2.2.2).2 (fun w1 H1 A c out pa cs x hF hp hat hrd hok hlen => RetV.func (first := []) (cap := [pt g46 0]) (vs := [.pointer (some pa)]) cl132 (gStand_ok hp hat hrd hok hlen (hcq46.frz hF))) (by have := (hok.2.2.2.2.2).1; unfold isNum; omega) (by simp only [changeE, List.length_append] at hlen ⊢; omega)
 refine Cl_ cl97 rfl hcl ?_
 clear hcl
 rintro _ w8 ⟨A8, c8, hp8, hF8⟩
 replace hFr:=hFr.fr hF8
 replace hp:=hp8
 refine go ?_
 refine wk_post0 (.inr rfl) results57  ?_
 rw [show out ++ changeE x = ((((((out ++ numE x.node) ++ numE x.view) ++ numE x.low) ++ listE markE x.marks) ++ listE standE x.p) ++ listE standE x.q) from by simp only [changeE, ← List.append_assoc]]
 exact ⟨_, rfl, _, _, hp.less hFr.sub, hFr.chg, fun _ h => h⟩
set_option maxHeartbeats 40000000 in
theorem gAnswer_ok {gw : Nat} {out : List UInt8} {pa : Addr} {cs : List Value} {x : Ans} (hp : HP w0 M0 Fz w (itB gw 89 [.slice A out.length c] :: itR 5 1 A out.length c (out.map bv) :: H)) (hatx : AtF Fz w pa cs) (hrd : ansR.rd Fz w cs x) (hok : ansOk x) (hlen : out.length + (ansE x).length ≤ 1000000) (hmb : MutF Fz w pa.block) : Ret prog 108 #[.iface 87 (.pointer (some ⟨gw, 0, none⟩)), .pointer (some pa)] w (WrP 5 89 gw w0 M0 Fz w H (out ++ ansE x)) := by
 have hFr:=Frz.start Fz w
 obtain ⟨hIx, B0, d0, B1, d1, rfl, hx0, hx1⟩ := hrd
 refine ret_of_wk func108 rfl ntmps108 leB_ ?_
 refine go ?_
 refine Fe_ fld29_0 rfl ?_
 refine Ld_ sc25 rfl (hatx.get rfl) ?_
 refine wl_halloc (z := iv 0) (by decide) (by kernel_rfl) hp ?_
 rintro gs4 w1 hp1 hE1
 replace hFr:=hFr.ext hE1
 have q0:=hE1
 replace hp:=hp1
 refine wl_hstore1 (i := 0) rfl rfl hp rfl sz3 (Nat.lt_of_lt_of_le (Nat.lt_succ_self _) leB_) rfl ?_
 rintro w2 hp2 hC2
 replace hFr:=hFr.fz hC2
 have q1:=hatx.tk.ext q0
 replace q1:=q1.fz hC2
 replace hp:=hp2
 obtain ⟨Fz3, hp3, hs3, hat3⟩ := (hp.as_ (H' := itB gs4 3 [iv x.err] :: _) rfl).frzBlk
 replace hp:=hp3
 replace hFr:=hFr.wid hs3
 replace q1:=q1.wid hs3
 refine go ?_
 have hcl:=gNum_ok hp (hat3) hok.1 (by simp only [ansE, List.length_append] at hlen ⊢; omega)
 refine wl_invoke (t := 87) (name := "bastide/note.num") (f := 177) (by decide) mt177 rfl rfl hcl ?_
 clear hcl
 rintro _ w4 ⟨A4, c4, hp4, hF4⟩
 replace hFr:=hFr.fr hF4
 replace q1:=q1.fr hF4
 have q2:=hat3.tk.fr hF4
 replace hp:=hp4
 refine go ?_
 refine Ld_ sc3 rfl (hat3.fr q2).head (go ?_)
 refine Fe_ fld29_0 rfl ?_
 refine wl_sameF rfl rfl ((hatx.fr q1).sub 0 1) (by rw [block_add]; exact (hmb.fr q1)) sz25 rfl rfl ?_
 refine go ?_
 apply wdT 7 [.eq _,.eq _,.eq _,.eq _,.eq _,.eq _,.eq _]
 refine ⟨?_,?_,?_,?_,?_,?_,?_,trivial⟩<;>intro F wF hER hk
 exact dm (hk.qi 0)
 exact dm (hk.qi 1)
 exact Nc_ (hk.qe 1) qz
 exact Fe_ fld29_1 (hk.qe 2) qz
 have e15:=hk.qe 0
 exact wl_makeFunc (first := [.tmp 15]) (cap := []) (by decide) (by simp only [evs, ev, e15]; rfl) rfl qz
 exact wl_nilCheckM (t := 87) (by decide) mt178 (hk.qe 4) qz
 exact dm (hk.qe 0)
 intro F wD hED hini hdo
 refine wl_drop [(0, _), (1, _), (18, _), (21, _)] ⟨di hini 0, di hini 1, dr hdo 3, dr hdo 6, trivial⟩ ?_
 clear hini hdo
 replace hFr:=hFr.ext hED
 replace q1:=q1.ext hED
 replace hp:=hp.ext hED
 have hcl:=gStr_ok (v9 := iv 16) hp ((hatx.fr q1).sub 1 1) (hx0.fr q1) (by have := hok.2.1; omega) (by simp only [ansE, List.length_append] at hlen ⊢; omega)
 refine wl_invoke (t := 87) (name := "bastide/note.str") (f := 178) (by decide) mt178 rfl rfl hcl ?_
 clear hcl
 rintro _ w5 ⟨A5, c5, hp5, hF5⟩
 replace hFr:=hFr.fr hF5
 replace q1:=q1.fr hF5
 replace hp:=hp5
 refine go ?_
 apply wdT 7 [.eq _,.eq _,.eq _,.eq _,.eq _,.eq _,.eq _]
 refine ⟨?_,?_,?_,?_,?_,?_,?_,trivial⟩<;>intro F wF hER hk
 exact dm (hk.qi 0)
 exact dm (hk.qi 1)
 exact Nc_ (hk.qe 1) qz
 exact Fe_ fld29_2 (hk.qe 2) qz
 have e23:=hk.qe 0
 exact wl_makeFunc (first := [.tmp 23]) (cap := []) (by decide) (by simp only [evs, ev, e23]; rfl) rfl qz
 exact wl_nilCheckM (t := 87) (by decide) mt177 (hk.qe 4) qz
 exact dm (hk.qe 0)
 intro F wD hED hini hdo
 refine wl_drop [(0, _), (1, _), (26, _), (29, _)] ⟨di hini 0, di hini 1, dr hdo 3, dr hdo 6, trivial⟩ ?_
 clear hini hdo
 replace hFr:=hFr.ext hED
 replace q1:=q1.ext hED
 replace hp:=hp.ext hED
 have hcl:=gNum_ok hp ((hatx.fr q1).sub 2 1) hok.2.2.1 (by simp only [ansE, List.length_append] at hlen ⊢; omega)
 refine wl_invoke (t := 87) (name := "bastide/note.num") (f := 177) (by decide) mt177 rfl rfl hcl ?_
 clear hcl
 rintro _ w6 ⟨A6, c6, hp6, hF6⟩
 replace hFr:=hFr.fr hF6
 replace q1:=q1.fr hF6
 replace hp:=hp6
 refine go ?_
 apply wdT 7 [.eq _,.eq _,.eq _,.eq _,.eq _,.eq _,.eq _]
 refine ⟨?_,?_,?_,?_,?_,?_,?_,trivial⟩<;>intro F wF hER hk
 exact dm (hk.qi 0)
 exact dm (hk.qi 1)
 exact Nc_ (hk.qe 1) qz
 exact Fe_ fld29_3 (hk.qe 2) qz
 exact dm (hk.qi 0)
 exact wl_nilCheckI (by decide) (hk.qe 4) qz
 have e36:=hk.qe 5
 exact wl_makeFunc (first := [.tmp 36]) (cap := []) (by decide) (by simp only [evs, ev, e36]; rfl) rfl qz
 intro F wD hED hini hdo
 refine wl_drop [(31, _), (34, _), (37, _)] ⟨dr hdo 0, dr hdo 3, dr hdo 6, trivial⟩ ?_
 clear hini hdo
 replace hFr:=hFr.ext hED
 replace q1:=q1.ext hED
 replace hp:=hp.ext hED
 have hcl:=gListI_ok (E := numE) (ok := isNum) (FV := .func (.method "bastide/note.num") [Value.iface 87 (pt gw 0)].toArray ([] : List Value).toArray) (most := 7) hp ((hatx.fr q1).sub 3 1) (hx1.fr q1) (hok.2.2.2).2 (fun w1 H1 A c out pa cs x hF hp hat hrd hok hlen => by
   obtain rfl : _ = _ := hrd
   exact RetV.meth (vs := [.pointer (some pa)]) mt177 (gNum_ok hp hat hok hlen)) (by have := (hok.2.2.2).1; unfold isNum; omega) (by simp only [ansE, List.length_append] at hlen ⊢; omega)
 refine Cl_ cl114 rfl hcl ?_
 clear hcl
 rintro _ w7 ⟨A7, c7, hp7, hF7⟩
 replace hFr:=hFr.fr hF7
 replace hp:=hp7
 refine go ?_
 refine wk_post0 (.inr rfl) results108  ?_
 rw [show out ++ ansE x = ((((out ++ numE x.err) ++ strE x.data) ++ numE x.epoch) ++ listE numE x.nodes) from by simp only [ansE, ← List.append_assoc]]
 exact ⟨_, rfl, _, _, hp.less hFr.sub, hFr.chg, fun _ h => h⟩
theorem num_good {n : Int} (h : isNum n) : numS n = (numE n, 0) := by unfold isNum at h; rw [numS, if_neg (by omega)]; rfl
theorem str_good {s : List UInt8} (h : s.length ≤ 65536) : strS s = (strE s, 0) := by rw [strS, if_neg (by omega)]; rfl
theorem nums_len {l : List Int} (h : ∀ x ∈ l, isNum x) (k : Nat) : (flatE numE (l.take k)).length ≤ l.length * 8 := by
 have := flatE_len numE (l.take k) 8 (fun x hx => numE_len (h x (List.mem_of_mem_take hx)))
 rw [List.length_take] at this
 omega
theorem wish_parts (x : Wsh) : [flatE numE [x.kind, x.client, x.stamp, x.group, x.epoch, x.block], strE x.data, flatE numE [x.old, x.new, (x.next.length : Int)], flatE numE x.next].flatten = wishE x := by
 simp only [flatE, List.map_cons, List.map_nil, List.flatten_cons, List.flatten_nil, List.append_nil, wishE, listE, List.append_assoc]
theorem nums_ok {l : List Int} {Sa : Nat → Prop} (h : GS intR Sa w A c l) (hok : ∀ x ∈ l, isNum x) (hb : l.length ≤ 1000) : Ret prog 182 #[.slice A l.length c] w (fun v w' => ∃ A' c', v = .slice A' (flatE numE l).length c' ∧ OwnB 5 w.heap.size w' A' c' (flatE numE l) ∧ Ext w w') := by
 refine ret_of_wk func182 rfl ntmps182 leB_ ?_
 refine go ?_
 refine Ln_ underlying27 rfl (go ?_)
 refine wc_loop (fun L' w' mes => ∃ (k : Nat), ∃ (A2 : Option Addr), ∃ (c2 : Nat), L' = [(3, .slice A2 (flatE numE (l.take k)).length c2), (8, .slice A l.length c), (9, iv (l.length : Int)), (10, iv (k : Int))] ∧ (k ≤ l.length) ∧ (OwnB 5 w.heap.size w' A2 c2 (flatE numE (l.take k))) ∧ (Ext w w') ∧ l.length - k = mes) [(3, .slice _ (flatE numE (l.take 0)).length _), (8, .slice A l.length c), (9, iv (l.length : Int)), (10, iv (0 : Int))] (l.length - 0) (by
     refine ⟨0, _, _, rfl, ?_, ?_, ?_, rfl⟩
     · omega
     · exact OwnRow.nil _ _ _ _ _
     · exact Chg.refl _ _) ⟨rfl, rfl, rfl, rfl, trivial⟩ ?_
 rintro _ wr _ ⟨k, A2, c2, rfl, hk, ho, hE, rfl⟩ KL1 hKL1
 refine go ?_
 refine Ls_ rfl rfl (go ?_)
 refine Cd (fun hlt => ?_) fun hlt => ?_
 have hk9 : k < l.length := by omega
 have hsucc:=flat_take numE l k hk9
 have hl8:=nums_len hok k
 refine go ?_
 refine wl_idx (r := intR) (by decide) sl27 rfl rfl (h.ext hE) k rfl (by omega) ?_
 rintro a cs hb1 _ hat rfl
 refine Ld_ sc3 rfl hat.head (go ?_)
 have hnk : isNum l[k] := hok _ (List.getElem_mem hk9)
 have hn8:=numE_len hnk
 have hcl:=num_ok (n := l[k]) (w := wr) (by unfold isNum at hnk; omega) (by unfold isNum at hnk; omega)
 refine Cl_ cl180 rfl hcl ?_
 clear hcl
 rintro _ w1 ⟨A1, c1, rfl, ho1, hE1⟩
 rw [num_good hnk] at ho1 ⊢
 refine go ?_
 refine wl_appendB (by decide) sl26 rfl rfl (ho.ext hE1) ho1.bs (by show _ + (numE l[k]).length ≤ _; omega) (Nat.le_trans hE.size hE1.size) ?_
 rintro A3 c3 w3 ho3 ch3 _
 refine go ?_
 refine wl_add (by decide) rfl rfl (w64 (by omega) (by omega)) (gl ?_)
 refine wk_drop [(3, .slice A3 (flatE numE (l.take (k + 1))).length c3), (8, .slice A l.length c), (9, iv (l.length : Int)), (10, iv ((k + 1) : Int))] ⟨(by rw [hsucc]; rfl), rfl, rfl, rfl, trivial⟩ (hKL1 _ _ (m2 := l.length - (k + 1)) ?_ ?_)
 refine ⟨(k + 1), A3, c3, rfl, ?_, ?_, ?_, rfl⟩
 omega
 rw [hsucc]; exact ho3
 exact (hE.trans hE1).own ch3 (Nat.le_refl _)
 omega
 have hkl : k = l.length := by omega
 refine go ?_
 refine P1 results182 ?_
 subst hkl
 rw [List.take_length] at ho ⊢
 exact ⟨_, rfl, A2, c2, rfl, ho, hE⟩
set_option maxHeartbeats 40000000 in
theorem wBytes_ok {csx : List Value} {x : Wsh} {Sx : Nat → Prop} (hx : wishR.rd Sx w csx x) (hm : WishMay x) : Ret prog 183 #[.agg csx.toArray] w (fun v w' => ∃ A' c', v = .tuple #[.slice A' (wishE x).length c', .int .i64 0] ∧ OwnB 5 w.heap.size w' A' c' (wishE x) ∧ Ext w w') := by
 obtain ⟨hIx, Ax0, cx0, Ax1, cx1, rfl, hx0, hx1⟩ := hx
 have mhx0:=hx0.mx
 have mhx1:=hx1.mx
 obtain ⟨⟨q0, q1, q2, q3, q4, q5, q6, q7, q8, q9⟩, hwl⟩ := wish_fine hm
 have hss : strS x.data = (strE x.data, 0) := str_good (by omega)
 have hnl : isNum (x.next.length : Int) := by have := q9.1; unfold isNum; omega
 have hok6 : ∀ y ∈ [x.kind, x.client, x.stamp, x.group, x.epoch, x.block], isNum y := by
   intro y hy
   simp only [List.mem_cons, List.not_mem_nil, or_false] at hy
   rcases hy with rfl | rfl | rfl | rfl | rfl | rfl <;> assumption
 have hok3 : ∀ y ∈ [x.old, x.new, (x.next.length : Int)], isNum y := by
   intro y hy
   simp only [List.mem_cons, List.not_mem_nil, or_false] at hy
   rcases hy with rfl | rfl | rfl <;> assumption
 have hokn : ∀ y ∈ x.next, isNum y := q9.2
 have hn7:=q9.1
 refine ret_of_wk func183 rfl ntmps183 leB_ ?_
 have hp:=HP.begin_ w
 replace hx0:=hx0.now
 replace hx1:=hx1.now
 refine go ?_
 refine wl_hbox (by decide) rfl hp ?_
 rintro gs1 w1 hp1 hE1
 have q0:=hE1
 replace hp:=hp1
 replace hp:=hp.ay (itB gs1 68 ([iv x.client, iv x.stamp, iv x.group, iv x.epoch, iv x.kind, iv x.block, .slice Ax0 x.data.length cx0, iv x.old, iv x.new, .slice Ax1 x.next.length cx1]) :: _)
 refine go ?_
 refine Hx_ ([iv x.client, iv x.stamp, iv x.group, iv x.epoch, iv x.kind, iv x.block, .slice Ax0 x.data.length cx0, iv x.old, iv x.new, .slice Ax1 x.next.length cx1]) 0 ag68 rfl hp rfl rfl rfl ?_
 have hcl:=wCheck_ok (w0 := x) ⟨hIx, _, _, _, _, rfl, (hx0.ext q0), (hx1.ext q0)⟩
 refine Cl_ cl136 rfl hcl ?_
 clear hcl
 rintro _ w2 ⟨rfl, hE2⟩
 replace q0:=q0.trans hE2
 replace hp:=hp.ext hE2
 refine go ?_
 refine Ne_ rfl rfl (go ?_)
 refine Cd (fun hc => ?_) fun hc => ?_
 exact absurd hc (by simp [hm])
 refine go ?_
 refine Fd_ 6 fld68_6 rfl rfl ?_
 refine Hl_ 0 sc26 rfl hp rfl rfl ?_
 have hcl:=str_ok (hx0.ext q0)
 refine Cl_ cl181 rfl hcl ?_
 clear hcl
 rintro _ w3 ⟨A3, c3, rfl, ho3, hE3⟩
 replace ho3:=ho3.bs
 have hsz4:=hp.chg.size
 obtain ⟨Fz4, hp4, hsub4, hnew4, hup4⟩ := hp.frz hE3
 replace hp:=hp4
 have q1:=hx0.tk.ext q0
 replace q1:=(q1.ext hE3).wid hsub4
 replace ho3:=ho3.frz hnew4
 refine go ?_
 refine Ne_ rfl rfl (go ?_)
 refine Cd (fun hc2 => ?_) fun hc2 => ?_
 exact absurd (by rw [hss]) hc2
 refine go ?_
 have hdat:=ho3
 have hnx:=(hx1.fr q1)
 apply wdL [SP.eq _, SP.eq _, SP.eq _, SP.eq _, SP.eq _, SP.eq _, SP.eq _, SP.eq _, SP.eq _, SP.eq _, SP.eq _, SP.eq _, SP.gs intR (fun _ => True) [x.kind, x.client, x.stamp, x.group, x.epoch, x.block], SP.gs byteR (fun _ => True) (flatE numE [x.kind, x.client, x.stamp, x.group, x.epoch, x.block]), SP.gs byteR (fun _ => True) (strE x.data), SP.eq _, SP.eq _, SP.eq _, SP.eq _, SP.eq _, SP.eq _, SP.eq _, SP.gs intR (fun _ => True) [x.old, x.new, (x.next.length : Int)], SP.gs byteR (fun _ => True) (flatE numE [x.old, x.new, (x.next.length : Int)]), SP.eq _, SP.eq _, SP.gs byteR (fun _ => True) (flatE numE x.next), SP.gs (sliceR byteR) (fun _ => True) [flatE numE [x.kind, x.client, x.stamp, x.group, x.epoch, x.block], strE x.data, flatE numE [x.old, x.new, (x.next.length : Int)], flatE numE x.next], SP.own 5 1 w.heap.size (wishE x).length ((wishE x).map bv), SP.own 5 1 w.heap.size (wishE x).length ((wishE x).map bv), SP.eq _]
 refine ⟨?_,?_,?_,?_,?_,?_,?_,?_,?_,?_,?_,?_,?_,?_,?_,?_,?_,?_,?_,?_,?_,?_,?_,?_,?_,?_,?_,?_,?_,?_,?_,trivial⟩<;>intro F wF hER hk
 exact Fd_ 4 fld68_4 (hk.pi 1) rfl qz
 exact Hl_ 0 sc3 (hk.pe 0) (hp.ext hER) rfl rfl qz
 exact Fd_ 0 fld68_0 (hk.pi 1) rfl qz
 exact Hl_ 0 sc3 (hk.pe 2) (hp.ext hER) rfl rfl qz
 exact Fd_ 1 fld68_1 (hk.pi 1) rfl qz
 exact Hl_ 0 sc3 (hk.pe 4) (hp.ext hER) rfl rfl qz
 exact Fd_ 2 fld68_2 (hk.pi 1) rfl qz
 exact Hl_ 0 sc3 (hk.pe 6) (hp.ext hER) rfl rfl qz
 exact Fd_ 3 fld68_3 (hk.pi 1) rfl qz
 exact Hl_ 0 sc3 (hk.pe 8) (hp.ext hER) rfl rfl qz
 exact Fd_ 5 fld68_5 (hk.pi 1) rfl qz
 exact Hl_ 0 sc3 (hk.pe 10) (hp.ext hER) rfl rfl qz
 have e22:=hk.pe 1
 have e24:=hk.pe 3
 have e26:=hk.pe 5
 have e28:=hk.pe 7
 have e30:=hk.pe 9
 have e32:=hk.pe 11
 refine wl_bsliceI (xs := [.tmp 22, .tmp 24, .tmp 26, .tmp 28, .tmp 30, .tmp 32]) (l := [x.kind, x.client, x.stamp, x.group, x.epoch, x.block]) (by decide) sl27 rfl (by simp only [evs, ev, e22, e24, e26, e28, e30, e32]; rfl) rfl (by simp) ?_
 intro g7 w7 hg7 hE7
 exact qz ⟨hE7, _, _, rfl, hg7⟩
 obtain ⟨u33, e33, h33⟩:=hk.pp 12
 obtain ⟨A33, c33, rfl, h33⟩ := h33
 have hcl:=nums_ok h33 hok6 (by first | exact leB_ | omega)
 refine Cl_ cl182 (by simp only [evs, ev, e33]; first | done | rfl) hcl ?_
 clear hcl
 rintro _ w7 ⟨A7, c7, rfl, ho7, hE7⟩
 exact qz ⟨hE7, _, _, rfl, ho7.bs.mono (fun _ _ _ => trivial)⟩
 have e5:=hk.pi 5
 have h9:=(hdat.ext hER).mono (S' := fun _ => True) (fun _ _ _ => trivial)
 rw [hss] at h9
 refine Mv_ e5 ?_
 rw [hss]
 exact qz ⟨Chg.refl _ _, _, _, rfl, h9⟩
 exact Fd_ 7 fld68_7 (hk.pi 1) rfl qz
 exact Hl_ 0 sc3 (hk.pe 15) (hp.ext hER) rfl rfl qz
 exact Fd_ 8 fld68_8 (hk.pi 1) rfl qz
 exact Hl_ 0 sc3 (hk.pe 17) (hp.ext hER) rfl rfl qz
 exact Fd_ 9 fld68_9 (hk.pi 1) rfl qz
 exact Hl_ 0 sc27 (hk.pe 19) (hp.ext hER) rfl rfl qz
 exact Ln_ underlying27 (hk.pe 20) qz
 have e37:=hk.pe 16
 have e39:=hk.pe 18
 have e42:=hk.pe 21
 refine wl_bsliceI (xs := [.tmp 37, .tmp 39, .tmp 42]) (l := [x.old, x.new, (x.next.length : Int)]) (by decide) sl27 rfl (by simp only [evs, ev, e37, e39, e42]; rfl) rfl (by simp) ?_
 intro g7 w7 hg7 hE7
 exact qz ⟨hE7, _, _, rfl, hg7⟩
 obtain ⟨u43, e43, h43⟩:=hk.pp 22
 obtain ⟨A43, c43, rfl, h43⟩ := h43
 have hcl:=nums_ok h43 hok3 (by first | exact leB_ | omega)
 refine Cl_ cl182 (by simp only [evs, ev, e43]; first | done | rfl) hcl ?_
 clear hcl
 rintro _ w7 ⟨A7, c7, rfl, ho7, hE7⟩
 exact qz ⟨hE7, _, _, rfl, ho7.bs.mono (fun _ _ _ => trivial)⟩
 exact Fd_ 9 fld68_9 (hk.pi 1) rfl qz
 exact Hl_ 0 sc27 (hk.pe 24) (hp.ext hER) rfl rfl qz
 have e46:=hk.pe 25
 have hcl:=nums_ok (hnx.ext hER) hokn (by first | exact leB_ | omega)
 refine Cl_ cl182 (by simp only [evs, ev, e46]; first | done | rfl) hcl ?_
 clear hcl
 rintro _ w7 ⟨A7, c7, rfl, ho7, hE7⟩
 exact qz ⟨hE7, _, _, rfl, ho7.bs.mono (fun _ _ _ => trivial)⟩
 obtain ⟨u34, e34, h34⟩:=hk.pp 13
 obtain ⟨A34, c34, rfl, h34⟩ := h34
 obtain ⟨u35, e35, h35⟩:=hk.pp 14
 obtain ⟨A35, c35, rfl, h35⟩ := h35
 obtain ⟨u44, e44, h44⟩:=hk.pp 23
 obtain ⟨A44, c44, rfl, h44⟩ := h44
 obtain ⟨u47, e47, h47⟩:=hk.pp 26
 obtain ⟨A47, c47, rfl, h47⟩ := h47
 refine wl_bsliceS (r := byteR) (xs := [.tmp 34, .tmp 35, .tmp 44, .tmp 47]) (ls := [flatE numE [x.kind, x.client, x.stamp, x.group, x.epoch, x.block], strE x.data, flatE numE [x.old, x.new, (x.next.length : Int)], flatE numE x.next]) (by decide) sl187 rfl (by simp only [evs, ev, e34, e35, e44, e47]; first | done | rfl) rfl (by decide) (SlicesOf.cons h34 (SlicesOf.cons h35 (SlicesOf.cons h44 (SlicesOf.cons h47 SlicesOf.nil)))) ?_
 intro g7 w7 hg7 hE7
 exact qz ⟨hE7, _, _, rfl, hg7⟩
 obtain ⟨u48, e48, h48⟩:=hk.pp 27
 obtain ⟨A48, c48, rfl, h48⟩ := h48
 have hcl:=join_ok h48 (by rw [wish_parts]; omega)
 refine Cl_ cl184 (by simp only [evs, ev, e48]; first | done | rfl) hcl ?_
 clear hcl
 rintro _ w7 ⟨A7, c7, rfl, ho7, hE7⟩
 rw [wish_parts] at ho7 ⊢
 exact qz ⟨hE7, _, _, rfl, ho7.lower (Nat.le_trans hp.chg.size hER.size)⟩
 obtain ⟨u49, e49, h49⟩:=hk.pp 28
 obtain ⟨A49, c49, rfl, h49⟩ := h49
 refine wl_assign (by decide) e49 ?_
 exact qz ⟨Chg.refl _ _, _, _, rfl, h49⟩
 exact wl_assign (by decide) rfl qz
 intro F wD hED hini hdo
 obtain ⟨u2, e2, h2⟩ := hdo 29 2 rfl
 obtain ⟨A2, c2, rfl, h2⟩ := h2
 refine wk_drop [(2, _), (3, _)] ⟨e2, dq hdo 30, trivial⟩ ?_
 clear e2 hini hdo
 replace hp:=hp.ext hED
 refine go ?_
 refine P2 results183 ?_
 exact ⟨_, rfl, A2, c2, rfl, h2, hp.chg⟩
theorem witem_len {x : Wsh} (h : WishMay x) : (witemE x).length ≤ 164 := by
 have h1 := (wish_fine h).2
 have h2 := strE_len (wishE x) (by omega)
 unfold witemE
 omega
theorem getD_may {l : List Wsh} (h : ∀ x ∈ l, WishMay x) {k : Nat} (hk : k < l.length) : WishMay (l.getD k wish0) := by
 rw [List.getD_eq_getElem?_getD, List.getElem?_eq_getElem hk]
 exact h _ (List.getElem_mem hk)
theorem flat_takeD {α : Type} (E : α → List UInt8) (l : List α) (k : Nat) (z : α) (hk : k < l.length) : flatE E (l.take (k + 1)) = flatE E (l.take k) ++ E (l.getD k z) := by
 rw [flat_take E l k hk, List.getD_eq_getElem?_getD, List.getElem?_eq_getElem hk]; rfl
set_option maxHeartbeats 40000000 in
theorem wBatch_ok {Al : Option Addr} {cl : Nat} {l : List Wsh} {Sl : Nat → Prop} (hl : GS wishR Sl w Al cl l) (hok : batchOk l) : Ret prog 179 #[.slice Al l.length cl] w (fun v w' => ∃ A' c', v = .tuple #[.slice A' (blistE l).length c', .int .i64 0] ∧ OwnB 5 w.heap.size w' A' c' (blistE l) ∧ Ext w w') := by
 have mhl:=hl.mx
 have hnl : isNum (l.length : Int) := by have := hok.1; unfold isNum; omega
 have hbl4:=hok.1
 have hbe : blistE l = numE (l.length : Int) ++ flatE witemE l := rfl
 refine ret_of_wk func179 rfl ntmps179 leB_ ?_
 have hp:=HP.begin_ w
 replace hl:=hl.now
 refine go ?_
 refine Ln_ underlying24 rfl ?_
 refine Gt_ rfl rfl (go ?_)
 refine Cd (fun hc => ?_) fun hc => ?_
 omega
 refine go ?_
 refine Ln_ underlying24 rfl ?_
 refine wl_bsliceI (xs := [.tmp 14]) (l := [(l.length : Int)]) (by decide) sl27 rfl rfl rfl leB_ ?_
 intro gb9 wb9 hbs1 hEb9
 have q0:=hEb9
 replace hp:=hp.ext hEb9
 have hn1 : flatE numE [(l.length : Int)] = numE (l.length : Int) := by simp [flatE]
 have hcl:=nums_ok (l := [(l.length : Int)]) hbs1 (by intro y hy; rw [List.mem_singleton.1 hy]; exact hnl) leB_
 refine Cl_ cl182 rfl hcl ?_
 clear hcl
 rintro _ w9 ⟨A9, c9, rfl, ho9, hE9⟩
 rw [hn1] at ho9 ⊢
 replace q0:=q0.trans hE9
 replace hp:=((hp.ownRow hE9 ho9).as_ (H' := itR 5 1 A9 (numE (l.length : Int)).length c9 ((numE (l.length : Int)).map bv) :: _) rfl)
 refine go ?_
 refine Ln_ underlying24 rfl (go ?_)
 refine wc_loop (fun L' w' mes => ∃ (k : Nat), ∃ (A2 : Option Addr), ∃ (c2 : Nat), L' = [(4, .slice A2 (numE (l.length : Int) ++ flatE witemE (l.take k)).length c2), (17, .slice Al l.length cl), (18, iv (l.length : Int)), (19, iv (k : Int))] ∧ (k ≤ l.length) ∧ (GS wishR (fun b => b < w.heap.size) w' Al cl l) ∧ (HP w (fun _ => False) (fun b => b < w.heap.size) w' (itR 5 1 A2 (numE (l.length : Int) ++ flatE witemE (l.take k)).length c2 ((numE (l.length : Int) ++ flatE witemE (l.take k)).map bv) :: [])) ∧ l.length - k = mes) [(4, .slice A9 (numE (l.length : Int) ++ flatE witemE (l.take 0)).length c9), (17, .slice Al l.length cl), (18, iv (l.length : Int)), (19, iv (0 : Int))] (l.length - 0) (by
     refine ⟨0, A9, c9, rfl, ?_, ?_, ?_, rfl⟩
     · exact Nat.zero_le _
     · exact (hl.ext q0)
     · rw [List.take_zero, flatE_nil, List.append_nil]; exact hp) ⟨(by rw [List.take_zero, flatE_nil, List.append_nil]; rfl), rfl, rfl, rfl, trivial⟩ ?_
 rintro _ wr _ ⟨k, A2, c2, rfl, hk, hl, hp, rfl⟩ KL1 hKL1
 refine go ?_
 refine Ls_ rfl rfl (go ?_)
 refine Cd (fun hk8 => ?_) fun hk8 => ?_
 have hk9 : k < l.length := by omega
 have hsucc:=flat_takeD witemE l k wish0 hk9
 refine go ?_
 obtain ⟨ae1, pe1_0, qe1_0, pe1_1, qe1_1, hAe1, hate1, hIe1, he1_0, he1_1⟩ := wishR_el hl k (by omega)
 refine wl_idx0 (by decide) sl24 rfl rfl hAe1 k rfl (by omega) ?_
 refine wl_loadA (by decide) ag68 rfl hate1.at_ rfl ?_
 refine wl_halloc (z := .agg #[iv 0, iv 0, iv 0, iv 0, iv 0, iv 0, s0, iv 0, iv 0, s0]) (by decide) (by kernel_rfl) hp ?_
 rintro gs6 w2 hp2 hE2
 have q1:=hE2
 replace hp:=hp2
 refine wl_hstore (i := 0) rfl rfl hp rfl sz68 leB_ (List.all_eq_true.1 rfl) ?_
 rintro w3 hp3 hC3
 have q2:=hl.tk.ext q1
 replace q2:=q2.fz hC3
 replace hp:=hp3
 refine go ?_
 refine Hx_ ([iv ((l.getD k wish0).client), iv ((l.getD k wish0).stamp), iv ((l.getD k wish0).group), iv ((l.getD k wish0).epoch), iv ((l.getD k wish0).kind), iv ((l.getD k wish0).block), .slice pe1_0 ((l.getD k wish0).data).length qe1_0, iv ((l.getD k wish0).old), iv ((l.getD k wish0).new), .slice pe1_1 ((l.getD k wish0).next).length qe1_1]) 0 ag68 rfl hp rfl rfl rfl ?_
 have hmx : WishMay (l.getD k wish0) := getD_may hok.2 hk9
 have hcl:=wBytes_ok (x := (l.getD k wish0)) ⟨hIe1, _, _, _, _, rfl, (he1_0.fr q2), (he1_1.fr q2)⟩ hmx
 refine Cl_ cl183 rfl hcl ?_
 clear hcl
 rintro _ w4 ⟨A4, c4, rfl, ho4, hE4⟩
 replace q2:=q2.ext hE4
 replace hp:=hp.ext hE4
 refine go ?_
 refine Ne_ rfl rfl ?_
 refine wl_re (k := 29) (v := .bool false) rfl (congrArg Value.bool (decide_eq_false (by decide))) (go ?_)
 refine wc_cond_f rfl ?_
 refine go ?_
 have hsl : (wishE (l.getD k wish0)).length ≤ 65536 := (by have := (wish_fine hmx).2; omega)
 have hcl:=str_ok ho4.bs
 rw [str_good hsl] at hcl
 dsimp only at hcl
 refine Cl_ cl181 rfl hcl ?_
 clear hcl
 rintro _ w5 ⟨A5, c5, rfl, ho5, hE5⟩
 replace q2:=q2.ext hE5
 replace hp:=hp.ext hE5
 refine go ?_
 refine Ne_ rfl rfl ?_
 refine wl_re (k := 37) (v := .bool false) rfl (congrArg Value.bool (decide_eq_false (by decide))) (go ?_)
 refine wc_cond_f rfl ?_
 refine go ?_
 have hit8:=strE_len _ hsl
 have hf8:=flatE_len witemE (l.take k) 164 (fun y hy => witem_len (hok.2 y (List.mem_of_mem_take hy)))
 rw [List.length_take] at hf8
 have hn8:=numE_len hnl
 refine wl_happendB (i := 1) (l2 := (strE (wishE (l.getD k wish0)))) (by decide) sl26 rfl rfl hp rfl ho5.bs (by rw [List.length_append]; omega) ?_
 rintro A8 c8 w6 hp6 hC6
 replace q2:=q2.fz hC6
 replace hp:=hp6
 refine go ?_
 refine wl_add (by decide) rfl rfl (w64 (by omega) (by omega)) (gl ?_)
 refine wk_drop [(4, .slice A8 (numE (l.length : Int) ++ flatE witemE (l.take (k + 1))).length c8), (17, .slice Al l.length cl), (18, iv (l.length : Int)), (19, iv ((k + 1) : Int))] ⟨(by rw [hsucc, ← List.append_assoc]; rfl), rfl, rfl, rfl, trivial⟩ (hKL1 _ _ (m2 := l.length - (k + 1)) ?_ ?_)
 refine ⟨(k + 1), A8, c8, rfl, ?_, ?_, ?_, rfl⟩
 omega
 exact (hl.fr q2)
 rw [hsucc, ← List.append_assoc]; exact hp.tail
 omega
 have hkl : k = l.length := by omega
 refine go ?_
 refine P2 results179 ?_
 subst hkl
 rw [List.take_length] at hp ⊢
 exact ⟨_, rfl, A2, c2, rfl, hp.rowLo (i := 0) rfl, hp.chg⟩
set_option maxHeartbeats 40000000 in
theorem gBatch_ok {gw : Nat} {out : List UInt8} {pa : Addr} {l : List Wsh} {B : Option Addr} {d : Nat} (hp : HP w0 M0 Fz w (itB gw 89 [.slice A out.length c] :: itR 5 1 A out.length c (out.map bv) :: H)) (hat : AtF Fz w pa [.slice B l.length d]) (hgb : GS wishR Fz w B d l) (hok : batchOk l) (hlen : out.length + (batchE l).length ≤ 1000000) : Ret prog 174 #[.pointer (some ⟨gw, 0, none⟩), .pointer (some pa)] w (WrP 5 89 gw w0 M0 Fz w H (out ++ batchE l)) := by
 have hFr:=Frz.start Fz w
 refine ret_of_wk func174 rfl ntmps174 leB_ ?_
 refine go ?_
 refine Ld_ sc24 rfl hat.head ?_
 have hcl:=wBatch_ok hgb hok
 refine Cl_ cl179 rfl hcl ?_
 clear hcl
 rintro _ w1 ⟨A1, c1, rfl, ho1, hE1⟩
 replace ho1:=ho1.bs
 have hsz2:=hp.chg.size
 obtain ⟨Fz2, hp2, hsub2, hnew2, hup2⟩ := hp.frz hE1
 replace hp:=hp2
 replace hFr:=(hFr.ext hE1).wid hsub2
 replace ho1:=ho1.frz hnew2
 refine go ?_
 refine wl_halloc (z := s0) (by decide) (by kernel_rfl) hp ?_
 rintro gs4 w3 hp3 hE3
 replace hFr:=hFr.ext hE3
 have q0:=hE3
 replace hp:=hp3
 replace hp:=hp.ay (itB gs4 26 ([s0]) :: _)
 refine wl_hstore1 (i := 0) rfl rfl hp rfl sz26 (Nat.lt_of_lt_of_le (Nat.lt_succ_self _) leB_) rfl ?_
 rintro w4 hp4 hC4
 replace hFr:=hFr.fz hC4
 have q1:=ho1.tk.ext q0
 replace q1:=q1.fz hC4
 replace hp:=hp4
 obtain ⟨Fz5, hp5, hs5, hatb⟩ := (hp.as_ (H' := itB gs4 26 [.slice A1 (blistE l).length c1] :: _) rfl).frzBlk
 replace hp:=hp5
 replace hFr:=hFr.wid hs5
 replace q1:=q1.wid hs5
 refine go ?_
 have hlb:=blist_len hok
 have hcl:=gStr_ok (v9 := iv 0) hp hatb (ho1.fr q1) (by omega) hlen
 refine Cl_ cl178 rfl hcl ?_
 clear hcl
 rintro _ w6 ⟨A6, c6, hp6, hF6⟩
 replace hFr:=hFr.fr hF6
 replace hp:=(hp6.ay (itB gw 89 [.slice A6 ((out ++ batchE l)).length c6] :: itR 5 1 A6 ((out ++ batchE l)).length c6 (((out ++ batchE l)).map bv) :: H))
 refine go ?_
 refine wk_post0 (.inr rfl) results174  ?_
 exact ⟨_, rfl, _, _, hp.less hFr.sub, hFr.chg, fun _ h => h⟩
set_option maxHeartbeats 40000000 in
theorem gShow1_ok {gw : Nat} {out : List UInt8} {pa : Addr} {pc : Addr} {cs : List Value} {x : Chn} (hp : HP w0 M0 Fz w (itB gw 89 [.slice A out.length c] :: itR 5 1 A out.length c (out.map bv) :: H)) (hatx : AtF Fz w pa cs) (hrd : changeR.rd Fz w cs x) (hok : changeOk x) (hlen : out.length + (changeE x).length ≤ 1000000) (hcap : AtF Fz w pc [.iface 87 (.pointer (some ⟨gw, 0, none⟩))]) : Ret prog 110 #[.pointer (some pa), .pointer (some pc)] w (WrP 5 89 gw w0 M0 Fz w H (out ++ changeE x)) := by
 have hFr:=Frz.start Fz w
 obtain ⟨hIx, B0, d0, B1, d1, B2, d2, rfl, hx0, hx1, hx2⟩ := hrd
 refine ret_of_wk func110 rfl ntmps110 leB_ ?_
 refine go ?_
 refine Ld_ sc123 rfl hcap.head (go ?_)
 have hcl:=gChange_ok hp (hatx) ⟨hIx, _, _, _, _, _, _, rfl, hx0, hx1, hx2⟩ hok hlen
 refine Cl_ cl57 rfl hcl ?_
 clear hcl
 rintro _ w1 ⟨A1, c1, hp1, hF1⟩
 replace hFr:=hFr.fr hF1
 replace hp:=(hp1.ay (itB gw 89 [.slice A1 ((out ++ changeE x)).length c1] :: itR 5 1 A1 ((out ++ changeE x)).length c1 (((out ++ changeE x)).map bv) :: H))
 refine go ?_
 refine wk_post0 (.inr rfl) results110  ?_
 rw [show out ++ changeE x = (out ++ changeE x) from by simp only [changeE, ← List.append_assoc]]
 exact ⟨_, rfl, _, _, hp.less hFr.sub, hFr.chg, fun _ h => h⟩
set_option maxHeartbeats 40000000 in
theorem gPick_ok {gw : Nat} {out : List UInt8} {pa : Addr} {pc : Addr} {cs : List Value} {x : Pck} (hp : HP w0 M0 Fz w (itB gw 89 [.slice A out.length c] :: itR 5 1 A out.length c (out.map bv) :: H)) (hatx : AtF Fz w pa cs) (hrd : pickR.rd Fz w cs x) (hok : pickOk x) (hlen : out.length + (pickE x).length ≤ 1000000) (hcap : AtF Fz w pc [.iface 87 (.pointer (some ⟨gw, 0, none⟩))]) : Ret prog 112 #[.pointer (some pa), .pointer (some pc)] w (WrP 5 89 gw w0 M0 Fz w H (out ++ pickE x)) := by
 have hFr:=Frz.start Fz w
 obtain ⟨hIx, B0, d0, rfl, hx0⟩ := hrd
 refine ret_of_wk func112 rfl ntmps112 leB_ ?_
 refine go ?_
 apply wdT 7 [.eq _,.eq _,.eq _,.eq _,.eq _,.eq _,.eq _]
 refine ⟨?_,?_,?_,?_,?_,?_,?_,trivial⟩<;>intro F wF hER hk
 exact Ld_ sc123 (hk.qi 1) (hcap.ext hER).head qz
 exact dm (hk.qi 0)
 exact Nc_ (hk.qe 1) qz
 exact Fe_ fld66_0 (hk.qe 2) qz
 have e3:=hk.qe 0
 exact wl_makeFunc (first := [.tmp 3]) (cap := []) (by decide) (by simp only [evs, ev, e3]; rfl) rfl qz
 exact wl_nilCheckM (t := 87) (by decide) mt177 (hk.qe 4) qz
 exact dm (hk.qe 0)
 intro F wD hED hini hdo
 refine wl_drop [(0, _), (1, _), (6, _), (9, _)] ⟨di hini 0, di hini 1, dr hdo 3, dr hdo 6, trivial⟩ ?_
 clear hini hdo
 replace hFr:=hFr.ext hED
 have q0:=hED
 replace hp:=hp.ext hED
 have hcl:=gNum_ok hp ((hatx.ext q0).sub 0 1) hok.1 (by simp only [pickE, digE, List.length_append] at hlen ⊢; omega)
 refine wl_invoke (t := 87) (name := "bastide/note.num") (f := 177) (by decide) mt177 rfl rfl hcl ?_
 clear hcl
 rintro _ w1 ⟨A1, c1, hp1, hF1⟩
 replace hFr:=hFr.fr hF1
 have q1:=hatx.tk.ext q0
 replace q1:=q1.fr hF1
 replace hp:=hp1
 refine go ?_
 apply wdT 7 [.eq _,.eq _,.eq _,.eq _,.eq _,.eq _,.eq _]
 refine ⟨?_,?_,?_,?_,?_,?_,?_,trivial⟩<;>intro F wF hER hk
 exact Ld_ sc123 (hk.qi 1) ((hcap.fr q1).ext hER).head qz
 exact dm (hk.qi 0)
 exact Nc_ (hk.qe 1) qz
 exact Fe_ fld66_1 (hk.qe 2) qz
 have e11:=hk.qe 0
 exact wl_makeFunc (first := [.tmp 11]) (cap := []) (by decide) (by simp only [evs, ev, e11]; rfl) rfl qz
 exact wl_nilCheckM (t := 87) (by decide) mt175 (hk.qe 4) qz
 exact dm (hk.qe 0)
 intro F wD hED hini hdo
 refine wl_drop [(0, _), (1, _), (14, _), (17, _)] ⟨di hini 0, di hini 1, dr hdo 3, dr hdo 6, trivial⟩ ?_
 clear hini hdo
 replace hFr:=hFr.ext hED
 replace q1:=q1.ext hED
 replace hp:=hp.ext hED
 have hcl:=gDig_ok hp ((hatx.fr q1).sub 1 32) (by simp only [pickE, digE, List.length_append] at hlen ⊢; omega)
 refine wl_invoke (t := 87) (name := "bastide/note.digest") (f := 175) (by decide) mt175 rfl rfl hcl ?_
 clear hcl
 rintro _ w2 ⟨A2, c2, hp2, hF2⟩
 replace hFr:=hFr.fr hF2
 replace q1:=q1.fr hF2
 replace hp:=hp2
 refine go ?_
 apply wdT 7 [.eq _,.eq _,.eq _,.eq _,.eq _,.eq _,.eq _]
 refine ⟨?_,?_,?_,?_,?_,?_,?_,trivial⟩<;>intro F wF hER hk
 exact Ld_ sc123 (hk.qi 1) ((hcap.fr q1).ext hER).head qz
 exact dm (hk.qi 0)
 exact Nc_ (hk.qe 1) qz
 exact Fe_ fld66_2 (hk.qe 2) qz
 have e19:=hk.qe 0
 exact wl_makeFunc (first := [.tmp 19]) (cap := []) (by decide) (by simp only [evs, ev, e19]; rfl) rfl qz
 exact wl_nilCheckM (t := 87) (by decide) mt174 (hk.qe 4) qz
 exact dm (hk.qe 0)
 intro F wD hED hini hdo
 refine wl_drop [(22, _), (25, _)] ⟨dr hdo 3, dr hdo 6, trivial⟩ ?_
 clear hini hdo
 replace hFr:=hFr.ext hED
 replace q1:=q1.ext hED
 replace hp:=hp.ext hED
 have hcl:=gBatch_ok hp ((hatx.fr q1).sub 33 1) (hx0.fr q1) hok.2.2 (by simp only [pickE, digE, List.length_append] at hlen ⊢; omega)
 refine wl_invoke (t := 87) (name := "bastide/note.batch") (f := 174) (by decide) mt174 rfl rfl hcl ?_
 clear hcl
 rintro _ w3 ⟨A3, c3, hp3, hF3⟩
 replace hFr:=hFr.fr hF3
 replace hp:=hp3
 refine go ?_
 refine wk_post0 (.inr rfl) results112  ?_
 rw [show out ++ pickE x = (((out ++ numE x.seq) ++ x.dig.l) ++ batchE x.batch) from by simp only [pickE, digE, ← List.append_assoc]]
 exact ⟨_, rfl, _, _, hp.less hFr.sub, hFr.chg, fun _ h => h⟩
end Go.Proofs.YtkdoomglflikkaaGreat
