/- Part 3 of 5 of what the proofs of chapter 12 share: the engine, then what each function computes, printed short by a program. -/
import Derived.Test.YtkdoomglflikkaaGreatYb
namespace Go.Proofs.YtkdoomglflikkaaGreat
open Go.RowKit Go.Eng _root_.Go.Proofs.Tryz
set_option maxRecDepth 100000
variable {w0 w : World} {M0 Fz : Nat → Prop} {H : List It} {A : Option Addr} {c : Nat}
set_option maxHeartbeats 40000000 in
theorem rSameLists_ok {csa : List Value} {a : Nte} {Sa : Nat → Prop} {csb : List Value} {b : Nte} {Sb : Nat → Prop} (ha : noteR.rd Sa w csa a) (hb : noteR.rd Sb w csb b) : Ret prog 50 #[.agg csa.toArray, .agg csb.toArray] w (fun v w' => v = .bool (decide (SameL a b)) ∧ Ext w w') := by
 obtain ⟨hIa, Aa0, ca0, Aa1, ca1, Aa2, ca2, Aa3, ca3, Aa4, ca4, Aa5, ca5, Aa6, ca6, Aa7, ca7, Aa8, ca8, Aa9, ca9, Aa10, ca10, rfl, ha0, ha1, ha2, ha3, ha4, ha5, ha6, ha7, ha8, ha9, ha10⟩ := ha
 obtain ⟨hIb, Ab0, cb0, Ab1, cb1, Ab2, cb2, Ab3, cb3, Ab4, cb4, Ab5, cb5, Ab6, cb6, Ab7, cb7, Ab8, cb8, Ab9, cb9, Ab10, cb10, rfl, hb0, hb1, hb2, hb3, hb4, hb5, hb6, hb7, hb8, hb9, hb10⟩ := hb
 have mha0:=ha0.mx
 have mha1:=ha1.mx
 have mha2:=ha2.mx
 have mha3:=ha3.mx
 have mha4:=ha4.mx
 have mha5:=ha5.mx
 have mha6:=ha6.mx
 have mha7:=ha7.mx
 have mha8:=ha8.mx
 have mha9:=ha9.mx
 have mha10:=ha10.mx
 have mhb0:=hb0.mx
 have mhb1:=hb1.mx
 have mhb2:=hb2.mx
 have mhb3:=hb3.mx
 have mhb4:=hb4.mx
 have mhb5:=hb5.mx
 have mhb6:=hb6.mx
 have mhb7:=hb7.mx
 have mhb8:=hb8.mx
 have mhb9:=hb9.mx
 have mhb10:=hb10.mx
 refine ret_of_wk func50 rfl ntmps50 leB_ ?_
 have hp:=HP.begin_ w
 replace ha0:=ha0.now
 replace ha1:=ha1.now
 replace ha2:=ha2.now
 replace ha3:=ha3.now
 replace ha4:=ha4.now
 replace ha5:=ha5.now
 replace ha6:=ha6.now
 replace ha7:=ha7.now
 replace ha8:=ha8.now
 replace ha9:=ha9.now
 replace ha10:=ha10.now
 replace hb0:=hb0.now
 replace hb1:=hb1.now
 replace hb2:=hb2.now
 replace hb3:=hb3.now
 replace hb4:=hb4.now
 replace hb5:=hb5.now
 replace hb6:=hb6.now
 replace hb7:=hb7.now
 replace hb8:=hb8.now
 replace hb9:=hb9.now
 replace hb10:=hb10.now
 refine go ?_
 refine wl_hbox (by decide) rfl hp ?_
 rintro gs2 w1 hp1 hE1
 have q0:=hE1
 replace hp:=hp1
 refine wl_hbox (by decide) rfl hp ?_
 rintro gs3 w2 hp2 hE2
 replace q0:=q0.trans hE2
 replace hp:=hp2
 refine go ?_
 refine Fd_ 51 fld38_12 rfl rfl ?_
 refine Hl_ 1 sc34 rfl hp rfl rfl ?_
 refine Ln_ underlying34 rfl ?_
 refine Fd_ 51 fld38_12 rfl rfl ?_
 refine Hl_ 0 sc34 rfl hp rfl rfl ?_
 refine Ln_ underlying34 rfl ?_
 refine Ne_ rfl rfl (go ?_)
 refine Gs 17 (fun hg1 => ?_) fun hg1 => ?_
 refine go ?_
 refine wc_cond_t rfl (go ?_)
 refine P1 results50 ?_
 exact ⟨_, rfl, bool_f (fun h => by have := h.lens; omega), hp.chg⟩
 refine go ?_
 refine Fd_ 52 fld38_13 rfl rfl (go ?_)
 refine Hl_ 1 sc35 rfl hp rfl rfl (go ?_)
 refine Ln_ underlying35 rfl (go ?_)
 refine Fd_ 52 fld38_13 rfl rfl (go ?_)
 refine Hl_ 0 sc35 rfl hp rfl rfl (go ?_)
 refine Ln_ underlying35 rfl (go ?_)
 refine Ne_ rfl rfl (go ?_)
 refine Gs 26 (fun hg2 => ?_) fun hg2 => ?_
 refine go ?_
 refine wc_cond_t rfl (go ?_)
 refine P1 results50 ?_
 exact ⟨_, rfl, bool_f (fun h => by have := h.lens; omega), hp.chg⟩
 refine go ?_
 refine Fd_ 55 fld38_16 rfl rfl (go ?_)
 refine Hl_ 1 sc36 rfl hp rfl rfl (go ?_)
 refine Ln_ underlying36 rfl (go ?_)
 refine Fd_ 55 fld38_16 rfl rfl (go ?_)
 refine Hl_ 0 sc36 rfl hp rfl rfl (go ?_)
 refine Ln_ underlying36 rfl (go ?_)
 refine Ne_ rfl rfl (go ?_)
 refine Cd (fun hc3 => ?_) fun hc3 => ?_
 refine go ?_
 refine P1 results50 ?_
 exact ⟨_, rfl, bool_f (fun h => by have := h.lens; omega), hp.chg⟩
 refine go ?_
 refine wc_loop (fun L' w' mes => ∃ (k : Nat), L' = [(2, pt gs2 0), (3, pt gs3 0), (5, iv (k : Int))] ∧ (k ≤ a.changes.length) ∧ (a.changes.take k = b.changes.take k) ∧ (a.changes.length = b.changes.length ∧ a.picks.length = b.picks.length ∧ a.digs.length = b.digs.length) ∧ (GS wishR (fun b => b < w.heap.size) w' Aa0 ca0 a.batch) ∧ (GS byteR (fun b => b < w.heap.size) w' Aa1 ca1 a.ans.data) ∧ (GS intR (fun b => b < w.heap.size) w' Aa2 ca2 a.ans.nodes) ∧ (GS markR (fun b => b < w.heap.size) w' Aa3 ca3 a.change.marks) ∧ (GS standR (fun b => b < w.heap.size) w' Aa4 ca4 a.change.p) ∧ (GS standR (fun b => b < w.heap.size) w' Aa5 ca5 a.change.q) ∧ (GS changeR (fun b => b < w.heap.size) w' Aa6 ca6 a.changes) ∧ (GS pickR (fun b => b < w.heap.size) w' Aa7 ca7 a.picks) ∧ (GS digR (fun b => b < w.heap.size) w' Aa8 ca8 a.digs) ∧ (GS byteR (fun b => b < w.heap.size) w' Aa9 ca9 a.data) ∧ (GS intR (fun b => b < w.heap.size) w' Aa10 ca10 a.nodes) ∧ (GS wishR (fun b => b < w.heap.size) w' Ab0 cb0 b.batch) ∧ (GS byteR (fun b => b < w.heap.size) w' Ab1 cb1 b.ans.data) ∧ (GS intR (fun b => b < w.heap.size) w' Ab2 cb2 b.ans.nodes) ∧ (GS markR (fun b => b < w.heap.size) w' Ab3 cb3 b.change.marks) ∧ (GS standR (fun b => b < w.heap.size) w' Ab4 cb4 b.change.p) ∧ (GS standR (fun b => b < w.heap.size) w' Ab5 cb5 b.change.q) ∧ (GS changeR (fun b => b < w.heap.size) w' Ab6 cb6 b.changes) ∧ (GS pickR (fun b => b < w.heap.size) w' Ab7 cb7 b.picks) ∧ (GS digR (fun b => b < w.heap.size) w' Ab8 cb8 b.digs) ∧ (GS byteR (fun b => b < w.heap.size) w' Ab9 cb9 b.data) ∧ (GS intR (fun b => b < w.heap.size) w' Ab10 cb10 b.nodes) ∧ (HP w (fun _ => False) (fun b => b < w.heap.size) w' (itB gs3 38 ([iv b.kind, iv b.from_, iv b.group, iv b.epoch, iv b.view, iv b.seq] ++ (digC b.dig ++ ([.slice Ab0 b.batch.length cb0, iv b.ans.err, .slice Ab1 b.ans.data.length cb1, iv b.ans.epoch, .slice Ab2 b.ans.nodes.length cb2, iv b.stamp, iv b.node, iv b.change.node, iv b.change.view, iv b.change.low, .slice Ab3 b.change.marks.length cb3, .slice Ab4 b.change.p.length cb4, .slice Ab5 b.change.q.length cb5, .slice Ab6 b.changes.length cb6, .slice Ab7 b.picks.length cb7, iv b.level, iv b.place, .slice Ab8 b.digs.length cb8, .slice Ab9 b.data.length cb9, .slice Ab10 b.nodes.length cb10]))) :: itB gs2 38 ([iv a.kind, iv a.from_, iv a.group, iv a.epoch, iv a.view, iv a.seq] ++ (digC a.dig ++ ([.slice Aa0 a.batch.length ca0, iv a.ans.err, .slice Aa1 a.ans.data.length ca1, iv a.ans.epoch, .slice Aa2 a.ans.nodes.length ca2, iv a.stamp, iv a.node, iv a.change.node, iv a.change.view, iv a.change.low, .slice Aa3 a.change.marks.length ca3, .slice Aa4 a.change.p.length ca4, .slice Aa5 a.change.q.length ca5, .slice Aa6 a.changes.length ca6, .slice Aa7 a.picks.length ca7, iv a.level, iv a.place, .slice Aa8 a.digs.length ca8, .slice Aa9 a.data.length ca9, .slice Aa10 a.nodes.length ca10]))) :: [])) ∧ a.changes.length - k = mes) [(2, pt gs2 0), (3, pt gs3 0), (5, iv (0 : Int))] (a.changes.length - 0) (by
     refine ⟨0, rfl, ?_, ?_, ?_, ?_, ?_, ?_, ?_, ?_, ?_, ?_, ?_, ?_, ?_, ?_, ?_, ?_, ?_, ?_, ?_, ?_, ?_, ?_, ?_, ?_, ?_, ?_, rfl⟩
     · omega
     · simp
     · omega
     · exact (ha0.ext q0)
     · exact (ha1.ext q0)
     · exact (ha2.ext q0)
     · exact (ha3.ext q0)
     · exact (ha4.ext q0)
     · exact (ha5.ext q0)
     · exact (ha6.ext q0)
     · exact (ha7.ext q0)
     · exact (ha8.ext q0)
     · exact (ha9.ext q0)
     · exact (ha10.ext q0)
     · exact (hb0.ext q0)
     · exact (hb1.ext q0)
     · exact (hb2.ext q0)
     · exact (hb3.ext q0)
     · exact (hb4.ext q0)
     · exact (hb5.ext q0)
     · exact (hb6.ext q0)
     · exact (hb7.ext q0)
     · exact (hb8.ext q0)
     · exact (hb9.ext q0)
     · exact (hb10.ext q0)
     · exact hp) ⟨rfl, rfl, rfl, trivial⟩ ?_
 rintro _ wc _ ⟨k, rfl, hk, htkc, hll, ha0, ha1, ha2, ha3, ha4, ha5, ha6, ha7, ha8, ha9, ha10, hb0, hb1, hb2, hb3, hb4, hb5, hb6, hb7, hb8, hb9, hb10, hp, rfl⟩ KL1 hKL1
 refine go ?_
 refine Fd_ 51 fld38_12 rfl rfl ?_
 refine Hl_ 1 sc34 rfl hp rfl rfl ?_
 refine Ln_ underlying34 rfl ?_
 refine Ls_ rfl rfl (go ?_)
 refine Cd (fun hc4 => ?_) fun hc4 => ?_
 refine go ?_
 obtain ⟨aw3, pw3_0, qw3_0, pw3_1, qw3_1, pw3_2, qw3_2, hAw3, hatw3, hIw3, hw3_0, hw3_1, hw3_2⟩ := changeR_el ha6 k (by omega)
 obtain ⟨aw8, pw8_0, qw8_0, pw8_1, qw8_1, pw8_2, qw8_2, hAw8, hatw8, hIw8, hw8_0, hw8_1, hw8_2⟩ := changeR_el hb6 k (by omega)
 apply wdL [.eq _,.eq _,.eq _,.eq _,.eq _,.eq _,.eq _,.eq _,.eq _,.eq _,.eq _,.eq _]
 refine ⟨?_,?_,?_,?_,?_,?_,?_,?_,?_,?_,?_,?_,trivial⟩<;>intro F wF hER hk
 exact Fd_ 51 fld38_12 (hk.qi 2) rfl qz
 exact Hl_ 1 sc34 (hk.qe 0) (hp.ext hER) rfl rfl qz
 exact dm (hk.qi 5)
 have e43:=hk.qe 1
 have e44:=hk.qe 2
 exact wl_idx0 (by decide) sl34 e43 e44 hAw3 k rfl (by omega) qz
 exact wl_loadA (by decide) ag33 (hk.qe 3) (hatw3.ext hER).at_ rfl qz
 exact Fd_ 51 fld38_12 (hk.qi 3) rfl qz
 exact Hl_ 0 sc34 (hk.qe 5) (hp.ext hER) rfl rfl qz
 exact dm (hk.qi 5)
 have e48:=hk.qe 6
 have e49:=hk.qe 7
 exact wl_idx0 (by decide) sl34 e48 e49 hAw8 k rfl (by omega) qz
 exact wl_loadA (by decide) ag33 (hk.qe 8) (hatw8.ext hER).at_ rfl qz
 have e46:=hk.qe 4
 have e51:=hk.qe 9
 have hcl:=r12SameChange_ok ⟨hIw3, _, _, _, _, _, _, rfl, (hw3_0.ext hER), (hw3_1.ext hER), (hw3_2.ext hER)⟩ ⟨hIw8, _, _, _, _, _, _, rfl, (hw8_0.ext hER), (hw8_1.ext hER), (hw8_2.ext hER)⟩
 refine Cl_ cl32 (by simp only [evs, ev, e46, e51]; first | done | rfl) hcl ?_
 clear hcl
 rintro _ w7 ⟨rfl, hE7⟩
 exact qz ⟨hE7, rfl⟩
 have e52:=hk.qe 10
 first | exact Nd_ e52 qz | exact Nn_ e52 qz
 intro F wD hED hini hdo
 refine wk_drop [(2, _), (3, _), (5, _), (53, _)] ⟨di hini 2, di hini 3, di hini 5, dq hdo 11, trivial⟩ ?_
 clear hini hdo
 have q1:=hED
 replace hp:=hp.ext hED
 refine go ?_
 refine Cd (fun hc5 => ?_) fun hc5 => ?_
 refine go ?_
 refine P1 results50 ?_
 exact ⟨_, rfl, bool_f (fun h => by obtain ⟨h1, h2, h3, _⟩ := h; simp [h1] at hg1 hg2 hc3 hc4 hc5), hp.chg⟩
 refine go ?_
 refine wl_add (by decide) rfl rfl (w64 (by omega) (by omega)) (gl ?_)
 refine wk_drop [(2, pt gs2 0), (3, pt gs3 0), (5, iv ((k + 1) : Int))] ⟨rfl, rfl, rfl, trivial⟩ (hKL1 _ _ (m2 := a.changes.length - (k + 1)) ?_ ?_)
 refine ⟨(k + 1), rfl, ?_, ?_, ?_, ?_, ?_, ?_, ?_, ?_, ?_, ?_, ?_, ?_, ?_, ?_, ?_, ?_, ?_, ?_, ?_, ?_, ?_, ?_, ?_, ?_, ?_, ?_, rfl⟩
 omega
 rw [take_snoc change0 (by omega : k < a.changes.length), take_snoc change0 (by omega : k < b.changes.length), htkc]; (try simp only [Decidable.not_not, ne_eq] at hg1 hg2 hc3 hc4 hc5); simp only [hc5]
 exact hll
 exact (ha0.ext q1)
 exact (ha1.ext q1)
 exact (ha2.ext q1)
 exact (ha3.ext q1)
 exact (ha4.ext q1)
 exact (ha5.ext q1)
 exact (ha6.ext q1)
 exact (ha7.ext q1)
 exact (ha8.ext q1)
 exact (ha9.ext q1)
 exact (ha10.ext q1)
 exact (hb0.ext q1)
 exact (hb1.ext q1)
 exact (hb2.ext q1)
 exact (hb3.ext q1)
 exact (hb4.ext q1)
 exact (hb5.ext q1)
 exact (hb6.ext q1)
 exact (hb7.ext q1)
 exact (hb8.ext q1)
 exact (hb9.ext q1)
 exact (hb10.ext q1)
 exact hp
 omega
 refine go ?_
 refine wc_loop (fun L' w' mes => ∃ (k : Nat), L' = [(2, pt gs2 0), (3, pt gs3 0), (6, iv (k : Int))] ∧ (k ≤ a.picks.length) ∧ (a.picks.take k = b.picks.take k) ∧ (a.changes = b.changes) ∧ (GS wishR (fun b => b < w.heap.size) w' Aa0 ca0 a.batch) ∧ (GS byteR (fun b => b < w.heap.size) w' Aa1 ca1 a.ans.data) ∧ (GS intR (fun b => b < w.heap.size) w' Aa2 ca2 a.ans.nodes) ∧ (GS markR (fun b => b < w.heap.size) w' Aa3 ca3 a.change.marks) ∧ (GS standR (fun b => b < w.heap.size) w' Aa4 ca4 a.change.p) ∧ (GS standR (fun b => b < w.heap.size) w' Aa5 ca5 a.change.q) ∧ (GS changeR (fun b => b < w.heap.size) w' Aa6 ca6 a.changes) ∧ (GS pickR (fun b => b < w.heap.size) w' Aa7 ca7 a.picks) ∧ (GS digR (fun b => b < w.heap.size) w' Aa8 ca8 a.digs) ∧ (GS byteR (fun b => b < w.heap.size) w' Aa9 ca9 a.data) ∧ (GS intR (fun b => b < w.heap.size) w' Aa10 ca10 a.nodes) ∧ (GS wishR (fun b => b < w.heap.size) w' Ab0 cb0 b.batch) ∧ (GS byteR (fun b => b < w.heap.size) w' Ab1 cb1 b.ans.data) ∧ (GS intR (fun b => b < w.heap.size) w' Ab2 cb2 b.ans.nodes) ∧ (GS markR (fun b => b < w.heap.size) w' Ab3 cb3 b.change.marks) ∧ (GS standR (fun b => b < w.heap.size) w' Ab4 cb4 b.change.p) ∧ (GS standR (fun b => b < w.heap.size) w' Ab5 cb5 b.change.q) ∧ (GS changeR (fun b => b < w.heap.size) w' Ab6 cb6 b.changes) ∧ (GS pickR (fun b => b < w.heap.size) w' Ab7 cb7 b.picks) ∧ (GS digR (fun b => b < w.heap.size) w' Ab8 cb8 b.digs) ∧ (GS byteR (fun b => b < w.heap.size) w' Ab9 cb9 b.data) ∧ (GS intR (fun b => b < w.heap.size) w' Ab10 cb10 b.nodes) ∧ (HP w (fun _ => False) (fun b => b < w.heap.size) w' (itB gs3 38 ([iv b.kind, iv b.from_, iv b.group, iv b.epoch, iv b.view, iv b.seq] ++ (digC b.dig ++ ([.slice Ab0 b.batch.length cb0, iv b.ans.err, .slice Ab1 b.ans.data.length cb1, iv b.ans.epoch, .slice Ab2 b.ans.nodes.length cb2, iv b.stamp, iv b.node, iv b.change.node, iv b.change.view, iv b.change.low, .slice Ab3 b.change.marks.length cb3, .slice Ab4 b.change.p.length cb4, .slice Ab5 b.change.q.length cb5, .slice Ab6 b.changes.length cb6, .slice Ab7 b.picks.length cb7, iv b.level, iv b.place, .slice Ab8 b.digs.length cb8, .slice Ab9 b.data.length cb9, .slice Ab10 b.nodes.length cb10]))) :: itB gs2 38 ([iv a.kind, iv a.from_, iv a.group, iv a.epoch, iv a.view, iv a.seq] ++ (digC a.dig ++ ([.slice Aa0 a.batch.length ca0, iv a.ans.err, .slice Aa1 a.ans.data.length ca1, iv a.ans.epoch, .slice Aa2 a.ans.nodes.length ca2, iv a.stamp, iv a.node, iv a.change.node, iv a.change.view, iv a.change.low, .slice Aa3 a.change.marks.length ca3, .slice Aa4 a.change.p.length ca4, .slice Aa5 a.change.q.length ca5, .slice Aa6 a.changes.length ca6, .slice Aa7 a.picks.length ca7, iv a.level, iv a.place, .slice Aa8 a.digs.length ca8, .slice Aa9 a.data.length ca9, .slice Aa10 a.nodes.length ca10]))) :: [])) ∧ a.picks.length - k = mes) [(2, pt gs2 0), (3, pt gs3 0), (6, iv (0 : Int))] (a.picks.length - 0) (by
     refine ⟨0, rfl, ?_, ?_, ?_, ?_, ?_, ?_, ?_, ?_, ?_, ?_, ?_, ?_, ?_, ?_, ?_, ?_, ?_, ?_, ?_, ?_, ?_, ?_, ?_, ?_, ?_, ?_, rfl⟩
     · omega
     · simp
     · exact take_all htkc (by omega) (by omega)
     · exact ha0
     · exact ha1
     · exact ha2
     · exact ha3
     · exact ha4
     · exact ha5
     · exact ha6
     · exact ha7
     · exact ha8
     · exact ha9
     · exact ha10
     · exact hb0
     · exact hb1
     · exact hb2
     · exact hb3
     · exact hb4
     · exact hb5
     · exact hb6
     · exact hb7
     · exact hb8
     · exact hb9
     · exact hb10
     · exact hp) ⟨rfl, rfl, rfl, trivial⟩ ?_
 rintro _ wp _ ⟨k, rfl, hk, htkp, hec, ha0, ha1, ha2, ha3, ha4, ha5, ha6, ha7, ha8, ha9, ha10, hb0, hb1, hb2, hb3, hb4, hb5, hb6, hb7, hb8, hb9, hb10, hp, rfl⟩ KL2 hKL2
 refine go ?_
 refine Fd_ 52 fld38_13 rfl rfl ?_
 refine Hl_ 1 sc35 rfl hp rfl rfl ?_
 refine Ln_ underlying35 rfl ?_
 refine Ls_ rfl rfl (go ?_)
 refine Cd (fun hc6 => ?_) fun hc6 => ?_
 refine go ?_
 obtain ⟨aw3, pw3_0, qw3_0, hAw3, hatw3, hIw3, hw3_0⟩ := pickR_el ha7 k (by omega)
 obtain ⟨aw8, pw8_0, qw8_0, hAw8, hatw8, hIw8, hw8_0⟩ := pickR_el hb7 k (by omega)
 apply wc_drawW 13 10 11 12 7 8 66 (.agg #[iv 0, .int .u8 0, .int .u8 0, .int .u8 0, .int .u8 0, .int .u8 0, .int .u8 0, .int .u8 0, .int .u8 0, .int .u8 0, .int .u8 0, .int .u8 0, .int .u8 0, .int .u8 0, .int .u8 0, .int .u8 0, .int .u8 0, .int .u8 0, .int .u8 0, .int .u8 0, .int .u8 0, .int .u8 0, .int .u8 0, .int .u8 0, .int .u8 0, .int .u8 0, .int .u8 0, .int .u8 0, .int .u8 0, .int .u8 0, .int .u8 0, .int .u8 0, .int .u8 0, s0] : Value).cells.toList ([iv ((a.picks.getD k pick0).seq)] ++ (digC ((a.picks.getD k pick0).dig) ++ ([.slice pw3_0 ((a.picks.getD k pick0).batch).length qw3_0]))) [SP.eq _, SP.eq _, SP.eq _, SP.eq _, SP.eq _, SP.eq _, SP.eq _, SP.eq _, SP.eq _, SP.eq _, SP.any, SP.any, SP.any] (by kernel_rfl) (by kernel_rfl) (by kernel_rfl) (by kernel_rfl) ⟨.inr (fun _ _ _ _ h => h), .inr (fun _ _ _ _ h => h), .inr (fun _ _ _ _ h => h), .inr (fun _ _ _ _ h => h), .inr (fun _ _ _ _ h => h), .inr (fun _ _ _ _ h => h), .inr (fun _ _ _ _ h => h), .inr (fun _ _ _ _ h => h), .inr (fun _ _ _ _ h => h), .inr (fun _ _ _ _ h => h), .inr (fun _ _ _ _ _ => trivial), .inr (fun _ _ _ _ _ => trivial), .inr (fun _ _ _ _ _ => trivial), trivial⟩ leB_
 refine ⟨?_,?_,?_,?_,?_,?_,?_,?_,?_,?_,?_,?_,?_,trivial⟩<;>intro F wF hER hk hEE
 have e2:=hk.qi 2
 refine Fd_ 52 fld38_13 e2 rfl ?_
 exact qz ⟨RlW.o (by decide) (by decide) (by decide) (Chg.refl _ _), rfl⟩
 have e61:=hk.qe 0
 refine Hl_ 1 sc35 e61 (hp.ext hER) rfl rfl ?_
 exact qz ⟨RlW.o (by decide) (by decide) (by decide) (Chg.refl _ _), rfl⟩
 have e6:=hk.qi 6
 refine Mv_ e6 ?_
 exact qz ⟨RlW.o (by decide) (by decide) (by decide) (Chg.refl _ _), rfl⟩
 have e62:=hk.qe 1
 have e63:=hk.qe 2
 refine wl_idx0 (by decide) sl35 e62 e63 hAw3 k rfl (by omega) ?_
 exact qz ⟨RlW.o (by decide) (by decide) (by decide) (Chg.refl _ _), rfl⟩
 have e64:=hk.qe 3
 refine wl_loadA (by decide) ag66 e64 (hatw3.ext hER).at_ rfl ?_
 exact qz ⟨RlW.o (by decide) (by decide) (by decide) (Chg.refl _ _), rfl⟩
 have e3:=hk.qi 3
 refine Fd_ 52 fld38_13 e3 rfl ?_
 exact qz ⟨RlW.o (by decide) (by decide) (by decide) (Chg.refl _ _), rfl⟩
 have e66:=hk.qe 5
 refine Hl_ 0 sc35 e66 (hp.ext hER) rfl rfl ?_
 exact qz ⟨RlW.o (by decide) (by decide) (by decide) (Chg.refl _ _), rfl⟩
 have e6:=hk.qi 6
 refine Mv_ e6 ?_
 exact qz ⟨RlW.o (by decide) (by decide) (by decide) (Chg.refl _ _), rfl⟩
 have e67:=hk.qe 6
 have e68:=hk.qe 7
 refine wl_idx0 (by decide) sl35 e67 e68 hAw8 k rfl (by omega) ?_
 exact qz ⟨RlW.o (by decide) (by decide) (by decide) (Chg.refl _ _), rfl⟩
 have e69:=hk.qe 8
 refine wl_loadA (by decide) ag66 e69 (hatw8.ext hER).at_ rfl ?_
 exact qz ⟨RlW.o (by decide) (by decide) (by decide) (Chg.refl _ _), rfl⟩
 refine wl_alloc (z := .agg #[iv 0, .int .u8 0, .int .u8 0, .int .u8 0, .int .u8 0, .int .u8 0, .int .u8 0, .int .u8 0, .int .u8 0, .int .u8 0, .int .u8 0, .int .u8 0, .int .u8 0, .int .u8 0, .int .u8 0, .int .u8 0, .int .u8 0, .int .u8 0, .int .u8 0, .int .u8 0, .int .u8 0, .int .u8 0, .int .u8 0, .int .u8 0, .int .u8 0, .int .u8 0, .int .u8 0, .int .u8 0, .int .u8 0, .int .u8 0, .int .u8 0, .int .u8 0, .int .u8 0, s0]) (by decide) (by kernel_rfl) ?_
 rintro g7 w7 hg7 hb7 hE7
 subst hg7
 exact qz ⟨RlW.a (.inl rfl) (by decide) hb7 hE7, trivial⟩
 refine wl_alloc (z := .agg #[iv 0, .int .u8 0, .int .u8 0, .int .u8 0, .int .u8 0, .int .u8 0, .int .u8 0, .int .u8 0, .int .u8 0, .int .u8 0, .int .u8 0, .int .u8 0, .int .u8 0, .int .u8 0, .int .u8 0, .int .u8 0, .int .u8 0, .int .u8 0, .int .u8 0, .int .u8 0, .int .u8 0, .int .u8 0, .int .u8 0, .int .u8 0, .int .u8 0, .int .u8 0, .int .u8 0, .int .u8 0, .int .u8 0, .int .u8 0, .int .u8 0, .int .u8 0, .int .u8 0, s0]) (by decide) (by kernel_rfl) ?_
 rintro g7 w7 hg7 hb7 hE7
 subst hg7
 exact qz ⟨RlW.a (.inr rfl) (by decide) hb7 hE7, trivial⟩
 have e65:=hk.qe 4
 obtain ⟨g7, hg7, hb7⟩ := hEE rfl
 refine wl_storeB2 hg7 e65 hb7 sz66 leB_ (List.all_eq_true.1 rfl) ?_
 intro w7 hb8 hC7
 exact wl_nil (qr_none ⟨RlW.f hg7 hC7 hb8, trivial⟩)
 intro F wD hED hini hdo hWW
 obtain ⟨gs7, gs8, hWn, hWA, hWB, e7, e8, hbA, hbB⟩ := hWW
 refine wl_drop [(2, _), (3, _), (6, _), (7, _), (8, _), (70, _)] ⟨di hini 2, di hini 3, di hini 6, e7, e8, dr hdo 9, trivial⟩ ?_
 clear e7 e8 hini hdo
 have q2:=hED
 replace hp:=hp.add2 hED hbA hbB hWn hWA hWB
 refine wl_hstore (i := 1) rfl rfl hp rfl sz66 leB_ (List.all_eq_true.1 rfl) ?_
 rintro w3 hp3 hC3
 have q3:=ha0.tk.ext q2
 replace q3:=q3.fz hC3
 replace hp:=hp3
 refine go ?_
 refine Fd_ 0 fld66_0 rfl rfl ?_
 refine Hl_ 0 sc3 rfl hp rfl rfl ?_
 refine Fd_ 0 fld66_0 rfl rfl ?_
 refine Hl_ 1 sc3 rfl hp rfl rfl ?_
 refine Ne_ rfl rfl (go ?_)
 refine Gs 76 (fun hg7 => ?_) fun hg7 => ?_
 refine go ?_
 refine wc_cond_t rfl (go ?_)
 refine P1 results50 ?_
 exact ⟨_, rfl, bool_f (fun h => by obtain ⟨h1, h2, h3, _⟩ := h; simp [h2] at hg1 hg2 hc3 hc4 hc6 hg7), hp.chg⟩
 refine go ?_
 refine Fd_ 1 fld66_1 rfl rfl (go ?_)
 refine Hx_ (digC ((a.picks.getD k pick0).dig)) 0 ag23 rfl hp rfl rfl rfl (go ?_)
 refine Fd_ 1 fld66_1 rfl rfl (go ?_)
 refine Hx_ (digC ((b.picks.getD k pick0).dig)) 1 ag23 rfl hp rfl rfl rfl (go ?_)
 refine wl_neqK (m := 6) ((a.picks.getD k pick0).dig = (b.picks.getD k pick0).dig) (by decide) key23 eg23 rfl rfl (digC_fit _) (digC_fit _) digC_inj ?_
 refine go ?_
 refine Gs 83 (fun hg8 => ?_) fun hg8 => ?_
 refine go ?_
 refine wc_cond_t rfl (go ?_)
 refine P1 results50 ?_
 exact ⟨_, rfl, bool_f (fun h => by obtain ⟨h1, h2, h3, _⟩ := h; simp [h2] at hg1 hg2 hc3 hc4 hc6 hg7 hg8), hp.chg⟩
 refine go ?_
 refine Fd_ 33 fld66_2 rfl rfl (go ?_)
 refine Hl_ 0 sc24 rfl hp rfl rfl (go ?_)
 refine Fd_ 33 fld66_2 rfl rfl (go ?_)
 refine Hl_ 1 sc24 rfl hp rfl rfl (go ?_)
 have hcl:=alike_ok (hw3_0.fr q3) (hw8_0.fr q3)
 refine Cl_ cl78 rfl hcl ?_
 clear hcl
 rintro _ w4 ⟨rfl, hE4⟩
 replace q3:=q3.ext hE4
 replace hp:=hp.ext hE4
 refine go ?_
 first | refine Nd_ rfl ?_ | refine Nn_ rfl ?_
 refine go ?_
 refine Cd (fun hc9 => ?_) fun hc9 => ?_
 refine go ?_
 refine P1 results50 ?_
 exact ⟨_, rfl, bool_f (fun h => by obtain ⟨h1, h2, h3, _⟩ := h; simp [h2] at hg1 hg2 hc3 hc4 hc6 hg7 hg8 hc9), hp.chg⟩
 refine go ?_
 refine wl_add (by decide) rfl rfl (w64 (by omega) (by omega)) (gl ?_)
 refine wk_drop [(2, pt gs2 0), (3, pt gs3 0), (6, iv ((k + 1) : Int))] ⟨rfl, rfl, rfl, trivial⟩ (hKL2 _ _ (m2 := a.picks.length - (k + 1)) ?_ ?_)
 refine ⟨(k + 1), rfl, ?_, ?_, ?_, ?_, ?_, ?_, ?_, ?_, ?_, ?_, ?_, ?_, ?_, ?_, ?_, ?_, ?_, ?_, ?_, ?_, ?_, ?_, ?_, ?_, ?_, ?_, rfl⟩
 omega
 rw [take_snoc pick0 (by omega : k < a.picks.length), take_snoc pick0 (by omega : k < b.picks.length), htkp]; (try simp only [Decidable.not_not, ne_eq] at hg1 hg2 hc3 hc4 hc6 hg7 hg8 hc9); rw [show (a.picks.getD k pick0) = (b.picks.getD k pick0) from Pck_eq.2 ⟨by simp only [hg7], by simp only [hg8], by simp only [hc9]⟩]
 exact hec
 exact (ha0.fr q3)
 exact (ha1.fr q3)
 exact (ha2.fr q3)
 exact (ha3.fr q3)
 exact (ha4.fr q3)
 exact (ha5.fr q3)
 exact (ha6.fr q3)
 exact (ha7.fr q3)
 exact (ha8.fr q3)
 exact (ha9.fr q3)
 exact (ha10.fr q3)
 exact (hb0.fr q3)
 exact (hb1.fr q3)
 exact (hb2.fr q3)
 exact (hb3.fr q3)
 exact (hb4.fr q3)
 exact (hb5.fr q3)
 exact (hb6.fr q3)
 exact (hb7.fr q3)
 exact (hb8.fr q3)
 exact (hb9.fr q3)
 exact (hb10.fr q3)
 exact hp.tail.tail
 omega
 refine go ?_
 refine wc_loop (fun L' w' mes => ∃ (k : Nat), L' = [(2, pt gs2 0), (3, pt gs3 0), (9, iv (k : Int))] ∧ (k ≤ a.digs.length) ∧ (a.digs.take k = b.digs.take k) ∧ (a.picks = b.picks) ∧ (GS wishR (fun b => b < w.heap.size) w' Aa0 ca0 a.batch) ∧ (GS byteR (fun b => b < w.heap.size) w' Aa1 ca1 a.ans.data) ∧ (GS intR (fun b => b < w.heap.size) w' Aa2 ca2 a.ans.nodes) ∧ (GS markR (fun b => b < w.heap.size) w' Aa3 ca3 a.change.marks) ∧ (GS standR (fun b => b < w.heap.size) w' Aa4 ca4 a.change.p) ∧ (GS standR (fun b => b < w.heap.size) w' Aa5 ca5 a.change.q) ∧ (GS changeR (fun b => b < w.heap.size) w' Aa6 ca6 a.changes) ∧ (GS pickR (fun b => b < w.heap.size) w' Aa7 ca7 a.picks) ∧ (GS digR (fun b => b < w.heap.size) w' Aa8 ca8 a.digs) ∧ (GS byteR (fun b => b < w.heap.size) w' Aa9 ca9 a.data) ∧ (GS intR (fun b => b < w.heap.size) w' Aa10 ca10 a.nodes) ∧ (GS wishR (fun b => b < w.heap.size) w' Ab0 cb0 b.batch) ∧ (GS byteR (fun b => b < w.heap.size) w' Ab1 cb1 b.ans.data) ∧ (GS intR (fun b => b < w.heap.size) w' Ab2 cb2 b.ans.nodes) ∧ (GS markR (fun b => b < w.heap.size) w' Ab3 cb3 b.change.marks) ∧ (GS standR (fun b => b < w.heap.size) w' Ab4 cb4 b.change.p) ∧ (GS standR (fun b => b < w.heap.size) w' Ab5 cb5 b.change.q) ∧ (GS changeR (fun b => b < w.heap.size) w' Ab6 cb6 b.changes) ∧ (GS pickR (fun b => b < w.heap.size) w' Ab7 cb7 b.picks) ∧ (GS digR (fun b => b < w.heap.size) w' Ab8 cb8 b.digs) ∧ (GS byteR (fun b => b < w.heap.size) w' Ab9 cb9 b.data) ∧ (GS intR (fun b => b < w.heap.size) w' Ab10 cb10 b.nodes) ∧ (HP w (fun _ => False) (fun b => b < w.heap.size) w' (itB gs3 38 ([iv b.kind, iv b.from_, iv b.group, iv b.epoch, iv b.view, iv b.seq] ++ (digC b.dig ++ ([.slice Ab0 b.batch.length cb0, iv b.ans.err, .slice Ab1 b.ans.data.length cb1, iv b.ans.epoch, .slice Ab2 b.ans.nodes.length cb2, iv b.stamp, iv b.node, iv b.change.node, iv b.change.view, iv b.change.low, .slice Ab3 b.change.marks.length cb3, .slice Ab4 b.change.p.length cb4, .slice Ab5 b.change.q.length cb5, .slice Ab6 b.changes.length cb6, .slice Ab7 b.picks.length cb7, iv b.level, iv b.place, .slice Ab8 b.digs.length cb8, .slice Ab9 b.data.length cb9, .slice Ab10 b.nodes.length cb10]))) :: itB gs2 38 ([iv a.kind, iv a.from_, iv a.group, iv a.epoch, iv a.view, iv a.seq] ++ (digC a.dig ++ ([.slice Aa0 a.batch.length ca0, iv a.ans.err, .slice Aa1 a.ans.data.length ca1, iv a.ans.epoch, .slice Aa2 a.ans.nodes.length ca2, iv a.stamp, iv a.node, iv a.change.node, iv a.change.view, iv a.change.low, .slice Aa3 a.change.marks.length ca3, .slice Aa4 a.change.p.length ca4, .slice Aa5 a.change.q.length ca5, .slice Aa6 a.changes.length ca6, .slice Aa7 a.picks.length ca7, iv a.level, iv a.place, .slice Aa8 a.digs.length ca8, .slice Aa9 a.data.length ca9, .slice Aa10 a.nodes.length ca10]))) :: [])) ∧ a.digs.length - k = mes) [(2, pt gs2 0), (3, pt gs3 0), (9, iv (0 : Int))] (a.digs.length - 0) (by
     refine ⟨0, rfl, ?_, ?_, ?_, ?_, ?_, ?_, ?_, ?_, ?_, ?_, ?_, ?_, ?_, ?_, ?_, ?_, ?_, ?_, ?_, ?_, ?_, ?_, ?_, ?_, ?_, ?_, rfl⟩
     · omega
     · simp
     · exact take_all htkp (by omega) (by omega)
     · exact ha0
     · exact ha1
     · exact ha2
     · exact ha3
     · exact ha4
     · exact ha5
     · exact ha6
     · exact ha7
     · exact ha8
     · exact ha9
     · exact ha10
     · exact hb0
     · exact hb1
     · exact hb2
     · exact hb3
     · exact hb4
     · exact hb5
     · exact hb6
     · exact hb7
     · exact hb8
     · exact hb9
     · exact hb10
     · exact hp) ⟨rfl, rfl, rfl, trivial⟩ ?_
 rintro _ wd _ ⟨k, rfl, hk, htkd, hep, ha0, ha1, ha2, ha3, ha4, ha5, ha6, ha7, ha8, ha9, ha10, hb0, hb1, hb2, hb3, hb4, hb5, hb6, hb7, hb8, hb9, hb10, hp, rfl⟩ KL3 hKL3
 refine go ?_
 refine Fd_ 55 fld38_16 rfl rfl ?_
 refine Hl_ 1 sc36 rfl hp rfl rfl ?_
 refine Ln_ underlying36 rfl ?_
 refine Ls_ rfl rfl (go ?_)
 refine Cd (fun hc10 => ?_) fun hc10 => ?_
 refine go ?_
 obtain ⟨aw3, hAw3, hatw3⟩ := GS.elD ha8 k (by omega)
 obtain ⟨aw8, hAw8, hatw8⟩ := GS.elD hb8 k (by omega)
 apply wdL [.eq _,.eq _,.eq _,.eq _,.eq _,.eq _,.eq _,.eq _,.eq _,.eq _,.eq _]
 refine ⟨?_,?_,?_,?_,?_,?_,?_,?_,?_,?_,?_,trivial⟩<;>intro F wF hER hk
 exact Fd_ 55 fld38_16 (hk.qi 2) rfl qz
 exact Hl_ 1 sc36 (hk.qe 0) (hp.ext hER) rfl rfl qz
 exact dm (hk.qi 9)
 have e99:=hk.qe 1
 have e100:=hk.qe 2
 exact wl_idx0 (by decide) sl36 e99 e100 hAw3 k rfl (by omega) qz
 exact wl_loadA (by decide) ag23 (hk.qe 3) ((hatw3.ext hER).at_.take 32) rfl qz
 exact Fd_ 55 fld38_16 (hk.qi 3) rfl qz
 exact Hl_ 0 sc36 (hk.qe 5) (hp.ext hER) rfl rfl qz
 exact dm (hk.qi 9)
 have e104:=hk.qe 6
 have e105:=hk.qe 7
 exact wl_idx0 (by decide) sl36 e104 e105 hAw8 k rfl (by omega) qz
 exact wl_loadA (by decide) ag23 (hk.qe 8) ((hatw8.ext hER).at_.take 32) rfl qz
 have e102:=hk.qe 4
 have e107:=hk.qe 9
 exact wl_neqK (m := 6) ((a.digs.getD k dig0) = (b.digs.getD k dig0)) (by decide) key23 eg23 e102 e107 (digC_fit _) (digC_fit _) digC_inj qz
 intro F wD hED hini hdo
 refine wk_drop [(2, _), (3, _), (9, _), (108, _)] ⟨di hini 2, di hini 3, di hini 9, dq hdo 10, trivial⟩ ?_
 clear hini hdo
 have q4:=hED
 replace hp:=hp.ext hED
 refine go ?_
 refine Cd (fun hc11 => ?_) fun hc11 => ?_
 refine go ?_
 refine P1 results50 ?_
 exact ⟨_, rfl, bool_f (fun h => by obtain ⟨h1, h2, h3, _⟩ := h; simp [h3] at hg1 hg2 hc3 hc4 hc6 hc10 hc11), hp.chg⟩
 refine go ?_
 refine wl_add (by decide) rfl rfl (w64 (by omega) (by omega)) (gl ?_)
 refine wk_drop [(2, pt gs2 0), (3, pt gs3 0), (9, iv ((k + 1) : Int))] ⟨rfl, rfl, rfl, trivial⟩ (hKL3 _ _ (m2 := a.digs.length - (k + 1)) ?_ ?_)
 refine ⟨(k + 1), rfl, ?_, ?_, ?_, ?_, ?_, ?_, ?_, ?_, ?_, ?_, ?_, ?_, ?_, ?_, ?_, ?_, ?_, ?_, ?_, ?_, ?_, ?_, ?_, ?_, ?_, ?_, rfl⟩
 omega
 rw [take_snoc dig0 (by omega : k < a.digs.length), take_snoc dig0 (by omega : k < b.digs.length), htkd]; (try simp only [Decidable.not_not, ne_eq] at hg1 hg2 hc3 hc4 hc6 hc10 hc11); simp only [hc11]
 exact hep
 exact (ha0.ext q4)
 exact (ha1.ext q4)
 exact (ha2.ext q4)
 exact (ha3.ext q4)
 exact (ha4.ext q4)
 exact (ha5.ext q4)
 exact (ha6.ext q4)
 exact (ha7.ext q4)
 exact (ha8.ext q4)
 exact (ha9.ext q4)
 exact (ha10.ext q4)
 exact (hb0.ext q4)
 exact (hb1.ext q4)
 exact (hb2.ext q4)
 exact (hb3.ext q4)
 exact (hb4.ext q4)
 exact (hb5.ext q4)
 exact (hb6.ext q4)
 exact (hb7.ext q4)
 exact (hb8.ext q4)
 exact (hb9.ext q4)
 exact (hb10.ext q4)
 exact hp
 omega
 refine go ?_
 refine Fd_ 38 fld38_7 rfl rfl ?_
 refine Hl_ 1 sc24 rfl hp rfl rfl ?_
 refine Fd_ 38 fld38_7 rfl rfl ?_
 refine Hl_ 0 sc24 rfl hp rfl rfl ?_
 have hcl:=alike_ok ha0 hb0
 refine Cl_ cl78 rfl hcl ?_
 clear hcl
 rintro _ w5 ⟨rfl, hE5⟩
 have q5:=hE5
 replace hp:=hp.ext hE5
 refine go ?_
 refine Gs 114 (fun hg12 => ?_) fun hg12 => ?_
 refine go ?_
 refine Fd_ 56 fld38_17 rfl rfl (go ?_)
 refine Hl_ 1 sc26 rfl hp rfl rfl (go ?_)
 refine Fd_ 56 fld38_17 rfl rfl (go ?_)
 refine Hl_ 0 sc26 rfl hp rfl rfl (go ?_)
 have hcl:=eqBytes_ok (ha9.ext q5) (hb9.ext q5)
 refine Cl_ cl16 rfl hcl ?_
 clear hcl
 rintro _ w6 ⟨rfl, hE6⟩
 replace q5:=q5.trans hE6
 replace hp:=hp.ext hE6
 refine go ?_
 refine Gs 121 (fun hg13 => ?_) fun hg13 => ?_
 refine go ?_
 refine Fd_ 57 fld38_18 rfl rfl (go ?_)
 refine Hl_ 1 sc27 rfl hp rfl rfl (go ?_)
 refine Fd_ 57 fld38_18 rfl rfl (go ?_)
 refine Hl_ 0 sc27 rfl hp rfl rfl (go ?_)
 have hcl:=eqInts_ok (ha10.ext q5) (hb10.ext q5)
 refine Cl_ cl49 rfl hcl ?_
 clear hcl
 rintro _ w7 ⟨rfl, hE7⟩
 replace hp:=hp.ext hE7
 refine go ?_
 refine P1 results50 ?_
 have hed:=take_all htkd (by omega) (by omega)
 exact ⟨_, rfl, congrArg Value.bool (by unfold SameL; simp [hec, hep, hed, hg12, hg13]), hp.chg⟩
 refine go ?_
 refine P1 results50 ?_
 have hed:=take_all htkd (by omega) (by omega)
 exact ⟨_, rfl, congrArg Value.bool (by unfold SameL; simp [hec, hep, hed, hg12, hg13]), hp.chg⟩
 refine go ?_
 refine P1 results50 ?_
 have hed:=take_all htkd (by omega) (by omega)
 exact ⟨_, rfl, congrArg Value.bool (by unfold SameL; simp [hec, hep, hed, hg12]), hp.chg⟩
set_option maxHeartbeats 40000000 in
theorem rSame_ok {csa : List Value} {a : Nte} {Sa : Nat → Prop} {csb : List Value} {b : Nte} {Sb : Nat → Prop} (ha : noteR.rd Sa w csa a) (hb : noteR.rd Sb w csb b) : Ret prog 17 #[.agg csa.toArray, .agg csb.toArray] w (fun v w' => v = .bool (decide (a = b)) ∧ Ext w w') := by
 obtain ⟨hIa, Aa0, ca0, Aa1, ca1, Aa2, ca2, Aa3, ca3, Aa4, ca4, Aa5, ca5, Aa6, ca6, Aa7, ca7, Aa8, ca8, Aa9, ca9, Aa10, ca10, rfl, ha0, ha1, ha2, ha3, ha4, ha5, ha6, ha7, ha8, ha9, ha10⟩ := ha
 obtain ⟨hIb, Ab0, cb0, Ab1, cb1, Ab2, cb2, Ab3, cb3, Ab4, cb4, Ab5, cb5, Ab6, cb6, Ab7, cb7, Ab8, cb8, Ab9, cb9, Ab10, cb10, rfl, hb0, hb1, hb2, hb3, hb4, hb5, hb6, hb7, hb8, hb9, hb10⟩ := hb
 have mha0:=ha0.mx
 have mha1:=ha1.mx
 have mha2:=ha2.mx
 have mha3:=ha3.mx
 have mha4:=ha4.mx
 have mha5:=ha5.mx
 have mha6:=ha6.mx
 have mha7:=ha7.mx
 have mha8:=ha8.mx
 have mha9:=ha9.mx
 have mha10:=ha10.mx
 have mhb0:=hb0.mx
 have mhb1:=hb1.mx
 have mhb2:=hb2.mx
 have mhb3:=hb3.mx
 have mhb4:=hb4.mx
 have mhb5:=hb5.mx
 have mhb6:=hb6.mx
 have mhb7:=hb7.mx
 have mhb8:=hb8.mx
 have mhb9:=hb9.mx
 have mhb10:=hb10.mx
 refine ret_of_wk func17 rfl ntmps17 leB_ ?_
 have hp:=HP.begin_ w
 replace ha0:=ha0.now
 replace ha1:=ha1.now
 replace ha2:=ha2.now
 replace ha3:=ha3.now
 replace ha4:=ha4.now
 replace ha5:=ha5.now
 replace ha6:=ha6.now
 replace ha7:=ha7.now
 replace ha8:=ha8.now
 replace ha9:=ha9.now
 replace ha10:=ha10.now
 replace hb0:=hb0.now
 replace hb1:=hb1.now
 replace hb2:=hb2.now
 replace hb3:=hb3.now
 replace hb4:=hb4.now
 replace hb5:=hb5.now
 replace hb6:=hb6.now
 replace hb7:=hb7.now
 replace hb8:=hb8.now
 replace hb9:=hb9.now
 replace hb10:=hb10.now
 refine go ?_
 refine wl_hbox (by decide) rfl hp ?_
 rintro gs2 w1 hp1 hE1
 have q0:=hE1
 replace hp:=hp1
 refine wl_hbox (by decide) rfl hp ?_
 rintro gs3 w2 hp2 hE2
 replace q0:=q0.trans hE2
 replace hp:=hp2
 refine go ?_
 refine Fd_ 0 fld38_0 rfl rfl ?_
 refine Hl_ 1 sc3 rfl hp rfl rfl ?_
 refine Fd_ 0 fld38_0 rfl rfl ?_
 refine Hl_ 0 sc3 rfl hp rfl rfl ?_
 refine Ne_ rfl rfl (go ?_)
 refine Gs 12 (fun hg1 => ?_) fun hg1 => ?_
 ·refine go ?_
  refine wc_cond_t rfl (go ?_)
  refine P1 results17 ?_
  exact ⟨_, rfl, bool_f (by (try simp only [ne_eq] at hg1); rw [Nte_eq, Ans_eq]; (try unfold SameL); simp only [hg1, false_and, not_false_eq_true]; try (constructor <;> (intro h; simp [h]))), hp.chg⟩
 refine go ?_
 refine Fd_ 1 fld38_1 rfl rfl (go ?_)
 refine Hl_ 1 sc3 rfl hp rfl rfl (go ?_)
 refine Fd_ 1 fld38_1 rfl rfl (go ?_)
 refine Hl_ 0 sc3 rfl hp rfl rfl (go ?_)
 refine Ne_ rfl rfl (go ?_)
 refine Gs 19 (fun hg2 => ?_) fun hg2 => ?_
 ·refine go ?_
  refine wc_cond_t rfl (go ?_)
  refine P1 results17 ?_
  exact ⟨_, rfl, bool_f (by (try simp only [Decidable.not_not, ne_eq] at hg1 hg2); rw [Nte_eq, Ans_eq]; (try unfold SameL); simp only [hg1, hg2, false_and, and_false, not_false_eq_true]; try (constructor <;> (intro h; simp [h]))), hp.chg⟩
 refine go ?_
 refine Fd_ 2 fld38_2 rfl rfl (go ?_)
 refine Hl_ 1 sc3 rfl hp rfl rfl (go ?_)
 refine Fd_ 2 fld38_2 rfl rfl (go ?_)
 refine Hl_ 0 sc3 rfl hp rfl rfl (go ?_)
 refine Ne_ rfl rfl (go ?_)
 refine Gs 26 (fun hg3 => ?_) fun hg3 => ?_
 ·refine go ?_
  refine wc_cond_t rfl (go ?_)
  refine P1 results17 ?_
  exact ⟨_, rfl, bool_f (by (try simp only [Decidable.not_not, ne_eq] at hg1 hg2 hg3); rw [Nte_eq, Ans_eq]; (try unfold SameL); simp only [hg1, hg2, hg3, false_and, and_false, not_false_eq_true]; try (constructor <;> (intro h; simp [h]))), hp.chg⟩
 refine go ?_
 refine Fd_ 3 fld38_3 rfl rfl (go ?_)
 refine Hl_ 1 sc3 rfl hp rfl rfl (go ?_)
 refine Fd_ 3 fld38_3 rfl rfl (go ?_)
 refine Hl_ 0 sc3 rfl hp rfl rfl (go ?_)
 refine Ne_ rfl rfl (go ?_)
 refine Gs 33 (fun hg4 => ?_) fun hg4 => ?_
 ·refine go ?_
  refine wc_cond_t rfl (go ?_)
  refine P1 results17 ?_
  exact ⟨_, rfl, bool_f (by (try simp only [Decidable.not_not, ne_eq] at hg1 hg2 hg3 hg4); rw [Nte_eq, Ans_eq]; (try unfold SameL); simp only [hg1, hg2, hg3, hg4, false_and, and_false, not_false_eq_true]; try (constructor <;> (intro h; simp [h]))), hp.chg⟩
 refine go ?_
 refine Fd_ 4 fld38_4 rfl rfl (go ?_)
 refine Hl_ 1 sc3 rfl hp rfl rfl (go ?_)
 refine Fd_ 4 fld38_4 rfl rfl (go ?_)
 refine Hl_ 0 sc3 rfl hp rfl rfl (go ?_)
 refine Ne_ rfl rfl (go ?_)
 refine Gs 40 (fun hg5 => ?_) fun hg5 => ?_
 ·refine go ?_
  refine wc_cond_t rfl (go ?_)
  refine P1 results17 ?_
  exact ⟨_, rfl, bool_f (by (try simp only [Decidable.not_not, ne_eq] at hg1 hg2 hg3 hg4 hg5); rw [Nte_eq, Ans_eq]; (try unfold SameL); simp only [hg1, hg2, hg3, hg4, hg5, false_and, and_false, not_false_eq_true]; try (constructor <;> (intro h; simp [h]))), hp.chg⟩
 refine go ?_
 refine Fd_ 5 fld38_5 rfl rfl (go ?_)
 refine Hl_ 1 sc3 rfl hp rfl rfl (go ?_)
 refine Fd_ 5 fld38_5 rfl rfl (go ?_)
 refine Hl_ 0 sc3 rfl hp rfl rfl (go ?_)
 refine Ne_ rfl rfl (go ?_)
 refine Gs 47 (fun hg6 => ?_) fun hg6 => ?_
 ·refine go ?_
  refine wc_cond_t rfl (go ?_)
  refine P1 results17 ?_
  exact ⟨_, rfl, bool_f (by (try simp only [Decidable.not_not, ne_eq] at hg1 hg2 hg3 hg4 hg5 hg6); rw [Nte_eq, Ans_eq]; (try unfold SameL); simp only [hg1, hg2, hg3, hg4, hg5, hg6, false_and, and_false, not_false_eq_true]; try (constructor <;> (intro h; simp [h]))), hp.chg⟩
 refine go ?_
 refine Fd_ 6 fld38_6 rfl rfl (go ?_)
 refine Hx_ (digC a.dig) 1 ag23 rfl hp rfl rfl rfl (go ?_)
 refine Fd_ 6 fld38_6 rfl rfl (go ?_)
 refine Hx_ (digC b.dig) 0 ag23 rfl hp rfl rfl rfl (go ?_)
 refine wl_neqK (m := 6) (a.dig = b.dig) (by decide) key23 eg23 rfl rfl (digC_fit _) (digC_fit _) digC_inj ?_
 refine go ?_
 refine Gs 54 (fun hg7 => ?_) fun hg7 => ?_
 ·refine go ?_
  refine wc_cond_t rfl (go ?_)
  refine P1 results17 ?_
  exact ⟨_, rfl, bool_f (by (try simp only [Decidable.not_not, ne_eq] at hg1 hg2 hg3 hg4 hg5 hg6 hg7); rw [Nte_eq, Ans_eq]; (try unfold SameL); simp only [hg1, hg2, hg3, hg4, hg5, hg6, hg7, false_and, and_false, not_false_eq_true]; try (constructor <;> (intro h; simp [h]))), hp.chg⟩
 refine go ?_
 refine Fd_ 43 fld38_9 rfl rfl (go ?_)
 refine Hl_ 1 sc3 rfl hp rfl rfl (go ?_)
 refine Fd_ 43 fld38_9 rfl rfl (go ?_)
 refine Hl_ 0 sc3 rfl hp rfl rfl (go ?_)
 refine Ne_ rfl rfl (go ?_)
 refine Gs 61 (fun hg8 => ?_) fun hg8 => ?_
 ·refine go ?_
  refine wc_cond_t rfl (go ?_)
  refine P1 results17 ?_
  exact ⟨_, rfl, bool_f (by (try simp only [Decidable.not_not, ne_eq] at hg1 hg2 hg3 hg4 hg5 hg6 hg7 hg8); rw [Nte_eq, Ans_eq]; (try unfold SameL); simp only [hg1, hg2, hg3, hg4, hg5, hg6, hg7, hg8, false_and, and_false, not_false_eq_true]; try (constructor <;> (intro h; simp [h]))), hp.chg⟩
 refine go ?_
 refine Fd_ 44 fld38_10 rfl rfl (go ?_)
 refine Hl_ 1 sc3 rfl hp rfl rfl (go ?_)
 refine Fd_ 44 fld38_10 rfl rfl (go ?_)
 refine Hl_ 0 sc3 rfl hp rfl rfl (go ?_)
 refine Ne_ rfl rfl (go ?_)
 refine Gs 68 (fun hg9 => ?_) fun hg9 => ?_
 ·refine go ?_
  refine wc_cond_t rfl (go ?_)
  refine P1 results17 ?_
  exact ⟨_, rfl, bool_f (by (try simp only [Decidable.not_not, ne_eq] at hg1 hg2 hg3 hg4 hg5 hg6 hg7 hg8 hg9); rw [Nte_eq, Ans_eq]; (try unfold SameL); simp only [hg1, hg2, hg3, hg4, hg5, hg6, hg7, hg8, hg9, false_and, and_false, not_false_eq_true]; try (constructor <;> (intro h; simp [h]))), hp.chg⟩
 refine go ?_
 refine Fd_ 53 fld38_14 rfl rfl (go ?_)
 refine Hl_ 1 sc3 rfl hp rfl rfl (go ?_)
 refine Fd_ 53 fld38_14 rfl rfl (go ?_)
 refine Hl_ 0 sc3 rfl hp rfl rfl (go ?_)
 refine Ne_ rfl rfl (go ?_)
 refine Gs 75 (fun hg10 => ?_) fun hg10 => ?_
 ·refine go ?_
  refine wc_cond_t rfl (go ?_)
  refine P1 results17 ?_
  exact ⟨_, rfl, bool_f (by (try simp only [Decidable.not_not, ne_eq] at hg1 hg2 hg3 hg4 hg5 hg6 hg7 hg8 hg9 hg10); rw [Nte_eq, Ans_eq]; (try unfold SameL); simp only [hg1, hg2, hg3, hg4, hg5, hg6, hg7, hg8, hg9, hg10, false_and, and_false, not_false_eq_true]; try (constructor <;> (intro h; simp [h]))), hp.chg⟩
 refine go ?_
 refine Fd_ 54 fld38_15 rfl rfl (go ?_)
 refine Hl_ 1 sc3 rfl hp rfl rfl (go ?_)
 refine Fd_ 54 fld38_15 rfl rfl (go ?_)
 refine Hl_ 0 sc3 rfl hp rfl rfl (go ?_)
 refine Ne_ rfl rfl (go ?_)
 refine Cd (fun hc11 => ?_) fun hc11 => ?_
 ·refine go ?_
  refine P1 results17 ?_
  exact ⟨_, rfl, bool_f (by (try simp only [Decidable.not_not, ne_eq] at hg1 hg2 hg3 hg4 hg5 hg6 hg7 hg8 hg9 hg10 hc11); rw [Nte_eq, Ans_eq]; (try unfold SameL); simp only [hg1, hg2, hg3, hg4, hg5, hg6, hg7, hg8, hg9, hg10, hc11, false_and, and_false, not_false_eq_true]; try (constructor <;> (intro h; simp [h]))), hp.chg⟩
 refine go ?_
 apply wc_drawW 7 4 5 6 5 6 29 (.agg #[iv 0,s0,iv 0,s0] : Value).cells.toList ([iv a.ans.err,.slice Aa1 a.ans.data.length ca1,iv a.ans.epoch,.slice Aa2 a.ans.nodes.length ca2]) [.eq _,.eq _,.eq _,.eq _,SP.any,SP.any,SP.any] (by kernel_rfl) (by kernel_rfl) (by kernel_rfl) (by kernel_rfl) ⟨.inr (fun _ _ _ _ h => h),.inr (fun _ _ _ _ h => h),.inr (fun _ _ _ _ h => h),.inr (fun _ _ _ _ h => h),.inr (fun _ _ _ _ _ => trivial),.inr (fun _ _ _ _ _ => trivial),.inr (fun _ _ _ _ _ => trivial),trivial⟩ leB_
 refine ⟨?_,?_,?_,?_,?_,?_,?_,trivial⟩<;>intro F wF hER hk hEE
 have e2:=hk.qi 2
 refine Fd_ 39 fld38_8 e2 rfl ?_
 exact qz ⟨RlW.o (by decide) (by decide) (by decide) (Chg.refl _ _), rfl⟩
 have e82:=hk.qe 0
 refine Hx_ ([iv a.ans.err, .slice Aa1 a.ans.data.length ca1, iv a.ans.epoch, .slice Aa2 a.ans.nodes.length ca2]) 1 ag29 e82 (hp.ext hER) rfl rfl rfl ?_
 exact qz ⟨RlW.o (by decide) (by decide) (by decide) (Chg.refl _ _), rfl⟩
 have e3:=hk.qi 3
 refine Fd_ 39 fld38_8 e3 rfl ?_
 exact qz ⟨RlW.o (by decide) (by decide) (by decide) (Chg.refl _ _), rfl⟩
 have e84:=hk.qe 2
 refine Hx_ ([iv b.ans.err, .slice Ab1 b.ans.data.length cb1, iv b.ans.epoch, .slice Ab2 b.ans.nodes.length cb2]) 0 ag29 e84 (hp.ext hER) rfl rfl rfl ?_
 exact qz ⟨RlW.o (by decide) (by decide) (by decide) (Chg.refl _ _), rfl⟩
 refine wl_alloc (z := .agg #[iv 0, s0, iv 0, s0]) (by decide) (by kernel_rfl) ?_
 rintro g7 w7 hg7 hb7 hE7
 subst hg7
 exact qz ⟨RlW.a (.inl rfl) (by decide) hb7 hE7, trivial⟩
 refine wl_alloc (z := .agg #[iv 0, s0, iv 0, s0]) (by decide) (by kernel_rfl) ?_
 rintro g7 w7 hg7 hb7 hE7
 subst hg7
 exact qz ⟨RlW.a (.inr rfl) (by decide) hb7 hE7, trivial⟩
 have e83:=hk.qe 1
 obtain ⟨g7, hg7, hb7⟩ := hEE rfl
 refine wl_storeB2 hg7 e83 hb7 sz29 leB_ (List.all_eq_true.1 rfl) ?_
 intro w7 hb8 hC7
 exact wl_nil (qr_none ⟨RlW.f hg7 hC7 hb8, trivial⟩)
 intro F wD hED hini hdo hWW
 obtain ⟨gs5, gs6, hWn, hWA, hWB, e5, e6, hbA, hbB⟩ := hWW
 refine wl_drop [(2, _), (3, _), (5, _), (6, _), (85, _)] ⟨di hini 2, di hini 3, e5, e6, dr hdo 3, trivial⟩ ?_
 clear e5 e6 hini hdo
 replace q0:=q0.trans hED
 replace hp:=hp.add2 hED hbA hbB hWn hWA hWB
 refine wl_hstore (i := 1) rfl rfl hp rfl sz29 leB_ (List.all_eq_true.1 rfl) ?_
 rintro w3 hp3 hC3
 have q1:=ha0.tk.ext q0
 replace q1:=q1.fz hC3
 replace hp:=hp3
 refine go ?_
 refine Fd_ 0 fld29_0 rfl rfl ?_
 refine Hl_ 0 sc25 rfl hp rfl rfl ?_
 refine Fd_ 0 fld29_0 rfl rfl ?_
 refine Hl_ 1 sc25 rfl hp rfl rfl ?_
 refine Ne_ rfl rfl (go ?_)
 refine Gs 91 (fun hg12 => ?_) fun hg12 => ?_
 ·refine go ?_
  refine wc_cond_t rfl (go ?_)
  refine P1 results17 ?_
  exact ⟨_, rfl, bool_f (by (try simp only [Decidable.not_not, ne_eq] at hg1 hg2 hg3 hg4 hg5 hg6 hg7 hg8 hg9 hg10 hc11 hg12); rw [Nte_eq, Ans_eq]; (try unfold SameL); simp only [hg1, hg2, hg3, hg4, hg5, hg6, hg7, hg8, hg9, hg10, hc11, hg12, true_and, false_and, and_false, not_false_eq_true]; try (constructor <;> (intro h; simp [h]))), hp.chg⟩
 refine go ?_
 refine Fd_ 1 fld29_1 rfl rfl (go ?_)
 refine Hl_ 0 sc26 rfl hp rfl rfl (go ?_)
 refine Fd_ 1 fld29_1 rfl rfl (go ?_)
 refine Hl_ 1 sc26 rfl hp rfl rfl (go ?_)
 have hcl:=eqBytes_ok (ha1.fr q1) (hb1.fr q1)
 refine Cl_ cl16 rfl hcl ?_
 clear hcl
 rintro _ w4 ⟨rfl, hE4⟩
 replace q1:=q1.ext hE4
 replace hp:=hp.ext hE4
 refine go ?_
 first | refine Nd_ rfl ?_ | refine Nn_ rfl ?_
 refine go ?_
 refine Gs 99 (fun hg13 => ?_) fun hg13 => ?_
 ·refine go ?_
  refine wc_cond_t rfl (go ?_)
  refine P1 results17 ?_
  exact ⟨_, rfl, bool_f (by (try simp only [Decidable.not_not, ne_eq] at hg1 hg2 hg3 hg4 hg5 hg6 hg7 hg8 hg9 hg10 hc11 hg12 hg13); rw [Nte_eq, Ans_eq]; (try unfold SameL); simp only [hg1, hg2, hg3, hg4, hg5, hg6, hg7, hg8, hg9, hg10, hc11, hg12, hg13, true_and, false_and, and_false, not_false_eq_true]; try (constructor <;> (intro h; simp [h]))), hp.chg⟩
 refine go ?_
 refine Fd_ 2 fld29_2 rfl rfl (go ?_)
 refine Hl_ 0 sc3 rfl hp rfl rfl (go ?_)
 refine Fd_ 2 fld29_2 rfl rfl (go ?_)
 refine Hl_ 1 sc3 rfl hp rfl rfl (go ?_)
 refine Ne_ rfl rfl (go ?_)
 refine Gs 106 (fun hg14 => ?_) fun hg14 => ?_
 ·refine go ?_
  refine wc_cond_t rfl (go ?_)
  refine P1 results17 ?_
  exact ⟨_, rfl, bool_f (by (try simp only [Decidable.not_not, ne_eq] at hg1 hg2 hg3 hg4 hg5 hg6 hg7 hg8 hg9 hg10 hc11 hg12 hg13 hg14); rw [Nte_eq, Ans_eq]; (try unfold SameL); simp only [hg1, hg2, hg3, hg4, hg5, hg6, hg7, hg8, hg9, hg10, hc11, hg12, hg13, hg14, true_and, false_and, and_false, not_false_eq_true]; try (constructor <;> (intro h; simp [h]))), hp.chg⟩
 refine go ?_
 refine Fd_ 3 fld29_3 rfl rfl (go ?_)
 refine Hl_ 0 sc27 rfl hp rfl rfl (go ?_)
 refine Fd_ 3 fld29_3 rfl rfl (go ?_)
 refine Hl_ 1 sc27 rfl hp rfl rfl (go ?_)
 have hcl:=eqInts_ok (ha2.fr q1) (hb2.fr q1)
 refine Cl_ cl49 rfl hcl ?_
 clear hcl
 rintro _ w5 ⟨rfl, hE5⟩
 replace q1:=q1.ext hE5
 replace hp:=hp.ext hE5
 refine go ?_
 first | refine Nd_ rfl ?_ | refine Nn_ rfl ?_
 refine go ?_
 refine Cd (fun hc15 => ?_) fun hc15 => ?_
 ·refine go ?_
  refine P1 results17 ?_
  exact ⟨_, rfl, bool_f (by (try simp only [Decidable.not_not, ne_eq] at hg1 hg2 hg3 hg4 hg5 hg6 hg7 hg8 hg9 hg10 hc11 hg12 hg13 hg14 hc15); rw [Nte_eq, Ans_eq]; (try unfold SameL); simp only [hg1, hg2, hg3, hg4, hg5, hg6, hg7, hg8, hg9, hg10, hc11, hg12, hg13, hg14, hc15, true_and, false_and, and_false, not_false_eq_true]; try (constructor <;> (intro h; simp [h]))), hp.chg⟩
 refine go ?_
 refine Fd_ 45 fld38_11 rfl rfl ?_
 refine Hx_ ([iv a.change.node, iv a.change.view, iv a.change.low, .slice Aa3 a.change.marks.length ca3, .slice Aa4 a.change.p.length ca4, .slice Aa5 a.change.q.length ca5]) 3 ag33 rfl hp rfl rfl rfl ?_
 refine Fd_ 45 fld38_11 rfl rfl ?_
 refine Hx_ ([iv b.change.node, iv b.change.view, iv b.change.low, .slice Ab3 b.change.marks.length cb3, .slice Ab4 b.change.p.length cb4, .slice Ab5 b.change.q.length cb5]) 2 ag33 rfl hp rfl rfl rfl ?_
 have hcl:=r12SameChange_ok ⟨(hIa.change), _, _, _, _, _, _, rfl, (ha3.fr q1), (ha4.fr q1), (ha5.fr q1)⟩ ⟨(hIb.change), _, _, _, _, _, _, rfl, (hb3.fr q1), (hb4.fr q1), (hb5.fr q1)⟩
 refine Cl_ cl32 rfl hcl ?_
 clear hcl
 rintro _ w6 ⟨rfl, hE6⟩
 replace q1:=q1.ext hE6
 replace hp:=hp.ext hE6
 refine go ?_
 refine Gs 119 (fun hg16 => ?_) fun hg16 => ?_
 ·refine go ?_
  refine Hx_ ([iv a.kind, iv a.from_, iv a.group, iv a.epoch, iv a.view, iv a.seq] ++ (digC a.dig ++ ([.slice Aa0 a.batch.length ca0, iv a.ans.err, .slice Aa1 a.ans.data.length ca1, iv a.ans.epoch, .slice Aa2 a.ans.nodes.length ca2, iv a.stamp, iv a.node, iv a.change.node, iv a.change.view, iv a.change.low, .slice Aa3 a.change.marks.length ca3, .slice Aa4 a.change.p.length ca4, .slice Aa5 a.change.q.length ca5, .slice Aa6 a.changes.length ca6, .slice Aa7 a.picks.length ca7, iv a.level, iv a.place, .slice Aa8 a.digs.length ca8, .slice Aa9 a.data.length ca9, .slice Aa10 a.nodes.length ca10]))) 3 ag38 rfl hp rfl rfl rfl (go ?_)
  refine Hx_ ([iv b.kind, iv b.from_, iv b.group, iv b.epoch, iv b.view, iv b.seq] ++ (digC b.dig ++ ([.slice Ab0 b.batch.length cb0, iv b.ans.err, .slice Ab1 b.ans.data.length cb1, iv b.ans.epoch, .slice Ab2 b.ans.nodes.length cb2, iv b.stamp, iv b.node, iv b.change.node, iv b.change.view, iv b.change.low, .slice Ab3 b.change.marks.length cb3, .slice Ab4 b.change.p.length cb4, .slice Ab5 b.change.q.length cb5, .slice Ab6 b.changes.length cb6, .slice Ab7 b.picks.length cb7, iv b.level, iv b.place, .slice Ab8 b.digs.length cb8, .slice Ab9 b.data.length cb9, .slice Ab10 b.nodes.length cb10]))) 2 ag38 rfl hp rfl rfl rfl (go ?_)
  have hcl:=rSameLists_ok ⟨hIa, _, _, _, _, _, _, _, _, _, _, _, _, _, _, _, _, _, _, _, _, _, _, rfl, (ha0.fr q1), (ha1.fr q1), (ha2.fr q1), (ha3.fr q1), (ha4.fr q1), (ha5.fr q1), (ha6.fr q1), (ha7.fr q1), (ha8.fr q1), (ha9.fr q1), (ha10.fr q1)⟩ ⟨hIb, _, _, _, _, _, _, _, _, _, _, _, _, _, _, _, _, _, _, _, _, _, _, rfl, (hb0.fr q1), (hb1.fr q1), (hb2.fr q1), (hb3.fr q1), (hb4.fr q1), (hb5.fr q1), (hb6.fr q1), (hb7.fr q1), (hb8.fr q1), (hb9.fr q1), (hb10.fr q1)⟩
  refine Cl_ cl50 rfl hcl ?_
  clear hcl
  rintro _ w7 ⟨rfl, hE7⟩
  replace hp:=hp.ext hE7
  refine go ?_
  refine P1 results17 ?_
  exact ⟨_, rfl, congrArg Value.bool (decide_eq_decide.2 (by (try simp only [Decidable.not_not, ne_eq] at hg1 hg2 hg3 hg4 hg5 hg6 hg7 hg8 hg9 hg10 hc11 hg12 hg13 hg14 hc15 hg16); rw [Nte_eq, Ans_eq]; (try unfold SameL); simp only [hg1, hg2, hg3, hg4, hg5, hg6, hg7, hg8, hg9, hg10, hc11, hg12, hg13, hg14, hc15, hg16, true_and, and_true]; try (constructor <;> (intro h; simp [h])))), hp.chg⟩
 refine go ?_
 refine P1 results17 ?_
 exact ⟨_, rfl, bool_f (by (try simp only [Decidable.not_not, ne_eq] at hg1 hg2 hg3 hg4 hg5 hg6 hg7 hg8 hg9 hg10 hc11 hg12 hg13 hg14 hc15 hg16); rw [Nte_eq, Ans_eq]; (try unfold SameL); simp only [hg1, hg2, hg3, hg4, hg5, hg6, hg7, hg8, hg9, hg10, hc11, hg12, hg13, hg14, hc15, hg16, true_and, and_true, false_and, and_false, not_false_eq_true]; try (constructor <;> (intro h; simp [h]))), hp.chg⟩
set_option maxHeartbeats 40000000 in
theorem crew_ok {Al : Option Addr} {cl : Nat} {l : List Int} {Sl : Nat → Prop} (hl : GS intR Sl w Al cl l) : Ret prog 157 #[.slice Al l.length cl] w (fun v w' => v = .bool (decide (nextMay l)) ∧ w' = w) := by
 have mhl:=hl.mx
 refine ret_of_wk func157 rfl ntmps157 leB_ ?_
 refine go ?_
 refine Ln_ underlying27 rfl ?_
 refine wl_rem (by decide) rfl rfl (by decide) (Int.tmod_eq_emod_of_nonneg (by omega)) ?_
 refine Ne_ rfl rfl (go ?_)
 refine Gs 10 (fun hg1 => ?_) fun hg1 => ?_
 refine go ?_
 refine wc_cond_t rfl (go ?_)
 refine P1 results157 ?_
 exact ⟨_, rfl, bool_f (fun h => by have := h.1; omega), rfl⟩
 refine go ?_
 refine Ln_ underlying27 rfl (go ?_)
 refine Gt_ rfl rfl (go ?_)
 refine Cd (fun hc2 => ?_) fun hc2 => ?_
 refine go ?_
 refine P1 results157 ?_
 exact ⟨_, rfl, bool_f (fun h => by have := h.1; omega), rfl⟩
 refine go ?_
 refine Ln_ underlying27 rfl (go ?_)
 refine wc_loop (fun L' w' mes => ∃ (k : Nat), ∃ (last : Int), L' = [(3, iv last), (15, .slice Al l.length cl), (16, iv (l.length : Int)), (17, iv (k : Int))] ∧ (k ≤ l.length) ∧ (∀ i, i < k → 1 ≤ l.getD i 0 ∧ l.getD i 0 ≤ 28 ∧ (0 < i → l.getD (i - 1) 0 < l.getD i 0)) ∧ (l.length = 1 ∨ l.length = 4 ∨ l.length = 7) ∧ ((k = 0 ∧ last = 0) ∨ (0 < k ∧ last = l.getD (k - 1) 0 ∧ 1 ≤ last)) ∧ (w = w') ∧ l.length - k = mes) [(3, iv 0), (15, .slice Al l.length cl), (16, iv (l.length : Int)), (17, iv (0 : Int))] (l.length - 0) (by
     refine ⟨0, 0, rfl, ?_, ?_, ?_, ?_, ?_, rfl⟩
     · omega
     · intro i hi; omega
     · omega
     · exact .inl ⟨rfl, rfl⟩
     · rfl) ⟨rfl, rfl, rfl, rfl, trivial⟩ ?_
 rintro _ wr _ ⟨k, last, rfl, hk, hall, hln, hla, hw_, rfl⟩ KL1 hKL1
 subst hw_
 refine go ?_
 refine Ls_ rfl rfl (go ?_)
 refine Cd (fun hc3 => ?_) fun hc3 => ?_
 refine go ?_
 obtain ⟨ae1, hAe1, hate1⟩ := GS.elI hl k (by omega)
 refine wl_idx0 (by decide) sl27 rfl rfl hAe1 k rfl (by omega) ?_
 refine Ld_ sc3 rfl hate1.head (go ?_)
 refine Lq_ rfl rfl (go ?_)
 refine Gs 24 (fun hg4 => ?_) fun hg4 => ?_
 refine go ?_
 refine wc_cond_t rfl (go ?_)
 refine P1 results157 ?_
 exact ⟨_, rfl, bool_f (fun h => by have h1 := h.2 k (by omega); rcases hla with h2 | h2; omega; have := h1.2.2 (by omega); rw [← h2.2.1] at this; omega), rfl⟩
 refine go ?_
 refine Gt_ rfl rfl (go ?_)
 refine Cd (fun hc5 => ?_) fun hc5 => ?_
 refine go ?_
 refine P1 results157 ?_
 exact ⟨_, rfl, bool_f (fun h => by have h1 := h.2 k (by omega); rcases hla with h2 | h2; omega; have := h1.2.2 (by omega); rw [← h2.2.1] at this; omega), rfl⟩
 refine go ?_
 refine wl_add (by decide) rfl rfl (w64 (by omega) (by omega)) (gl ?_)
 refine wk_drop [(3, iv (l.getD k 0)), (15, .slice Al l.length cl), (16, iv (l.length : Int)), (17, iv ((k + 1) : Int))] ⟨rfl, rfl, rfl, rfl, trivial⟩ (hKL1 _ _ (m2 := l.length - (k + 1)) ?_ ?_)
 refine ⟨(k + 1), (l.getD k 0), rfl, ?_, ?_, ?_, ?_, ?_, rfl⟩
 omega
 exact upto hall ⟨by omega, by omega, fun h0 => by rcases hla with h | h; omega; rw [← h.2.1]; omega⟩
 exact hln
 exact .inr ⟨by omega, rfl, by omega⟩
 rfl
 omega
 refine go ?_
 refine P1 results157 ?_
 exact ⟨_, rfl, bool_t ⟨hln, fun i hi => hall i (by omega)⟩, rfl⟩
set_option maxHeartbeats 40000000 in
theorem wmay_ok {csw0 : List Value} {w0 : Wsh} {Sw0 : Nat → Prop} (hw0 : wishR.rd Sw0 w csw0 w0) : Ret prog 152 #[.agg csw0.toArray] w (fun v w' => v = .bool (decide (WishMay w0)) ∧ Ext w w') := by
 obtain ⟨hIw0, Aw00, cw00, Aw01, cw01, rfl, hw00, hw01⟩ := hw0
 have mhw00:=hw00.mx
 have mhw01:=hw01.mx
 refine ret_of_wk func152 rfl ntmps152 leB_ ?_
 have hp:=HP.begin_ w
 replace hw01:=hw01.now
 refine go ?_
 refine wl_hbox (by decide) rfl hp ?_
 rintro gs1 w1 hp1 hE1
 have q0:=hE1
 replace hp:=hp1
 replace hp:=hp.ay (itB gs1 68 ([iv w0.client, iv w0.stamp, iv w0.group, iv w0.epoch, iv w0.kind, iv w0.block, .slice Aw00 w0.data.length cw00, iv w0.old, iv w0.new, .slice Aw01 w0.next.length cw01]) :: _)
 refine go ?_
 refine Fd_ 3 fld68_3 rfl rfl ?_
 refine Hl_ 0 sc3 rfl hp rfl rfl ?_
 refine Cl_ cl156 rfl (w_within) ?_
 rintro _ _ ⟨rfl, rfl⟩
 first | refine Nd_ rfl ?_ | refine Nn_ rfl ?_
 refine go ?_
 refine Cd (fun hc1 => ?_) fun hc1 => ?_
 refine go ?_
 refine P1 results152 ?_
 exact ⟨_, rfl, bool_f (by unfold WishMay; first | omega | (by_cases hnm : nextMay w0.next <;> simp only [hnm, true_and, and_true, and_false, false_and, or_false, false_or, not_true_eq_false, not_false_eq_true, true_iff, false_iff, iff_true, iff_false] at * <;> omega)), hp.chg⟩
 refine go ?_
 refine Fd_ 4 fld68_4 rfl rfl ?_
 refine Hl_ 0 sc3 rfl hp rfl rfl ?_
 refine Eq_ rfl rfl (go ?_)
 refine Cd (fun hc2 => ?_) fun hc2 => ?_
 refine go ?_
 refine Fd_ 0 fld68_0 rfl rfl ?_
 refine Hl_ 0 sc3 rfl hp rfl rfl ?_
 refine Eq_ rfl rfl (go ?_)
 refine Gs 16 (fun hg3 => ?_) fun hg3 => ?_
 refine go ?_
 refine Fd_ 1 fld68_1 rfl rfl (go ?_)
 refine Hl_ 0 sc3 rfl hp rfl rfl (go ?_)
 refine Eq_ rfl rfl (go ?_)
 refine Gs 21 (fun hg4 => ?_) fun hg4 => ?_
 refine go ?_
 refine Fd_ 5 fld68_5 rfl rfl (go ?_)
 refine Hl_ 0 sc3 rfl hp rfl rfl (go ?_)
 refine Eq_ rfl rfl (go ?_)
 refine Gs 26 (fun hg5 => ?_) fun hg5 => ?_
 refine go ?_
 refine Fd_ 6 fld68_6 rfl rfl (go ?_)
 refine Hl_ 0 sc26 rfl hp rfl rfl (go ?_)
 refine Ln_ underlying26 rfl (go ?_)
 refine Eq_ rfl rfl (go ?_)
 refine Gs 32 (fun hg6 => ?_) fun hg6 => ?_
 refine go ?_
 refine Fd_ 7 fld68_7 rfl rfl (go ?_)
 refine Hl_ 0 sc3 rfl hp rfl rfl (go ?_)
 refine Eq_ rfl rfl (go ?_)
 refine Gs 37 (fun hg7 => ?_) fun hg7 => ?_
 refine go ?_
 refine Fd_ 8 fld68_8 rfl rfl (go ?_)
 refine Hl_ 0 sc3 rfl hp rfl rfl (go ?_)
 refine Eq_ rfl rfl (go ?_)
 refine Gs 43 (fun hg8 => ?_) fun hg8 => ?_
 refine go ?_
 refine Fd_ 2 fld68_2 rfl rfl (go ?_)
 refine Hl_ 0 sc3 rfl hp rfl rfl (go ?_)
 refine Cl_ cl156 rfl (w_within) ?_
 rintro _ _ ⟨rfl, rfl⟩
 refine go ?_
 refine Gs 48 (fun hg9 => ?_) fun hg9 => ?_
 refine go ?_
 refine Fd_ 9 fld68_9 rfl rfl (go ?_)
 refine Hl_ 0 sc27 rfl hp rfl rfl (go ?_)
 have hcl:=crew_ok (hw01.ext q0)
 refine Cl_ cl157 rfl hcl ?_
 clear hcl
 rintro _ _ ⟨rfl, rfl⟩
 refine go ?_
 refine P1 results152 ?_
 exact ⟨_, rfl, congrArg Value.bool (decide_eq_decide.2 (by unfold WishMay; first | omega | (by_cases hnm : nextMay w0.next <;> simp only [hnm, and_true, and_false, false_or, not_false_eq_true, true_iff, false_iff] at * <;> omega))), hp.chg⟩
 refine go ?_
 refine P1 results152 ?_
 exact ⟨_, rfl, bool_f (by unfold WishMay; first | omega | (by_cases hnm : nextMay w0.next <;> simp only [hnm, true_and, and_true, and_false, false_and, or_false, false_or, not_true_eq_false, not_false_eq_true, true_iff, false_iff, iff_true, iff_false] at * <;> omega)), hp.chg⟩
 refine go ?_
 refine P1 results152 ?_
 exact ⟨_, rfl, bool_f (by unfold WishMay; first | omega | (by_cases hnm : nextMay w0.next <;> simp only [hnm, true_and, and_true, and_false, false_and, or_false, false_or, not_true_eq_false, not_false_eq_true, true_iff, false_iff, iff_true, iff_false] at * <;> omega)), hp.chg⟩
 refine go ?_
 refine P1 results152 ?_
 exact ⟨_, rfl, bool_f (by unfold WishMay; first | omega | (by_cases hnm : nextMay w0.next <;> simp only [hnm, true_and, and_true, and_false, false_and, or_false, false_or, not_true_eq_false, not_false_eq_true, true_iff, false_iff, iff_true, iff_false] at * <;> omega)), hp.chg⟩
 refine go ?_
 refine P1 results152 ?_
 exact ⟨_, rfl, bool_f (by unfold WishMay; first | omega | (by_cases hnm : nextMay w0.next <;> simp only [hnm, true_and, and_true, and_false, false_and, or_false, false_or, not_true_eq_false, not_false_eq_true, true_iff, false_iff, iff_true, iff_false] at * <;> omega)), hp.chg⟩
 refine go ?_
 refine P1 results152 ?_
 exact ⟨_, rfl, bool_f (by unfold WishMay; first | omega | (by_cases hnm : nextMay w0.next <;> simp only [hnm, true_and, and_true, and_false, false_and, or_false, false_or, not_true_eq_false, not_false_eq_true, true_iff, false_iff, iff_true, iff_false] at * <;> omega)), hp.chg⟩
 refine go ?_
 refine P1 results152 ?_
 exact ⟨_, rfl, bool_f (by unfold WishMay; first | omega | (by_cases hnm : nextMay w0.next <;> simp only [hnm, true_and, and_true, and_false, false_and, or_false, false_or, not_true_eq_false, not_false_eq_true, true_iff, false_iff, iff_true, iff_false] at * <;> omega)), hp.chg⟩
 refine go ?_
 refine P1 results152 ?_
 exact ⟨_, rfl, bool_f (by unfold WishMay; first | omega | (by_cases hnm : nextMay w0.next <;> simp only [hnm, true_and, and_true, and_false, false_and, or_false, false_or, not_true_eq_false, not_false_eq_true, true_iff, false_iff, iff_true, iff_false] at * <;> omega)), hp.chg⟩
 refine go ?_
 refine Fd_ 0 fld68_0 rfl rfl ?_
 refine Hl_ 0 sc3 rfl hp rfl rfl ?_
 refine Cl_ cl156 rfl (w_within) ?_
 rintro _ _ ⟨rfl, rfl⟩
 first | refine Nd_ rfl ?_ | refine Nn_ rfl ?_
 refine go ?_
 refine Gs 57 (fun hg10 => ?_) fun hg10 => ?_
 refine go ?_
 refine wc_cond_t rfl (go ?_)
 refine P1 results152 ?_
 exact ⟨_, rfl, bool_f (by unfold WishMay; first | omega | (by_cases hnm : nextMay w0.next <;> simp only [hnm, true_and, and_true, and_false, false_and, or_false, false_or, not_true_eq_false, not_false_eq_true, true_iff, false_iff, iff_true, iff_false] at * <;> omega)), hp.chg⟩
 refine go ?_
 refine Fd_ 1 fld68_1 rfl rfl (go ?_)
 refine Hl_ 0 sc3 rfl hp rfl rfl (go ?_)
 refine Cl_ cl156 rfl (w_within) ?_
 rintro _ _ ⟨rfl, rfl⟩
 refine go ?_
 first | refine Nd_ rfl ?_ | refine Nn_ rfl ?_
 refine go ?_
 refine Gs 63 (fun hg11 => ?_) fun hg11 => ?_
 refine go ?_
 refine wc_cond_t rfl (go ?_)
 refine P1 results152 ?_
 exact ⟨_, rfl, bool_f (by unfold WishMay; first | omega | (by_cases hnm : nextMay w0.next <;> simp only [hnm, true_and, and_true, and_false, false_and, or_false, false_or, not_true_eq_false, not_false_eq_true, true_iff, false_iff, iff_true, iff_false] at * <;> omega)), hp.chg⟩
 refine go ?_
 refine Fd_ 9 fld68_9 rfl rfl (go ?_)
 refine Hl_ 0 sc27 rfl hp rfl rfl (go ?_)
 refine Ln_ underlying27 rfl (go ?_)
 refine Gt_ rfl rfl (go ?_)
 refine Cd (fun hc12 => ?_) fun hc12 => ?_
 refine go ?_
 refine P1 results152 ?_
 exact ⟨_, rfl, bool_f (by unfold WishMay; first | omega | (by_cases hnm : nextMay w0.next <;> simp only [hnm, true_and, and_true, and_false, false_and, or_false, false_or, not_true_eq_false, not_false_eq_true, true_iff, false_iff, iff_true, iff_false] at * <;> omega)), hp.chg⟩
 refine go ?_
 refine Fd_ 4 fld68_4 rfl rfl ?_
 refine Hl_ 0 sc3 rfl hp rfl rfl (go ?_)
 refine Eq_ rfl rfl (go ?_)
 refine Cd (fun hc13 => ?_) fun hc13 => ?_
 refine go ?_
 refine Fd_ 2 fld68_2 rfl rfl ?_
 refine Hl_ 0 sc3 rfl hp rfl rfl ?_
 refine Cl_ cl156 rfl (w_within) ?_
 rintro _ _ ⟨rfl, rfl⟩
 first | refine Nd_ rfl ?_ | refine Nn_ rfl ?_
 refine go ?_
 refine Gs 83 (fun hg14 => ?_) fun hg14 => ?_
 refine go ?_
 refine wc_cond_t rfl (go ?_)
 refine P1 results152 ?_
 exact ⟨_, rfl, bool_f (by unfold WishMay; first | omega | (by_cases hnm : nextMay w0.next <;> simp only [hnm, true_and, and_true, and_false, false_and, or_false, false_or, not_true_eq_false, not_false_eq_true, true_iff, false_iff, iff_true, iff_false] at * <;> omega)), hp.chg⟩
 refine go ?_
 refine Fd_ 5 fld68_5 rfl rfl (go ?_)
 refine Hl_ 0 sc3 rfl hp rfl rfl (go ?_)
 refine Cl_ cl156 rfl (w_within) ?_
 rintro _ _ ⟨rfl, rfl⟩
 refine go ?_
 first | refine Nd_ rfl ?_ | refine Nn_ rfl ?_
 refine go ?_
 refine Cd (fun hc15 => ?_) fun hc15 => ?_
 refine go ?_
 refine P1 results152 ?_
 exact ⟨_, rfl, bool_f (by unfold WishMay; first | omega | (by_cases hnm : nextMay w0.next <;> simp only [hnm, true_and, and_true, and_false, false_and, or_false, false_or, not_true_eq_false, not_false_eq_true, true_iff, false_iff, iff_true, iff_false] at * <;> omega)), hp.chg⟩
 refine go ?_
 refine wc_cond_f rfl ?_
 refine go ?_
 refine Fd_ 6 fld68_6 rfl rfl ?_
 refine Hl_ 0 sc26 rfl hp rfl rfl ?_
 refine Ln_ underlying26 rfl (go ?_)
 refine Eq_ rfl rfl (go ?_)
 refine Gs 130 (fun hg16 => ?_) fun hg16 => ?_
 refine go ?_
 refine Fd_ 7 fld68_7 rfl rfl (go ?_)
 refine Hl_ 0 sc3 rfl hp rfl rfl (go ?_)
 refine Eq_ rfl rfl (go ?_)
 refine Gs 135 (fun hg17 => ?_) fun hg17 => ?_
 refine go ?_
 refine Fd_ 8 fld68_8 rfl rfl (go ?_)
 refine Hl_ 0 sc3 rfl hp rfl rfl (go ?_)
 refine Eq_ rfl rfl (go ?_)
 refine P1 results152 ?_
 exact ⟨_, rfl, congrArg Value.bool (decide_eq_decide.2 (by unfold WishMay; first | omega | (by_cases hnm : nextMay w0.next <;> simp only [hnm, true_and, and_true, and_false, false_and, or_false, false_or, not_true_eq_false, not_false_eq_true, true_iff, false_iff, iff_true, iff_false] at * <;> omega))), hp.chg⟩
 refine go ?_
 refine P1 results152 ?_
 exact ⟨_, rfl, bool_f (by unfold WishMay; first | omega | (by_cases hnm : nextMay w0.next <;> simp only [hnm, true_and, and_true, and_false, false_and, or_false, false_or, not_true_eq_false, not_false_eq_true, true_iff, false_iff, iff_true, iff_false] at * <;> omega)), hp.chg⟩
 refine go ?_
 refine P1 results152 ?_
 exact ⟨_, rfl, bool_f (by unfold WishMay; first | omega | (by_cases hnm : nextMay w0.next <;> simp only [hnm, true_and, and_true, and_false, false_and, or_false, false_or, not_true_eq_false, not_false_eq_true, true_iff, false_iff, iff_true, iff_false] at * <;> omega)), hp.chg⟩
 refine go ?_
 refine Eq_ rfl rfl (go ?_)
 refine Cd (fun hc18 => ?_) fun hc18 => ?_
 refine go ?_
 refine Fd_ 2 fld68_2 rfl rfl ?_
 refine Hl_ 0 sc3 rfl hp rfl rfl ?_
 refine Cl_ cl156 rfl (w_within) ?_
 rintro _ _ ⟨rfl, rfl⟩
 first | refine Nd_ rfl ?_ | refine Nn_ rfl ?_
 refine go ?_
 refine Gs 83 (fun hg19 => ?_) fun hg19 => ?_
 refine go ?_
 refine wc_cond_t rfl (go ?_)
 refine P1 results152 ?_
 exact ⟨_, rfl, bool_f (by unfold WishMay; first | omega | (by_cases hnm : nextMay w0.next <;> simp only [hnm, true_and, and_true, and_false, false_and, or_false, false_or, not_true_eq_false, not_false_eq_true, true_iff, false_iff, iff_true, iff_false] at * <;> omega)), hp.chg⟩
 refine go ?_
 refine Fd_ 5 fld68_5 rfl rfl (go ?_)
 refine Hl_ 0 sc3 rfl hp rfl rfl (go ?_)
 refine Cl_ cl156 rfl (w_within) ?_
 rintro _ _ ⟨rfl, rfl⟩
 refine go ?_
 first | refine Nd_ rfl ?_ | refine Nn_ rfl ?_
 refine go ?_
 refine Cd (fun hc20 => ?_) fun hc20 => ?_
 refine go ?_
 refine P1 results152 ?_
 exact ⟨_, rfl, bool_f (by unfold WishMay; first | omega | (by_cases hnm : nextMay w0.next <;> simp only [hnm, true_and, and_true, and_false, false_and, or_false, false_or, not_true_eq_false, not_false_eq_true, true_iff, false_iff, iff_true, iff_false] at * <;> omega)), hp.chg⟩
 refine go ?_
 refine wc_cond_f rfl ?_
 refine go ?_
 refine Fd_ 6 fld68_6 rfl rfl ?_
 refine Hl_ 0 sc26 rfl hp rfl rfl ?_
 refine Ln_ underlying26 rfl (go ?_)
 refine Eq_ rfl rfl (go ?_)
 refine Gs 130 (fun hg21 => ?_) fun hg21 => ?_
 refine go ?_
 refine Fd_ 7 fld68_7 rfl rfl (go ?_)
 refine Hl_ 0 sc3 rfl hp rfl rfl (go ?_)
 refine Eq_ rfl rfl (go ?_)
 refine Gs 135 (fun hg22 => ?_) fun hg22 => ?_
 refine go ?_
 refine Fd_ 8 fld68_8 rfl rfl (go ?_)
 refine Hl_ 0 sc3 rfl hp rfl rfl (go ?_)
 refine Eq_ rfl rfl (go ?_)
 refine P1 results152 ?_
 exact ⟨_, rfl, congrArg Value.bool (decide_eq_decide.2 (by unfold WishMay; first | omega | (by_cases hnm : nextMay w0.next <;> simp only [hnm, true_and, and_true, and_false, false_and, or_false, false_or, not_true_eq_false, not_false_eq_true, true_iff, false_iff, iff_true, iff_false] at * <;> omega))), hp.chg⟩
 refine go ?_
 refine P1 results152 ?_
 exact ⟨_, rfl, bool_f (by unfold WishMay; first | omega | (by_cases hnm : nextMay w0.next <;> simp only [hnm, true_and, and_true, and_false, false_and, or_false, false_or, not_true_eq_false, not_false_eq_true, true_iff, false_iff, iff_true, iff_false] at * <;> omega)), hp.chg⟩
 refine go ?_
 refine P1 results152 ?_
 exact ⟨_, rfl, bool_f (by unfold WishMay; first | omega | (by_cases hnm : nextMay w0.next <;> simp only [hnm, true_and, and_true, and_false, false_and, or_false, false_or, not_true_eq_false, not_false_eq_true, true_iff, false_iff, iff_true, iff_false] at * <;> omega)), hp.chg⟩
 refine go ?_
 refine Eq_ rfl rfl (go ?_)
 refine Cd (fun hc23 => ?_) fun hc23 => ?_
 refine go ?_
 refine Fd_ 2 fld68_2 rfl rfl ?_
 refine Hl_ 0 sc3 rfl hp rfl rfl ?_
 refine Ne_ rfl rfl (go ?_)
 refine Gs 92 (fun hg24 => ?_) fun hg24 => ?_
 refine go ?_
 refine wc_cond_t rfl (go ?_)
 refine P1 results152 ?_
 exact ⟨_, rfl, bool_f (by unfold WishMay; first | omega | (by_cases hnm : nextMay w0.next <;> simp only [hnm, true_and, and_true, and_false, false_and, or_false, false_or, not_true_eq_false, not_false_eq_true, true_iff, false_iff, iff_true, iff_false] at * <;> omega)), hp.chg⟩
 refine go ?_
 refine Fd_ 3 fld68_3 rfl rfl (go ?_)
 refine Hl_ 0 sc3 rfl hp rfl rfl (go ?_)
 refine Ne_ rfl rfl (go ?_)
 refine Gs 97 (fun hg25 => ?_) fun hg25 => ?_
 refine go ?_
 refine wc_cond_t rfl (go ?_)
 refine P1 results152 ?_
 exact ⟨_, rfl, bool_f (by unfold WishMay; first | omega | (by_cases hnm : nextMay w0.next <;> simp only [hnm, true_and, and_true, and_false, false_and, or_false, false_or, not_true_eq_false, not_false_eq_true, true_iff, false_iff, iff_true, iff_false] at * <;> omega)), hp.chg⟩
 refine go ?_
 refine Fd_ 5 fld68_5 rfl rfl (go ?_)
 refine Hl_ 0 sc3 rfl hp rfl rfl (go ?_)
 refine Cl_ cl156 rfl (w_within) ?_
 rintro _ _ ⟨rfl, rfl⟩
 refine go ?_
 first | refine Nd_ rfl ?_ | refine Nn_ rfl ?_
 refine go ?_
 refine Cd (fun hc26 => ?_) fun hc26 => ?_
 refine go ?_
 refine P1 results152 ?_
 exact ⟨_, rfl, bool_f (by unfold WishMay; first | omega | (by_cases hnm : nextMay w0.next <;> simp only [hnm, true_and, and_true, and_false, false_and, or_false, false_or, not_true_eq_false, not_false_eq_true, true_iff, false_iff, iff_true, iff_false] at * <;> omega)), hp.chg⟩
 refine go ?_
 refine wc_cond_t rfl (go ?_)
 refine Fd_ 6 fld68_6 rfl rfl ?_
 refine Hl_ 0 sc26 rfl hp rfl rfl ?_
 refine Ln_ underlying26 rfl ?_
 refine Eq_ rfl rfl (go ?_)
 refine Gs 108 (fun hg27 => ?_) fun hg27 => ?_
 refine go ?_
 refine Fd_ 7 fld68_7 rfl rfl (go ?_)
 refine Hl_ 0 sc3 rfl hp rfl rfl (go ?_)
 refine Cl_ cl156 rfl (w_within) ?_
 rintro _ _ ⟨rfl, rfl⟩
 refine go ?_
 refine Gs 113 (fun hg28 => ?_) fun hg28 => ?_
 refine go ?_
 refine Fd_ 8 fld68_8 rfl rfl (go ?_)
 refine Hl_ 0 sc3 rfl hp rfl rfl (go ?_)
 refine Cl_ cl156 rfl (w_within) ?_
 rintro _ _ ⟨rfl, rfl⟩
 refine go ?_
 refine Gs 118 (fun hg29 => ?_) fun hg29 => ?_
 refine go ?_
 refine Fd_ 7 fld68_7 rfl rfl (go ?_)
 refine Hl_ 0 sc3 rfl hp rfl rfl (go ?_)
 refine Fd_ 8 fld68_8 rfl rfl (go ?_)
 refine Hl_ 0 sc3 rfl hp rfl rfl (go ?_)
 refine Ne_ rfl rfl (go ?_)
 refine P1 results152 ?_
 exact ⟨_, rfl, congrArg Value.bool (decide_eq_decide.2 (by unfold WishMay; first | omega | (by_cases hnm : nextMay w0.next <;> simp only [hnm, true_and, and_true, and_false, false_and, or_false, false_or, not_true_eq_false, not_false_eq_true, true_iff, false_iff, iff_true, iff_false] at * <;> omega))), hp.chg⟩
 refine go ?_
 refine P1 results152 ?_
 exact ⟨_, rfl, bool_f (by unfold WishMay; first | omega | (by_cases hnm : nextMay w0.next <;> simp only [hnm, true_and, and_true, and_false, false_and, or_false, false_or, not_true_eq_false, not_false_eq_true, true_iff, false_iff, iff_true, iff_false] at * <;> omega)), hp.chg⟩
 refine go ?_
 refine P1 results152 ?_
 exact ⟨_, rfl, bool_f (by unfold WishMay; first | omega | (by_cases hnm : nextMay w0.next <;> simp only [hnm, true_and, and_true, and_false, false_and, or_false, false_or, not_true_eq_false, not_false_eq_true, true_iff, false_iff, iff_true, iff_false] at * <;> omega)), hp.chg⟩
 refine go ?_
 refine P1 results152 ?_
 exact ⟨_, rfl, bool_f (by unfold WishMay; first | omega | (by_cases hnm : nextMay w0.next <;> simp only [hnm, true_and, and_true, and_false, false_and, or_false, false_or, not_true_eq_false, not_false_eq_true, true_iff, false_iff, iff_true, iff_false] at * <;> omega)), hp.chg⟩
 refine go ?_
 refine Eq_ rfl rfl (go ?_)
 refine Cd (fun hc30 => ?_) fun hc30 => ?_
 refine go ?_
 refine Fd_ 2 fld68_2 rfl rfl ?_
 refine Hl_ 0 sc3 rfl hp rfl rfl ?_
 refine Ne_ rfl rfl (go ?_)
 refine Gs 92 (fun hg31 => ?_) fun hg31 => ?_
 refine go ?_
 refine wc_cond_t rfl (go ?_)
 refine P1 results152 ?_
 exact ⟨_, rfl, bool_f (by unfold WishMay; first | omega | (by_cases hnm : nextMay w0.next <;> simp only [hnm, true_and, and_true, and_false, false_and, or_false, false_or, not_true_eq_false, not_false_eq_true, true_iff, false_iff, iff_true, iff_false] at * <;> omega)), hp.chg⟩
 refine go ?_
 refine Fd_ 3 fld68_3 rfl rfl (go ?_)
 refine Hl_ 0 sc3 rfl hp rfl rfl (go ?_)
 refine Ne_ rfl rfl (go ?_)
 refine Gs 97 (fun hg32 => ?_) fun hg32 => ?_
 refine go ?_
 refine wc_cond_t rfl (go ?_)
 refine P1 results152 ?_
 exact ⟨_, rfl, bool_f (by unfold WishMay; first | omega | (by_cases hnm : nextMay w0.next <;> simp only [hnm, true_and, and_true, and_false, false_and, or_false, false_or, not_true_eq_false, not_false_eq_true, true_iff, false_iff, iff_true, iff_false] at * <;> omega)), hp.chg⟩
 refine go ?_
 refine Fd_ 5 fld68_5 rfl rfl (go ?_)
 refine Hl_ 0 sc3 rfl hp rfl rfl (go ?_)
 refine Cl_ cl156 rfl (w_within) ?_
 rintro _ _ ⟨rfl, rfl⟩
 refine go ?_
 first | refine Nd_ rfl ?_ | refine Nn_ rfl ?_
 refine go ?_
 refine Cd (fun hc33 => ?_) fun hc33 => ?_
 refine go ?_
 refine P1 results152 ?_
 exact ⟨_, rfl, bool_f (by unfold WishMay; first | omega | (by_cases hnm : nextMay w0.next <;> simp only [hnm, true_and, and_true, and_false, false_and, or_false, false_or, not_true_eq_false, not_false_eq_true, true_iff, false_iff, iff_true, iff_false] at * <;> omega)), hp.chg⟩
 refine go ?_
 refine wc_cond_f rfl ?_
 refine go ?_
 refine Fd_ 6 fld68_6 rfl rfl ?_
 refine Hl_ 0 sc26 rfl hp rfl rfl ?_
 refine Ln_ underlying26 rfl (go ?_)
 refine Eq_ rfl rfl (go ?_)
 refine Gs 130 (fun hg34 => ?_) fun hg34 => ?_
 refine go ?_
 refine Fd_ 7 fld68_7 rfl rfl (go ?_)
 refine Hl_ 0 sc3 rfl hp rfl rfl (go ?_)
 refine Eq_ rfl rfl (go ?_)
 refine Gs 135 (fun hg35 => ?_) fun hg35 => ?_
 refine go ?_
 refine Fd_ 8 fld68_8 rfl rfl (go ?_)
 refine Hl_ 0 sc3 rfl hp rfl rfl (go ?_)
 refine Eq_ rfl rfl (go ?_)
 refine P1 results152 ?_
 exact ⟨_, rfl, congrArg Value.bool (decide_eq_decide.2 (by unfold WishMay; first | omega | (by_cases hnm : nextMay w0.next <;> simp only [hnm, true_and, and_true, and_false, false_and, or_false, false_or, not_true_eq_false, not_false_eq_true, true_iff, false_iff, iff_true, iff_false] at * <;> omega))), hp.chg⟩
 refine go ?_
 refine P1 results152 ?_
 exact ⟨_, rfl, bool_f (by unfold WishMay; first | omega | (by_cases hnm : nextMay w0.next <;> simp only [hnm, true_and, and_true, and_false, false_and, or_false, false_or, not_true_eq_false, not_false_eq_true, true_iff, false_iff, iff_true, iff_false] at * <;> omega)), hp.chg⟩
 refine go ?_
 refine P1 results152 ?_
 exact ⟨_, rfl, bool_f (by unfold WishMay; first | omega | (by_cases hnm : nextMay w0.next <;> simp only [hnm, true_and, and_true, and_false, false_and, or_false, false_or, not_true_eq_false, not_false_eq_true, true_iff, false_iff, iff_true, iff_false] at * <;> omega)), hp.chg⟩
 refine go ?_
 refine P1 results152 ?_
 exact ⟨_, rfl, bool_f (by unfold WishMay; first | omega | (by_cases hnm : nextMay w0.next <;> simp only [hnm, true_and, and_true, and_false, false_and, or_false, false_or, not_true_eq_false, not_false_eq_true, true_iff, false_iff, iff_true, iff_false] at * <;> omega)), hp.chg⟩
set_option maxHeartbeats 40000000 in
theorem wCheck_ok {csw0 : List Value} {w0 : Wsh} {Sw0 : Nat → Prop} (hw0 : wishR.rd Sw0 w csw0 w0) : Ret prog 136 #[.agg csw0.toArray] w (fun v w' => v = .int .i64 (if WishMay w0 then 0 else 2) ∧ Ext w w') := by
 obtain ⟨hIw0, Aw00, cw00, Aw01, cw01, rfl, hw00, hw01⟩ := hw0
 have mhw00:=hw00.mx
 have mhw01:=hw01.mx
 refine ret_of_wk func136 rfl ntmps136 leB_ ?_
 have hp:=HP.begin_ w
 replace hw00:=hw00.now
 replace hw01:=hw01.now
 refine go ?_
 refine wl_hbox (by decide) rfl hp ?_
 rintro gs1 w1 hp1 hE1
 have q0:=hE1
 replace hp:=hp1
 replace hp:=hp.ay (itB gs1 68 ([iv w0.client, iv w0.stamp, iv w0.group, iv w0.epoch, iv w0.kind, iv w0.block, .slice Aw00 w0.data.length cw00, iv w0.old, iv w0.new, .slice Aw01 w0.next.length cw01]) :: _)
 refine go ?_
 refine Hx_ ([iv w0.client, iv w0.stamp, iv w0.group, iv w0.epoch, iv w0.kind, iv w0.block, .slice Aw00 w0.data.length cw00, iv w0.old, iv w0.new, .slice Aw01 w0.next.length cw01]) 0 ag68 rfl hp rfl rfl rfl ?_
 have hcl:=wmay_ok ⟨hIw0, _, _, _, _, rfl, (hw00.ext q0), (hw01.ext q0)⟩
 refine Cl_ cl152 rfl hcl ?_
 clear hcl
 rintro _ w2 ⟨rfl, hE2⟩
 replace hp:=hp.ext hE2
 first | refine Nd_ rfl ?_ | refine Nn_ rfl ?_
 refine go ?_
 refine Cd (fun hc1 => ?_) fun hc1 => ?_
 refine go ?_
 refine P1 results136 ?_
 exact ⟨_, rfl, by simp_all, hp.chg⟩
 refine go ?_
 refine P1 results136 ?_
 exact ⟨_, rfl, by simp_all, hp.chg⟩
set_option maxHeartbeats 40000000 in
theorem fWIdx_ok {Al : Option Addr} {cl : Nat} {l : List Wsh} {Sl : Nat → Prop} {fid : Nat} {first cap : List Value} {p0 : Wsh → Prop} [DecidablePred p0] (hl : GS wishR Sl w Al cl l) (hcl0 : callable prog fid = true) (hf : ∀ w1 cs x, Ext w w1 → wishR.rd Sl w1 cs x → Ret prog fid (first ++ [Value.agg cs.toArray] ++ cap).toArray w1 fun v w2 => v = Value.bool (decide (p0 x)) ∧ Ext w1 w2) : Ret prog 151 #[.slice Al l.length cl, .func (.func fid) first.toArray cap.toArray] w (fun v w' => ∃ r : Int, v = .int .i64 r ∧ (0 ≤ r ↔ ∃ x ∈ l, p0 x) ∧ Ext w w') := by
 have mhl:=hl.mx
 refine ret_of_wk func151 rfl ntmps151 leB_ ?_
 have hEc : Ext w w := Chg.refl _ _
 refine go ?_
 refine Ln_ underlying24 rfl (go ?_)
 refine wc_loop (fun L' w' mes => ∃ (k : Nat), L' = [(0, .slice Al l.length cl), (1, .func (.func fid) first.toArray cap.toArray), (7, iv (l.length : Int)), (8, iv (k : Int))] ∧ (k ≤ l.length) ∧ (∀ x ∈ l.take k, ¬ p0 x) ∧ (GS wishR Sl w' Al cl l) ∧ (Ext w w') ∧ l.length - k = mes) [(0, .slice Al l.length cl), (1, .func (.func fid) first.toArray cap.toArray), (7, iv (l.length : Int)), (8, iv (0 : Int))] (l.length - 0) (by
     refine ⟨0, rfl, ?_, ?_, ?_, ?_, rfl⟩
     · omega
     · simp
     · exact hl
     · exact hEc) ⟨rfl, rfl, rfl, rfl, trivial⟩ ?_
 rintro _ wr _ ⟨k, rfl, hk, hall, hl, hEc, rfl⟩ KL1 hKL1
 refine go ?_
 refine Ls_ rfl rfl (go ?_)
 refine Cd (fun hc1 => ?_) fun hc1 => ?_
 refine go ?_
 obtain ⟨ae1, pe1_0, qe1_0, pe1_1, qe1_1, hAe1, hate1, hIe1, he1_0, he1_1⟩ := wishR_el hl k (by omega)
 refine wl_idx0 (by decide) sl24 rfl rfl hAe1 k rfl (by omega) ?_
 refine wl_loadA (by decide) ag68 rfl hate1.at_ rfl ?_
 have hcl:=hf _ _ _ hEc ⟨hIe1, _, _, _, _, rfl, he1_0, he1_1⟩
 refine wl_callv (f := fid) (first := first) (cap := cap) (vs := [_]) (by decide) hcl0 rfl rfl hcl ?_
 clear hcl
 rintro _ w7 ⟨rfl, hE7⟩
 have q0:=hE7
 replace hEc:=hEc.trans hE7
 refine go ?_
 refine Cd (fun hq => ?_) fun hq => ?_
 refine go ?_
 refine P1 results151 ?_
 exact ⟨_, rfl, _, rfl, ⟨fun _ => ⟨_, getD_mem (by omega), hq⟩, fun _ => by omega⟩, hEc⟩
 refine go ?_
 refine wl_add (by decide) rfl rfl (w64 (by omega) (by omega)) (gl ?_)
 refine wk_drop [(0, .slice Al l.length cl), (1, .func (.func fid) first.toArray cap.toArray), (7, iv (l.length : Int)), (8, iv ((k + 1) : Int))] ⟨rfl, rfl, rfl, rfl, trivial⟩ (hKL1 _ _ (m2 := l.length - (k + 1)) ?_ ?_)
 refine ⟨(k + 1), rfl, ?_, ?_, ?_, ?_, rfl⟩
 omega
 exact forall_take hall (by omega) hq
 exact (hl.ext q0)
 exact hEc
 omega
 refine go ?_
 refine P1 results151 ?_
 exact ⟨_, rfl, _, rfl, ⟨fun h => absurd h (by decide), fun ⟨x, hx, hpx⟩ => absurd hpx (hall x (by rw [show k = l.length by omega, List.take_length]; exact hx))⟩, hEc⟩
set_option maxHeartbeats 4000000 in
theorem fWCon_ok {Al : Option Addr} {cl : Nat} {l : List Wsh} {Sl : Nat → Prop} {fid : Nat} {first cap : List Value} {p0 : Wsh → Prop} [DecidablePred p0] {w : World} (hl : GS wishR Sl w Al cl l) (hcl0 : callable Tryz.prog fid = true) (hf : ∀ w1 cs x, Ext w w1 → wishR.rd Sl w1 cs x → Ret Tryz.prog fid (first ++ [Value.agg cs.toArray] ++ cap).toArray w1 fun v w2 => v = Value.bool (decide (p0 x)) ∧ Ext w1 w2) : Ret Tryz.prog 134 #[.slice Al l.length cl, .func (.func fid) first.toArray cap.toArray] w (fun v w' => v = .bool (decide (∃ x ∈ l, p0 x)) ∧ Ext w w') := by
 have mhl := hl.mx
 refine ret_of_wk Tryz.func134 rfl Tryz.ntmps134 (Nat.le_of_ble_eq_true rfl) ?_
 have hEc : Ext w w := Chg.refl _ _
 refine wc_seq ?_
 refine wc_region ?_
 refine wl_assign (by decide) rfl ?_
 refine wl_nil ?_
 refine wk_norm ?_
 refine wc_seq ?_
 refine wc_region ?_
 refine wl_move (by decide) rfl ?_
 refine wl_move (by decide) rfl ?_
 have hcl := fWIdx_ok hl hcl0 hf
 refine wl_call (by decide) Tryz.cl151 rfl hcl ?_
 clear hcl
 rintro _ w7 ⟨r, rfl, hr, hE7⟩
 replace hl := hl.ext hE7
 replace hEc := hEc.trans hE7
 refine wl_geq (by decide) rfl rfl ?_
 refine wl_assign (by decide) rfl ?_
 refine wl_nil ?_
 refine wk_norm ?_
 refine wc_ret ?_
 refine wk_post1 (.inl rfl) Tryz.results134 rfl ?_
 exact ⟨_, rfl, congrArg Value.bool (decide_eq_decide.2 hr), hEc⟩
set_option maxHeartbeats 40000000 in
theorem fIIdx_ok {Al : Option Addr} {cl : Nat} {l : List Int} {Sl : Nat → Prop} {fid : Nat} {first cap : List Value} {p0 : Int → Prop} [DecidablePred p0] (hl : GS intR Sl w Al cl l) (hcl0 : callable prog fid = true) (hf : ∀ w1 x, Ext w w1 → Ret prog fid (first ++ [Value.int .i64 x] ++ cap).toArray w1 fun v w2 => v = Value.bool (decide (p0 x)) ∧ Ext w1 w2) : Ret prog 138 #[.slice Al l.length cl, .func (.func fid) first.toArray cap.toArray] w (fun v w' => ∃ r : Int, v = .int .i64 r ∧ (0 ≤ r ↔ ∃ x ∈ l, p0 x) ∧ Ext w w') := by
 have mhl:=hl.mx
 refine ret_of_wk func138 rfl ntmps138 leB_ ?_
 have hEc : Ext w w := Chg.refl _ _
 refine go ?_
 refine Ln_ underlying27 rfl (go ?_)
 refine wc_loop (fun L' w' mes => ∃ (k : Nat), L' = [(0, .slice Al l.length cl), (1, .func (.func fid) first.toArray cap.toArray), (7, iv (l.length : Int)), (8, iv (k : Int))] ∧ (k ≤ l.length) ∧ (∀ x ∈ l.take k, ¬ p0 x) ∧ (GS intR Sl w' Al cl l) ∧ (Ext w w') ∧ l.length - k = mes) [(0, .slice Al l.length cl), (1, .func (.func fid) first.toArray cap.toArray), (7, iv (l.length : Int)), (8, iv (0 : Int))] (l.length - 0) (by
     refine ⟨0, rfl, ?_, ?_, ?_, ?_, rfl⟩
     · omega
     · simp
     · exact hl
     · exact hEc) ⟨rfl, rfl, rfl, rfl, trivial⟩ ?_
 rintro _ wr _ ⟨k, rfl, hk, hall, hl, hEc, rfl⟩ KL1 hKL1
 refine go ?_
 refine Ls_ rfl rfl (go ?_)
 refine Cd (fun hc1 => ?_) fun hc1 => ?_
 refine go ?_
 obtain ⟨ae1, hAe1, hate1⟩ := GS.elI hl k (by omega)
 refine wl_idx0 (by decide) sl27 rfl rfl hAe1 k rfl (by omega) ?_
 refine Ld_ sc3 rfl hate1.head ?_
 have hcl:=hf _ (l.getD k 0) hEc
 refine wl_callv (f := fid) (first := first) (cap := cap) (vs := [_]) (by decide) hcl0 rfl rfl hcl ?_
 clear hcl
 rintro _ w7 ⟨rfl, hE7⟩
 have q0:=hE7
 replace hEc:=hEc.trans hE7
 refine go ?_
 refine Cd (fun hq => ?_) fun hq => ?_
 refine go ?_
 refine P1 results138 ?_
 exact ⟨_, rfl, _, rfl, ⟨fun _ => ⟨_, getD_mem (by omega), hq⟩, fun _ => by omega⟩, hEc⟩
 refine go ?_
 refine wl_add (by decide) rfl rfl (w64 (by omega) (by omega)) (gl ?_)
 refine wk_drop [(0, .slice Al l.length cl), (1, .func (.func fid) first.toArray cap.toArray), (7, iv (l.length : Int)), (8, iv ((k + 1) : Int))] ⟨rfl, rfl, rfl, rfl, trivial⟩ (hKL1 _ _ (m2 := l.length - (k + 1)) ?_ ?_)
 refine ⟨(k + 1), rfl, ?_, ?_, ?_, ?_, rfl⟩
 omega
 exact forall_take hall (by omega) hq
 exact (hl.ext q0)
 exact hEc
 omega
 refine go ?_
 refine P1 results138 ?_
 exact ⟨_, rfl, _, rfl, ⟨fun h => absurd h (by decide), fun ⟨x, hx, hpx⟩ => absurd hpx (hall x (by rw [show k = l.length by omega, List.take_length]; exact hx))⟩, hEc⟩
set_option maxHeartbeats 4000000 in
theorem fICon_ok {Al : Option Addr} {cl : Nat} {l : List Int} {Sl : Nat → Prop} {fid : Nat} {first cap : List Value} {p0 : Int → Prop} [DecidablePred p0] {w : World} (hl : GS intR Sl w Al cl l) (hcl0 : callable Tryz.prog fid = true) (hf : ∀ w1 x, Ext w w1 → Ret Tryz.prog fid (first ++ [Value.int .i64 x] ++ cap).toArray w1 fun v w2 => v = Value.bool (decide (p0 x)) ∧ Ext w1 w2) : Ret Tryz.prog 106 #[.slice Al l.length cl, .func (.func fid) first.toArray cap.toArray] w (fun v w' => v = .bool (decide (∃ x ∈ l, p0 x)) ∧ Ext w w') := by
 have mhl := hl.mx
 refine ret_of_wk Tryz.func106 rfl Tryz.ntmps106 (Nat.le_of_ble_eq_true rfl) ?_
 have hEc : Ext w w := Chg.refl _ _
 refine wc_seq ?_
 refine wc_region ?_
 refine wl_assign (by decide) rfl ?_
 refine wl_nil ?_
 refine wk_norm ?_
 refine wc_seq ?_
 refine wc_region ?_
 refine wl_move (by decide) rfl ?_
 refine wl_move (by decide) rfl ?_
 have hcl := fIIdx_ok hl hcl0 hf
 refine wl_call (by decide) Tryz.cl138 rfl hcl ?_
 clear hcl
 rintro _ w7 ⟨r, rfl, hr, hE7⟩
 replace hl := hl.ext hE7
 replace hEc := hEc.trans hE7
 refine wl_geq (by decide) rfl rfl ?_
 refine wl_assign (by decide) rfl ?_
 refine wl_nil ?_
 refine wk_norm ?_
 refine wc_ret ?_
 refine wk_post1 (.inl rfl) Tryz.results106 rfl ?_
 exact ⟨_, rfl, congrArg Value.bool (decide_eq_decide.2 hr), hEc⟩
set_option maxHeartbeats 40000000 in
theorem batchMay1_ok {csw0 : List Value} {w0 : Wsh} {Sw0 : Nat → Prop} {pn : Addr} {csn : List Value} {n : Nte} {Sn Pn : Nat → Prop} (hw0 : wishR.rd Sw0 w csw0 w0) (hatn : AtF Pn w pn csn) (hn : noteR.rd Sn w csn n) : Ret prog 135 #[.agg csw0.toArray, .pointer (some pn)] w (fun v w' => v = .bool (decide (¬ BM n.group n.epoch w0)) ∧ Ext w w') := by
 obtain ⟨hIw0, Aw00, cw00, Aw01, cw01, rfl, hw00, hw01⟩ := hw0
 obtain ⟨hIn, An0, cn0, An1, cn1, An2, cn2, An3, cn3, An4, cn4, An5, cn5, An6, cn6, An7, cn7, An8, cn8, An9, cn9, An10, cn10, rfl, hn0, hn1, hn2, hn3, hn4, hn5, hn6, hn7, hn8, hn9, hn10⟩ := hn
 have mhw00:=hw00.mx
 have mhw01:=hw01.mx
 have mhn0:=hn0.mx
 have mhn1:=hn1.mx
 have mhn2:=hn2.mx
 have mhn3:=hn3.mx
 have mhn4:=hn4.mx
 have mhn5:=hn5.mx
 have mhn6:=hn6.mx
 have mhn7:=hn7.mx
 have mhn8:=hn8.mx
 have mhn9:=hn9.mx
 have mhn10:=hn10.mx
 refine ret_of_wk func135 rfl ntmps135 leB_ ?_
 have hp:=HP.begin_ w
 replace hw00:=hw00.now
 replace hw01:=hw01.now
 replace hatn:=hatn.now
 refine go ?_
 refine wl_hbox (by decide) rfl hp ?_
 rintro gs2 w1 hp1 hE1
 have q0:=hE1
 replace hp:=hp1
 replace hp:=hp.ay (itB gs2 68 ([iv w0.client, iv w0.stamp, iv w0.group, iv w0.epoch, iv w0.kind, iv w0.block, .slice Aw00 w0.data.length cw00, iv w0.old, iv w0.new, .slice Aw01 w0.next.length cw01]) :: _)
 refine go ?_
 refine Hx_ ([iv w0.client, iv w0.stamp, iv w0.group, iv w0.epoch, iv w0.kind, iv w0.block, .slice Aw00 w0.data.length cw00, iv w0.old, iv w0.new, .slice Aw01 w0.next.length cw01]) 0 ag68 rfl hp rfl rfl rfl ?_
 have hcl:=wCheck_ok ⟨hIw0, _, _, _, _, rfl, (hw00.ext q0), (hw01.ext q0)⟩
 refine Cl_ cl136 rfl hcl ?_
 clear hcl
 rintro _ w2 ⟨rfl, hE2⟩
 replace q0:=q0.trans hE2
 replace hp:=hp.ext hE2
 refine Ne_ rfl rfl (go ?_)
 refine Gs 7 (fun hg1 => ?_) fun hg1 => ?_
 refine go ?_
 refine P1 results135 ?_
 exact ⟨_, rfl, bool_t (by unfold BM; simp_all; try omega), hp.chg⟩
 refine go ?_
 refine Fd_ 2 fld68_2 rfl rfl (go ?_)
 refine Hl_ 0 sc3 rfl hp rfl rfl (go ?_)
 refine Fe_ fld38_2 rfl (go ?_)
 refine Ld_ sc3 rfl ((hatn.ext q0).get rfl) (go ?_)
 refine Ne_ rfl rfl (go ?_)
 refine Gs 14 (fun hg2 => ?_) fun hg2 => ?_
 refine go ?_
 refine P1 results135 ?_
 exact ⟨_, rfl, bool_t (by unfold BM; simp_all; try omega), hp.chg⟩
 refine go ?_
 refine Fd_ 3 fld68_3 rfl rfl (go ?_)
 refine Hl_ 0 sc3 rfl hp rfl rfl (go ?_)
 refine Fe_ fld38_3 rfl (go ?_)
 refine Ld_ sc3 rfl ((hatn.ext q0).get rfl) (go ?_)
 refine Ne_ rfl rfl (go ?_)
 refine P1 results135 ?_
 exact ⟨_, rfl, congrArg Value.bool (decide_eq_decide.2 (by unfold BM; simp_all; try omega)), hp.chg⟩
set_option maxHeartbeats 4000000 in
theorem fits1_ok {n : Int} {w : World}  : Ret Tryz.prog 107 #[.int .i64 n] w (fun v w' => v = .bool (decide (¬ (1 ≤ n ∧ n ≤ 28))) ∧ w' = w) := by
 refine ret_of_wk Tryz.func107 rfl Tryz.ntmps107 (Nat.le_of_ble_eq_true rfl) ?_
 refine wc_seq ?_
 refine wc_region ?_
 refine wl_assign (by decide) rfl ?_
 refine wl_nil ?_
 refine wk_norm ?_
 refine wc_seq ?_
 refine wc_region ?_
 refine wl_move (by decide) rfl ?_
 refine wl_call (by decide) Tryz.cl63 rfl (n_isNode) ?_
 rintro _ _ ⟨rfl, rfl⟩
 first | refine wl_notd (by decide) rfl ?_ | refine wl_not (by decide) rfl ?_
 refine wl_assign (by decide) rfl ?_
 refine wl_nil ?_
 refine wk_norm ?_
 refine wc_ret ?_
 refine wk_post1 (.inl rfl) Tryz.results107 rfl ?_
 exact ⟨_, rfl, rfl, rfl⟩
set_option maxHeartbeats 4000000 in
theorem answerMay1_ok {n : Int} {w : World}  : Ret Tryz.prog 137 #[.int .i64 n] w (fun v w' => v = .bool (decide (¬ (1 ≤ n ∧ n ≤ 28))) ∧ w' = w) := by
 refine ret_of_wk Tryz.func137 rfl Tryz.ntmps137 (Nat.le_of_ble_eq_true rfl) ?_
 refine wc_seq ?_
 refine wc_region ?_
 refine wl_assign (by decide) rfl ?_
 refine wl_nil ?_
 refine wk_norm ?_
 refine wc_seq ?_
 refine wc_region ?_
 refine wl_move (by decide) rfl ?_
 refine wl_call (by decide) Tryz.cl63 rfl (n_isNode) ?_
 rintro _ _ ⟨rfl, rfl⟩
 first | refine wl_notd (by decide) rfl ?_ | refine wl_not (by decide) rfl ?_
 refine wl_assign (by decide) rfl ?_
 refine wl_nil ?_
 refine wk_norm ?_
 refine wc_ret ?_
 refine wk_post1 (.inl rfl) Tryz.results137 rfl ?_
 exact ⟨_, rfl, rfl, rfl⟩
set_option maxHeartbeats 40000000 in
theorem nBatchMay_ok {Al : Option Addr} {cl : Nat} {l : List Wsh} {Sl : Nat → Prop} {csn : List Value} {n : Nte} {Sn : Nat → Prop} (hl : GS wishR Sl w Al cl l) (hn : noteR.rd Sn w csn n) : Ret prog 100 #[.slice Al l.length cl, .agg csn.toArray] w (fun v w' => v = .bool (decide (BatchMay l n.group n.epoch)) ∧ Ext w w') := by
 obtain ⟨hIn, An0, cn0, An1, cn1, An2, cn2, An3, cn3, An4, cn4, An5, cn5, An6, cn6, An7, cn7, An8, cn8, An9, cn9, An10, cn10, rfl, hn0, hn1, hn2, hn3, hn4, hn5, hn6, hn7, hn8, hn9, hn10⟩ := hn
 have mhl:=hl.mx
 have mhn0:=hn0.mx
 have mhn1:=hn1.mx
 have mhn2:=hn2.mx
 have mhn3:=hn3.mx
 have mhn4:=hn4.mx
 have mhn5:=hn5.mx
 have mhn6:=hn6.mx
 have mhn7:=hn7.mx
 have mhn8:=hn8.mx
 have mhn9:=hn9.mx
 have mhn10:=hn10.mx
 refine ret_of_wk func100 rfl ntmps100 leB_ ?_
 have hp:=HP.begin_ w
 replace hl:=hl.now
 replace hn0:=hn0.now
 replace hn1:=hn1.now
 replace hn2:=hn2.now
 replace hn3:=hn3.now
 replace hn4:=hn4.now
 replace hn5:=hn5.now
 replace hn6:=hn6.now
 replace hn7:=hn7.now
 replace hn8:=hn8.now
 replace hn9:=hn9.now
 replace hn10:=hn10.now
 refine go ?_
 refine wl_hbox (by decide) rfl hp ?_
 rintro gs3 w1 hp1 hE1
 have q0:=hE1
 replace hp:=hp1
 refine go ?_
 refine Ln_ underlying24 rfl ?_
 refine Lq_ rfl rfl (go ?_)
 refine Gs 8 (fun hg1 => ?_) fun hg1 => ?_
 refine go ?_
 refine wl_makeFunc (first := []) (cap := [.tmp 3]) (by decide) rfl rfl ?_
 refine go ?_
 have hblk:=hp.blkAt (i := 0) rfl
 have hatb : AtF (fun _ => True) _ _ _ := ⟨hblk.at0, trivial, hblk.lt⟩
 have hrdb : noteR.rd (fun b => b < w.heap.size) _ _ n := ⟨hIn, _, _, _, _, _, _, _, _, _, _, _, _, _, _, _, _, _, _, _, _, _, _, rfl, (hn0.ext q0), (hn1.ext q0), (hn2.ext q0), (hn3.ext q0), (hn4.ext q0), (hn5.ext q0), (hn6.ext q0), (hn7.ext q0), (hn8.ext q0), (hn9.ext q0), (hn10.ext q0)⟩
 have hcl:=fWCon_ok (fid := 135) (first := []) (cap := [pt gs3 0]) (p0 := fun x => ¬ BM n.group n.epoch x) (hl.ext q0) cl135 (fun w1 cs x hE hr => batchMay1_ok hr (hatb.ext hE) (noteR.keep hE (fun _ _ _ x => x) hrdb))
 refine Cl_ cl134 rfl hcl ?_
 clear hcl
 rintro _ w7 ⟨rfl, hE7⟩
 replace hp:=hp.ext hE7
 refine go ?_
 first | refine Nd_ rfl ?_ | refine Nn_ rfl ?_
 refine go ?_
 refine P1 results100 ?_
 exact ⟨_, rfl, congrArg Value.bool (decide_eq_decide.2 (by unfold BatchMay; first | omega | (simp_all; try omega))), hp.chg⟩
 refine go ?_
 refine P1 results100 ?_
 exact ⟨_, rfl, bool_f (by unfold BatchMay; first | omega | (simp_all; try omega)), hp.chg⟩
set_option maxHeartbeats 40000000 in
theorem nAnswerMay_ok {csa : List Value} {a : Ans} {Sa : Nat → Prop} (ha : ansR.rd Sa w csa a) : Ret prog 102 #[.agg csa.toArray] w (fun v w' => v = .bool (decide (AnswerMay a)) ∧ Ext w w') := by
 obtain ⟨hIa, Aa0, ca0, Aa1, ca1, rfl, ha0, ha1⟩ := ha
 have mha0:=ha0.mx
 have mha1:=ha1.mx
 refine ret_of_wk func102 rfl ntmps102 leB_ ?_
 have hp:=HP.begin_ w
 replace ha1:=ha1.now
 refine go ?_
 refine wl_hbox (by decide) rfl hp ?_
 rintro gs1 w1 hp1 hE1
 have q0:=hE1
 replace hp:=hp1
 replace hp:=hp.ay (itB gs1 29 ([iv a.err, .slice Aa0 a.data.length ca0, iv a.epoch, .slice Aa1 a.nodes.length ca1]) :: _)
 refine go ?_
 refine Fd_ 0 fld29_0 rfl rfl ?_
 refine Hl_ 0 sc25 rfl hp rfl rfl ?_
 refine Cl_ cl62 rfl (n_within) ?_
 rintro _ _ ⟨rfl, rfl⟩
 refine go ?_
 refine Gs 6 (fun hg1 => ?_) fun hg1 => ?_
 refine go ?_
 refine Fd_ 1 fld29_1 rfl rfl (go ?_)
 refine Hl_ 0 sc26 rfl hp rfl rfl (go ?_)
 refine Ln_ underlying26 rfl (go ?_)
 refine Lq_ rfl rfl (go ?_)
 refine Gs 12 (fun hg2 => ?_) fun hg2 => ?_
 refine go ?_
 refine Fd_ 2 fld29_2 rfl rfl (go ?_)
 refine Hl_ 0 sc3 rfl hp rfl rfl (go ?_)
 refine Cl_ cl62 rfl (n_within) ?_
 rintro _ _ ⟨rfl, rfl⟩
 refine go ?_
 refine Gs 17 (fun hg3 => ?_) fun hg3 => ?_
 refine go ?_
 refine Fd_ 3 fld29_3 rfl rfl (go ?_)
 refine Hl_ 0 sc27 rfl hp rfl rfl (go ?_)
 refine Ln_ underlying27 rfl (go ?_)
 refine Lq_ rfl rfl (go ?_)
 refine Gs 23 (fun hg4 => ?_) fun hg4 => ?_
 refine go ?_
 refine Fd_ 3 fld29_3 rfl rfl (go ?_)
 refine Hl_ 0 sc27 rfl hp rfl rfl (go ?_)
 have hcl:=fICon_ok (fid := 137) (first := []) (cap := []) (p0 := fun x => ¬ (1 ≤ x ∧ x ≤ 28)) (ha1.ext q0) cl137 (fun w1 x hE => (answerMay1_ok (n := x)).mono (fun v w2 h => ⟨h.1, h.2 ▸ Chg.refl _ _⟩))
 refine Cl_ cl106 rfl hcl ?_
 clear hcl
 rintro _ w7 ⟨rfl, hE7⟩
 replace hp:=hp.ext hE7
 refine go ?_
 first | refine Nd_ rfl ?_ | refine Nn_ rfl ?_
 refine go ?_
 refine P1 results102 ?_
 exact ⟨_, rfl, congrArg Value.bool (decide_eq_decide.2 (by unfold AnswerMay; first | omega | exact ⟨fun h => ⟨by omega, by omega, by omega, by omega, by omega, by omega, fun y hy => Decidable.byContradiction fun hn => h ⟨y, hy, hn⟩⟩, fun h ⟨y, hy, hn⟩ => hn (h.2.2.2.2.2.2 y hy)⟩)), hp.chg⟩
 refine go ?_
 refine P1 results102 ?_
 exact ⟨_, rfl, bool_f (by unfold AnswerMay; first | omega | exact ⟨fun h => ⟨by omega, by omega, by omega, by omega, by omega, by omega, fun y hy => Decidable.byContradiction fun hn => h ⟨y, hy, hn⟩⟩, fun h ⟨y, hy, hn⟩ => hn (h.2.2.2.2.2.2 y hy)⟩), hp.chg⟩
 refine go ?_
 refine P1 results102 ?_
 exact ⟨_, rfl, bool_f (by unfold AnswerMay; first | omega | exact ⟨fun h => ⟨by omega, by omega, by omega, by omega, by omega, by omega, fun y hy => Decidable.byContradiction fun hn => h ⟨y, hy, hn⟩⟩, fun h ⟨y, hy, hn⟩ => hn (h.2.2.2.2.2.2 y hy)⟩), hp.chg⟩
 refine go ?_
 refine P1 results102 ?_
 exact ⟨_, rfl, bool_f (by unfold AnswerMay; first | omega | exact ⟨fun h => ⟨by omega, by omega, by omega, by omega, by omega, by omega, fun y hy => Decidable.byContradiction fun hn => h ⟨y, hy, hn⟩⟩, fun h ⟨y, hy, hn⟩ => hn (h.2.2.2.2.2.2 y hy)⟩), hp.chg⟩
 refine go ?_
 refine P1 results102 ?_
 exact ⟨_, rfl, bool_f (by unfold AnswerMay; first | omega | exact ⟨fun h => ⟨by omega, by omega, by omega, by omega, by omega, by omega, fun y hy => Decidable.byContradiction fun hn => h ⟨y, hy, hn⟩⟩, fun h ⟨y, hy, hn⟩ => hn (h.2.2.2.2.2.2 y hy)⟩), hp.chg⟩
def RiseI (l : List Int) : Prop := ∀ i, i < l.length → 0 < i → l.getD (i - 1) 0 < l.getD i 0
instance (l : List Int) : Decidable (RiseI l) := by unfold RiseI; infer_instance
set_option maxHeartbeats 40000000 in
theorem nRise_ok {Al : Option Addr} {cl : Nat} {l : List Int} {Sl : Nat → Prop} (hl : GS intR Sl w Al cl l) : Ret prog 93 #[.slice Al l.length cl] w (fun v w' => v = .bool (decide (RiseI l)) ∧ Ext w w') := by
 have mhl:=hl.mx
 refine ret_of_wk func93 rfl ntmps93 leB_ ?_
 have hEc : Ext w w := Chg.refl _ _
 refine go ?_
 refine wc_loop (fun L' w' mes => ∃ (k : Nat), L' = [(0, .slice Al l.length cl), (3, iv (k : Int))] ∧ (1 ≤ k) ∧ (∀ i, i < k → 0 < i → l.getD (i - 1) 0 < l.getD i 0) ∧ (GS intR Sl w' Al cl l) ∧ (Ext w w') ∧ l.length - k = mes) [(0, .slice Al l.length cl), (3, iv (1 : Int))] (l.length - 1) (by
     refine ⟨1, rfl, ?_, ?_, ?_, ?_, rfl⟩
     · omega
     · intro i hi; omega
     · exact hl
     · exact hEc) ⟨rfl, rfl, trivial⟩ ?_
 rintro _ wr _ ⟨k, rfl, h1, hall, hl, hEc, rfl⟩ KL1 hKL1
 refine go ?_
 refine Ln_ underlying27 rfl ?_
 refine Ls_ rfl rfl (go ?_)
 refine Cd (fun hc1 => ?_) fun hc1 => ?_
 refine go ?_
 obtain ⟨aw2, hAw2, hatw2⟩ := GS.elI hl k (by omega)
 obtain ⟨aw7, hAw7, hatw7⟩ := GS.elI hl (k - 1) (by omega)
 apply wdL [.eq _,.eq _,.eq _,.eq _,.eq _,.eq _,.eq _,.eq _,.eq _,.eq _]
 refine ⟨?_,?_,?_,?_,?_,?_,?_,?_,?_,?_,trivial⟩<;>intro F wF hER hk
 exact dm (hk.qi 0)
 exact dm (hk.qi 3)
 have e10:=hk.qe 0
 have e11:=hk.qe 1
 exact wl_idx0 (by decide) sl27 e10 e11 hAw2 k rfl (by omega) qz
 exact Ld_ sc3 (hk.qe 2) (hatw2.ext hER).head qz
 exact dm (hk.qi 0)
 exact dm (hk.qi 3)
 exact wl_sub (by decide) (hk.qe 5) rfl (w64 (by omega) (by omega)) qz
 have e14:=hk.qe 4
 have e16:=hk.qe 6
 exact wl_idx0 (by decide) sl27 e14 e16 hAw7 (k - 1) (by omega) (by omega) qz
 exact Ld_ sc3 (hk.qe 7) (hatw7.ext hER).head qz
 have e13:=hk.qe 3
 have e18:=hk.qe 8
 exact Lq_ e13 e18 qz
 intro F wD hED hini hdo
 refine wk_drop [(0, _), (3, _), (19, _)] ⟨di hini 0, di hini 3, dq hdo 9, trivial⟩ ?_
 clear hini hdo
 have q0:=hED
 replace hEc:=hEc.trans hED
 refine go ?_
 refine Cd (fun hc2 => ?_) fun hc2 => ?_
 refine go ?_
 refine P1 results93 ?_
 exact ⟨_, rfl, bool_f (fun h => by have := h k (by omega) (by omega); omega), hEc⟩
 refine go ?_
 refine wl_add (by decide) rfl rfl (w64 (by omega) (by omega)) (gl ?_)
 refine wk_drop [(0, .slice Al l.length cl), (3, iv ((k + 1) : Int))] ⟨rfl, rfl, trivial⟩ (hKL1 _ _ (m2 := l.length - (k + 1)) ?_ ?_)
 refine ⟨(k + 1), rfl, ?_, ?_, ?_, ?_, rfl⟩
 omega
 exact upto hall (fun _ => by omega)
 exact (hl.ext q0)
 exact hEc
 omega
 refine go ?_
 refine P1 results93 ?_
 exact ⟨_, rfl, bool_t (fun i hi => hall i (by omega)), hEc⟩
end Go.Proofs.YtkdoomglflikkaaGreat
namespace Go.Eng
def RunSt (l : List Stn) (k same : Nat) : Prop := same ≤ k ∧ (k = 0 → same = 0) ∧ (0 < k → 0 < same ∧ (∀ i, k - same ≤ i → i < k → (l.getD i stand0).seq = (l.getD (k - 1) stand0).seq) ∧ (∀ i, i < k - same → (l.getD i stand0).seq < (l.getD (k - 1) stand0).seq))
theorem RunSt.zero (l : List Stn) : RunSt l 0 0 := ⟨Nat.le_refl _, fun _ => rfl, fun h => absurd h (by omega)⟩
theorem RunSt.up {l : List Stn} {k same : Nat} (h : RunSt l k same) (hk : k = 0 ∨ (l.getD (k - 1) stand0).seq < (l.getD k stand0).seq) : RunSt l (k + 1) 1 := by
 refine ⟨by omega, by omega, fun _ => ⟨by omega, fun i h1 h2 => ?_, fun i h1 => ?_⟩⟩
 ·rw [show i = k by omega, show k + 1 - 1 = k by omega]
 ·rw [show k + 1 - 1 = k by omega]
  rcases hk with hk | hk
  ·omega
  ·obtain ⟨_, h3, h4⟩ := h.2.2 (by omega)
   by_cases hi : i < k - same
   ·have := h4 i hi; omega
   ·have := h3 i (by omega) (by omega); omega
end Go.Eng
namespace Go.Eng
open Go.RowKit
section
variable {P : Program} {n : Nat} {L : List (Nat × Value)} {w : World} {Q : Exit → Act → World → Prop} {ops : Array Oper} {rest : List Oper} {ty : TypeId} {pos : String} {af : Array Edge} {d : Nat}
def cmpFn (P : Program) (f : FuncId) : Bool := match P.funcs[f]? with
 | some fn => !(fn.name == "runtime.NumGoroutine") && fn.body.isNone && (Extern.findNext fn).isNone && (fn.name == "internal/bytealg.Compare")
 | none => false
theorem loadB {w : World} : ∀ (l : List UInt8) (a : Addr) (acc : ByteArray), At w a (l.map fun b => bv b) → (Extern.Bytes.loadBytes a l.length acc).run P w = .ok ⟨acc.data ++ l.toArray⟩ w
 | [], a, acc, _ => by simp [Extern.Bytes.loadBytes]
 | x :: l, a, acc, h => by
  have h0 : w.cell? a = some (bv x) := by
   have := h 0 (bv x) rfl
   simpa [Addr.add] using this
  have ih := loadB (w := w) l (a.add 1) (acc.push x) (fun j y hy => by
   have := h (j + 1) y (by simpa using hy)
   have e : (a.add 1).add j = a.add (j + 1) := by
    unfold Addr.add
    by_cases hj : j = 0
    ·subst hj; simp
    ·simp [hj]; omega
   rw [e]; exact this)
  have hx : ((x.toNat : Int)).toNat.toUInt8 = x := by simp
  simp only [List.length_cons, Extern.Bytes.loadBytes, Sem.run_bind, run_load, h0, Result.andThen, bv]
  rw [hx, ih]
  congr 1
  apply ByteArray.ext
  simp [ByteArray.push]
theorem bytesOf_bs {S : Nat → Prop} {A : Option Addr} {c : Nat} {l : List UInt8} (h : BS S w A c l) : (Extern.Bytes.bytesOf (.slice A l.length c)).run P w = .ok ⟨l.toArray⟩ w := by
 cases A with
 | none =>
  cases l with
  | nil => simp [Extern.Bytes.bytesOf]; rfl
  | cons x t =>
   obtain ⟨a, _, ha, _⟩ := h.rd 0 (by simp)
   cases ha
 | some a =>
  simp only [Extern.Bytes.bytesOf]
  have hat : At w a (l.map fun b => bv b) := by
   intro j v hj
   rw [List.getElem?_map] at hj
   cases hl : l[j]? with
   | none => rw [hl] at hj; cases hj
   | some x =>
    rw [hl] at hj
    simp only [Option.map_some, Option.some.injEq] at hj
    subst hj
    have hjl : j < l.length := (List.getElem?_eq_some_iff.1 hl).1
    obtain ⟨a', cs, ha, _, _, hc, hr⟩ := h.rd j hjl
    cases ha
    obtain rfl : cs = [bv l[j]] := hr
    have := hc 0 _ rfl
    have hx : l[j] = x := (List.getElem?_eq_some_iff.1 hl).2
    rw [hx] at this
    have e : (a.add (j * byteR.size)).add 0 = a.add j := by
     show (a.add (j * 1)).add 0 = a.add j
     rw [Nat.mul_one]; unfold Addr.add; simp
    rwa [e] at this
  have := loadB (P := P) l a .empty hat
  rw [this]
  congr 1
  apply ByteArray.ext
  simp
theorem wl_cmpB {f : FuncId} {xs : List Operand} {A B : Option Addr} {c k : Nat} {la lb : List UInt8} {S S' : Nat → Prop} {ts : Array TypeId} (hd : d < n) (hf : cmpFn P f = true) (hx : evs L xs = some [.slice A la.length c, .slice B lb.length k]) (ha : BS S w A c la) (hb : BS S' w B k lb)
  (h : WL P n ops Q rest ((d, .int .i64 (Lib.compareBytes la lb)) :: L) w) :
  WL P n ops Q ({ dst := some d, op := .call { callee := .value (.func f), args := xs.toArray, argTypes := ts }, type := ty, pos := pos, after := af, guard := none } :: rest) L w := by
 unfold cmpFn at hf
 split at hf
 ·rename_i fn hfn
  simp only [Bool.and_eq_true, Bool.not_eq_true', beq_iff_eq] at hf
  obtain ⟨⟨⟨h1, h2⟩, h3⟩, h4⟩ := hf
  have he : Extern.find fn = some Extern.BytealgCompare.compare := by
   unfold Extern.find
   rw [h4]
   kernel_rfl
  have hrun := run_callFunc_extern hfn (by simpa using h1) h2 (by simpa using h3) he #[.slice A la.length c, .slice B lb.length k] w
  have hcmp : (Extern.BytealgCompare.compare #[.slice A la.length c, .slice B lb.length k]).run P w = .ok (.int .i64 (Lib.compareBytes la lb)) w := by
   change Sem.run P (do pure (goInt (Extern.BytealgCompare.cmp (← Extern.Bytes.bytesOf (.slice A la.length c)) (← Extern.Bytes.bytesOf (.slice B lb.length k))))) w = _
   simp only [Sem.run_bind, Sem.run_pure, bytesOf_bs ha, bytesOf_bs hb, Result.andThen_ok]
   rw [Lib.cmp_eq]
   rfl
  rw [hcmp] at hrun
  refine wl_run hd (fun a haf => ?_) h
  have hm := evs_map haf hx
  simp [execOp, resolve, Act.eval, Deferred.ofValue, invoke, hm, hrun, Result.andThen]
 ·cases hf
theorem wl_bsliceI {t e bytes : Nat} {xs : List Operand} {l : List Int} {k : Nat} {ps : Array (Nat × Operand)} (hd : d < n) (hT : slB P t e 1 bytes = true) (hp : ps = (partsOf 0 xs).toArray) (hv : evs L xs = some (l.map fun n => .int .i64 n)) (hk : k = l.length) (hm : l.length ≤ 16777216)
  (h : ∀ g w', GS intR (fun _ => True) w' (some ⟨g, 0, none⟩) k l → Ext w w' → WL P n ops Q rest ((d, .slice (some ⟨g, 0, none⟩) l.length k) :: L) w') :
  WL P n ops Q ({ dst := some d, op := .buildSlice t k ps, type := ty, pos := pos, after := af, guard := none } :: rest) L w :=
 wl_bsliceE (fun _ => rfl) hd hT hp hv hk hm 0 (Nat.zero_le _) (fun g w' _ ho hE => h g w' (ho.gsF (fun _ _ _ => trivial)) hE)
end
end Go.Eng
namespace Go.Proofs.YtkdoomglflikkaaGreat
open Go.RowKit Go.Eng _root_.Go.Proofs.Tryz
set_option maxRecDepth 100000
variable {w0 w : World} {M0 Fz : Nat → Prop} {H : List It} {A : Option Addr} {c : Nat}
def cmpI (x y : Int) : Int := if x < y then -1 else if y < x then 1 else 0
def orI : List Int → Int
 | [] => 0
 | x :: t => if x = 0 then orI t else x
theorem orI_step {l : List Int} {k : Nat} (hk : k < l.length) : orI (l.drop k) = if l.getD k 0 = 0 then orI (l.drop (k + 1)) else l.getD k 0 := by
 rw [List.drop_eq_getElem_cons hk, orI, List.getD_eq_getElem?_getD, List.getElem?_eq_getElem hk]; rfl
set_option maxHeartbeats 4000000 in
theorem isNaN_ok {x : Int} {w : World}  : Ret Tryz.prog 154 #[.int .i64 x] w (fun v w' => v = .bool (decide (False)) ∧ w' = w) := by
 refine ret_of_wk Tryz.func154 rfl Tryz.ntmps154 (Nat.le_of_ble_eq_true rfl) ?_
 refine wc_seq ?_
 refine wc_region ?_
 refine wl_assign (by decide) rfl ?_
 refine wl_nil ?_
 refine wk_norm ?_
 refine wc_seq ?_
 refine wc_region ?_
 refine wl_move (by decide) rfl ?_
 refine wl_move (by decide) rfl ?_
 refine wl_neq (by decide) rfl rfl ?_
 refine wl_assign (by decide) rfl ?_
 refine wl_nil ?_
 refine wk_norm ?_
 refine wc_ret ?_
 refine wk_post1 (.inl rfl) Tryz.results154 rfl ?_
 exact ⟨_, rfl, congrArg Value.bool (decide_eq_decide.2 (by simp)), rfl⟩
set_option maxHeartbeats 40000000 in
theorem cmpI_ok {x : Int} {y : Int}  : Ret prog 149 #[.int .i64 x, .int .i64 y] w (fun v w' => v = .int .i64 (cmpI x y) ∧ w' = w) := by
 refine ret_of_wk func149 rfl ntmps149 leB_ ?_
 refine go ?_
 refine Cl_ cl154 rfl (isNaN_ok) ?_
 rintro _ _ ⟨rfl, rfl⟩
 refine go ?_
 refine Cl_ cl154 rfl (isNaN_ok) ?_
 rintro _ _ ⟨rfl, rfl⟩
 refine go ?_
 refine Cd (fun hna => ?_) fun hna => ?_
 exact hna.elim
 refine go ?_
 refine Cd (fun hnb => ?_) fun hnb => ?_
 exact hnb.elim
 refine go ?_
 refine Ls_ rfl rfl (go ?_)
 refine Cd (fun hc3 => ?_) fun hc3 => ?_
 ·refine go ?_
  refine P1 results149 ?_
  exact ⟨_, rfl, by exact congrArg (Value.int .i64) (by unfold cmpI; repeat (first | omega | split)), rfl⟩
 refine go ?_
 refine Gt_ rfl rfl (go ?_)
 refine Cd (fun hc4 => ?_) fun hc4 => ?_
 ·refine go ?_
  refine P1 results149 ?_
  exact ⟨_, rfl, by exact congrArg (Value.int .i64) (by unfold cmpI; repeat (first | omega | split)), rfl⟩
 refine go ?_
 refine P1 results149 ?_
 exact ⟨_, rfl, by exact congrArg (Value.int .i64) (by unfold cmpI; repeat (first | omega | split)), rfl⟩
set_option maxHeartbeats 40000000 in
theorem orI_ok {Al : Option Addr} {cl : Nat} {l : List Int} {Sl : Nat → Prop} (hl : GS intR Sl w Al cl l) : Ret prog 148 #[.slice Al l.length cl] w (fun v w' => v = .int .i64 (orI l) ∧ w' = w) := by
 have mhl:=hl.mx
 refine ret_of_wk func148 rfl ntmps148 leB_ ?_
 refine go ?_
 refine Ln_ underlying27 rfl (go ?_)
 refine wc_loop (fun L' w' mes => ∃ (k : Nat), L' = [(3, iv 0), (6, .slice Al l.length cl), (7, iv (l.length : Int)), (8, iv (k : Int))] ∧ (k ≤ l.length) ∧ (orI l = orI (l.drop k)) ∧ (w = w') ∧ l.length - k = mes) [(3, iv 0), (6, .slice Al l.length cl), (7, iv (l.length : Int)), (8, iv (0 : Int))] (l.length - 0) (by
     refine ⟨0, rfl, ?_, ?_, ?_, rfl⟩
     · omega
     · rfl
     · rfl) ⟨rfl, rfl, rfl, rfl, trivial⟩ ?_
 rintro _ wr _ ⟨k, rfl, hk, hor, hw_, rfl⟩ KL1 hKL1
 subst hw_
 refine go ?_
 refine Ls_ rfl rfl (go ?_)
 refine Cd (fun hc1 => ?_) fun hc1 => ?_
 refine go ?_
 obtain ⟨ae1, hAe1, hate1⟩ := GS.elI hl k (by omega)
 refine wl_idx0 (by decide) sl27 rfl rfl hAe1 k rfl (by omega) ?_
 refine Ld_ sc3 rfl hate1.head (go ?_)
 refine Ne_ rfl rfl (go ?_)
 refine Cd (fun hc2 => ?_) fun hc2 => ?_
 refine go ?_
 refine P1 results148 ?_
 exact ⟨_, rfl, congrArg (Value.int .i64) (by rw [hor, orI_step (by omega), if_neg (by omega)]), rfl⟩
 refine go ?_
 refine wl_add (by decide) rfl rfl (w64 (by omega) (by omega)) (gl ?_)
 refine wk_drop [(3, iv 0), (6, .slice Al l.length cl), (7, iv (l.length : Int)), (8, iv ((k + 1) : Int))] ⟨rfl, rfl, rfl, rfl, trivial⟩ (hKL1 _ _ (m2 := l.length - (k + 1)) ?_ ?_)
 refine ⟨(k + 1), rfl, ?_, ?_, ?_, rfl⟩
 omega
 rw [hor, orI_step (by omega), if_pos (by omega)]
 rfl
 omega
 refine go ?_
 refine P1 results148 ?_
 exact ⟨_, rfl, congrArg (Value.int .i64) (by rw [hor, show k = l.length by omega, List.drop_length]; rfl), rfl⟩
set_option maxHeartbeats 4000000 in
theorem bcompare_ok {Aa : Option Addr} {ca : Nat} {a : List UInt8} {Sa : Nat → Prop} {Ab : Option Addr} {cb : Nat} {b : List UInt8} {Sb : Nat → Prop} {w : World} (ha : GS byteR Sa w Aa ca a) (hb : GS byteR Sb w Ab cb b) : Ret Tryz.prog 150 #[.slice Aa a.length ca, .slice Ab b.length cb] w (fun v w' => v = .int .i64 (Lib.compareBytes a b) ∧ Ext w w') := by
 have mha := ha.mx
 have mhb := hb.mx
 refine ret_of_wk Tryz.func150 rfl Tryz.ntmps150 (Nat.le_of_ble_eq_true rfl) ?_
 have hEc : Ext w w := Chg.refl _ _
 refine wc_seq ?_
 refine wc_region ?_
 refine wl_assign (by decide) rfl ?_
 refine wl_nil ?_
 refine wk_norm ?_
 refine wc_seq ?_
 refine wc_region ?_
 refine wl_move (by decide) rfl ?_
 refine wl_move (by decide) rfl ?_
 refine wl_cmpB (by decide) (by kernel_rfl) rfl ha hb ?_
 refine wl_assign (by decide) rfl ?_
 refine wl_nil ?_
 refine wk_norm ?_
 refine wc_ret ?_
 refine wk_post1 (.inl rfl) Tryz.results150 rfl ?_
 exact ⟨_, rfl, by rfl, hEc⟩
set_option maxHeartbeats 40000000 in
theorem nSame_ok {csa : List Value} {a : Nte} {Sa : Nat → Prop} {csb : List Value} {b : Nte} {Sb : Nat → Prop} (ha : noteR.rd Sa w csa a) (hb : noteR.rd Sb w csb b) : Ret prog 41 #[.agg csa.toArray, .agg csb.toArray] w (fun v w' => v = .bool (decide (a = b)) ∧ Ext w w') := by
 obtain ⟨hIa, Aa0, ca0, Aa1, ca1, Aa2, ca2, Aa3, ca3, Aa4, ca4, Aa5, ca5, Aa6, ca6, Aa7, ca7, Aa8, ca8, Aa9, ca9, Aa10, ca10, rfl, ha0, ha1, ha2, ha3, ha4, ha5, ha6, ha7, ha8, ha9, ha10⟩ := ha
 obtain ⟨hIb, Ab0, cb0, Ab1, cb1, Ab2, cb2, Ab3, cb3, Ab4, cb4, Ab5, cb5, Ab6, cb6, Ab7, cb7, Ab8, cb8, Ab9, cb9, Ab10, cb10, rfl, hb0, hb1, hb2, hb3, hb4, hb5, hb6, hb7, hb8, hb9, hb10⟩ := hb
 have mha0:=ha0.mx
 have mha1:=ha1.mx
 have mha2:=ha2.mx
 have mha3:=ha3.mx
 have mha4:=ha4.mx
 have mha5:=ha5.mx
 have mha6:=ha6.mx
 have mha7:=ha7.mx
 have mha8:=ha8.mx
 have mha9:=ha9.mx
 have mha10:=ha10.mx
 have mhb0:=hb0.mx
 have mhb1:=hb1.mx
 have mhb2:=hb2.mx
 have mhb3:=hb3.mx
 have mhb4:=hb4.mx
 have mhb5:=hb5.mx
 have mhb6:=hb6.mx
 have mhb7:=hb7.mx
 have mhb8:=hb8.mx
 have mhb9:=hb9.mx
 have mhb10:=hb10.mx
 refine ret_of_wk func41 rfl ntmps41 leB_ ?_
 have hp:=HP.begin_ w
 replace ha0:=ha0.now
 replace ha1:=ha1.now
 replace ha2:=ha2.now
 replace ha3:=ha3.now
 replace ha4:=ha4.now
 replace ha5:=ha5.now
 replace ha6:=ha6.now
 replace ha7:=ha7.now
 replace ha8:=ha8.now
 replace ha9:=ha9.now
 replace ha10:=ha10.now
 replace hb0:=hb0.now
 replace hb1:=hb1.now
 replace hb2:=hb2.now
 replace hb3:=hb3.now
 replace hb4:=hb4.now
 replace hb5:=hb5.now
 replace hb6:=hb6.now
 replace hb7:=hb7.now
 replace hb8:=hb8.now
 replace hb9:=hb9.now
 replace hb10:=hb10.now
 refine go ?_
 refine wl_hbox (by decide) rfl hp ?_
 rintro gs2 w1 hp1 hE1
 have q0:=hE1
 replace hp:=hp1
 refine wl_hbox (by decide) rfl hp ?_
 rintro gs3 w2 hp2 hE2
 replace q0:=q0.trans hE2
 replace hp:=hp2
 refine gl ?_
 refine wc_seq_cut (fun L' w' => ∃ (m1 : Bool), L' = [(2, pt gs2 0), (3, pt gs3 0), (5, .bool m1)] ∧ (m1 = decide (a.kind = b.kind ∧ a.from_ = b.from_ ∧ a.group = b.group ∧ a.epoch = b.epoch ∧ a.view = b.view ∧ a.seq = b.seq ∧ a.dig = b.dig)) ∧ (GS wishR (fun b => b < w.heap.size) w' Aa0 ca0 a.batch) ∧ (GS byteR (fun b => b < w.heap.size) w' Aa1 ca1 a.ans.data) ∧ (GS intR (fun b => b < w.heap.size) w' Aa2 ca2 a.ans.nodes) ∧ (GS markR (fun b => b < w.heap.size) w' Aa3 ca3 a.change.marks) ∧ (GS standR (fun b => b < w.heap.size) w' Aa4 ca4 a.change.p) ∧ (GS standR (fun b => b < w.heap.size) w' Aa5 ca5 a.change.q) ∧ (GS changeR (fun b => b < w.heap.size) w' Aa6 ca6 a.changes) ∧ (GS pickR (fun b => b < w.heap.size) w' Aa7 ca7 a.picks) ∧ (GS digR (fun b => b < w.heap.size) w' Aa8 ca8 a.digs) ∧ (GS byteR (fun b => b < w.heap.size) w' Aa9 ca9 a.data) ∧ (GS intR (fun b => b < w.heap.size) w' Aa10 ca10 a.nodes) ∧ (GS wishR (fun b => b < w.heap.size) w' Ab0 cb0 b.batch) ∧ (GS byteR (fun b => b < w.heap.size) w' Ab1 cb1 b.ans.data) ∧ (GS intR (fun b => b < w.heap.size) w' Ab2 cb2 b.ans.nodes) ∧ (GS markR (fun b => b < w.heap.size) w' Ab3 cb3 b.change.marks) ∧ (GS standR (fun b => b < w.heap.size) w' Ab4 cb4 b.change.p) ∧ (GS standR (fun b => b < w.heap.size) w' Ab5 cb5 b.change.q) ∧ (GS changeR (fun b => b < w.heap.size) w' Ab6 cb6 b.changes) ∧ (GS pickR (fun b => b < w.heap.size) w' Ab7 cb7 b.picks) ∧ (GS digR (fun b => b < w.heap.size) w' Ab8 cb8 b.digs) ∧ (GS byteR (fun b => b < w.heap.size) w' Ab9 cb9 b.data) ∧ (GS intR (fun b => b < w.heap.size) w' Ab10 cb10 b.nodes) ∧ (HP w (fun _ => False) (fun b => b < w.heap.size) w' (itB gs3 38 ([iv b.kind, iv b.from_, iv b.group, iv b.epoch, iv b.view, iv b.seq] ++ (digC b.dig ++ ([.slice Ab0 b.batch.length cb0, iv b.ans.err, .slice Ab1 b.ans.data.length cb1, iv b.ans.epoch, .slice Ab2 b.ans.nodes.length cb2, iv b.stamp, iv b.node, iv b.change.node, iv b.change.view, iv b.change.low, .slice Ab3 b.change.marks.length cb3, .slice Ab4 b.change.p.length cb4, .slice Ab5 b.change.q.length cb5, .slice Ab6 b.changes.length cb6, .slice Ab7 b.picks.length cb7, iv b.level, iv b.place, .slice Ab8 b.digs.length cb8, .slice Ab9 b.data.length cb9, .slice Ab10 b.nodes.length cb10]))) :: itB gs2 38 ([iv a.kind, iv a.from_, iv a.group, iv a.epoch, iv a.view, iv a.seq] ++ (digC a.dig ++ ([.slice Aa0 a.batch.length ca0, iv a.ans.err, .slice Aa1 a.ans.data.length ca1, iv a.ans.epoch, .slice Aa2 a.ans.nodes.length ca2, iv a.stamp, iv a.node, iv a.change.node, iv a.change.view, iv a.change.low, .slice Aa3 a.change.marks.length ca3, .slice Aa4 a.change.p.length ca4, .slice Aa5 a.change.q.length ca5, .slice Aa6 a.changes.length ca6, .slice Aa7 a.picks.length ca7, iv a.level, iv a.place, .slice Aa8 a.digs.length ca8, .slice Aa9 a.data.length ca9, .slice Aa10 a.nodes.length ca10]))) :: []))) (fun K hK => ?_) ?_
 refine go ?_
 refine Fd_ 0 fld38_0 rfl rfl ?_
 refine Hl_ 1 sc3 rfl hp rfl rfl ?_
 refine Fd_ 0 fld38_0 rfl rfl ?_
 refine Hl_ 0 sc3 rfl hp rfl rfl ?_
 refine Eq_ rfl rfl (go ?_)
 refine Gs 16 (fun hg1 => ?_) fun hg1 => ?_
 refine go ?_
 refine Fd_ 1 fld38_1 rfl rfl (go ?_)
 refine Hl_ 1 sc3 rfl hp rfl rfl (go ?_)
 refine Fd_ 1 fld38_1 rfl rfl (go ?_)
 refine Hl_ 0 sc3 rfl hp rfl rfl (go ?_)
 refine Eq_ rfl rfl (go ?_)
 refine Gs 23 (fun hg2 => ?_) fun hg2 => ?_
 refine go ?_
 refine Fd_ 2 fld38_2 rfl rfl (go ?_)
 refine Hl_ 1 sc3 rfl hp rfl rfl (go ?_)
 refine Fd_ 2 fld38_2 rfl rfl (go ?_)
 refine Hl_ 0 sc3 rfl hp rfl rfl (go ?_)
 refine Eq_ rfl rfl (go ?_)
 refine Gs 30 (fun hg3 => ?_) fun hg3 => ?_
 refine go ?_
 refine Fd_ 3 fld38_3 rfl rfl (go ?_)
 refine Hl_ 1 sc3 rfl hp rfl rfl (go ?_)
 refine Fd_ 3 fld38_3 rfl rfl (go ?_)
 refine Hl_ 0 sc3 rfl hp rfl rfl (go ?_)
 refine Eq_ rfl rfl (go ?_)
 refine Gs 37 (fun hg4 => ?_) fun hg4 => ?_
 refine go ?_
 refine Fd_ 4 fld38_4 rfl rfl (go ?_)
 refine Hl_ 1 sc3 rfl hp rfl rfl (go ?_)
 refine Fd_ 4 fld38_4 rfl rfl (go ?_)
 refine Hl_ 0 sc3 rfl hp rfl rfl (go ?_)
 refine Eq_ rfl rfl (go ?_)
 refine Gs 44 (fun hg5 => ?_) fun hg5 => ?_
 refine go ?_
 refine Fd_ 5 fld38_5 rfl rfl (go ?_)
 refine Hl_ 1 sc3 rfl hp rfl rfl (go ?_)
 refine Fd_ 5 fld38_5 rfl rfl (go ?_)
 refine Hl_ 0 sc3 rfl hp rfl rfl (go ?_)
 refine Eq_ rfl rfl (go ?_)
 refine Gs 51 (fun hg6 => ?_) fun hg6 => ?_
 refine go ?_
 refine Fd_ 6 fld38_6 rfl rfl (go ?_)
 refine Hx_ (digC a.dig) 1 ag23 rfl hp rfl rfl rfl (go ?_)
 refine Fd_ 6 fld38_6 rfl rfl (go ?_)
 refine Hx_ (digC b.dig) 0 ag23 rfl hp rfl rfl rfl (go ?_)
 refine wl_eqlK (m := 6) (a.dig = b.dig) (by decide) key23 eg23 rfl rfl (digC_fit _) (digC_fit _) digC_inj ?_
 refine gl ?_
 refine wk_drop [(2, pt gs2 0), (3, pt gs3 0), (5, .bool _)] ⟨rfl, rfl, rfl, trivial⟩ (hK _ _ ?_)
 refine ⟨_, rfl, ?_, ?_, ?_, ?_, ?_, ?_, ?_, ?_, ?_, ?_, ?_, ?_, ?_, ?_, ?_, ?_, ?_, ?_, ?_, ?_, ?_, ?_, ?_, ?_⟩
 first | exact (decide_eq_true (by (try simp only [decide_eq_true_eq, decide_eq_false_iff_not] at hg1 hg2 hg3 hg4 hg5 hg6); simp [hg1, hg2, hg3, hg4, hg5, hg6])).symm | exact (decide_eq_false (by (try simp only [decide_eq_true_eq, decide_eq_false_iff_not] at hg1 hg2 hg3 hg4 hg5 hg6); simp [hg1, hg2, hg3, hg4, hg5, hg6])).symm | exact decide_eq_decide.2 (by (try simp only [decide_eq_true_eq, decide_eq_false_iff_not] at hg1 hg2 hg3 hg4 hg5 hg6); simp [hg1, hg2, hg3, hg4, hg5, hg6])
 exact (ha0.ext q0)
 exact (ha1.ext q0)
 exact (ha2.ext q0)
 exact (ha3.ext q0)
 exact (ha4.ext q0)
 exact (ha5.ext q0)
 exact (ha6.ext q0)
 exact (ha7.ext q0)
 exact (ha8.ext q0)
 exact (ha9.ext q0)
 exact (ha10.ext q0)
 exact (hb0.ext q0)
 exact (hb1.ext q0)
 exact (hb2.ext q0)
 exact (hb3.ext q0)
 exact (hb4.ext q0)
 exact (hb5.ext q0)
 exact (hb6.ext q0)
 exact (hb7.ext q0)
 exact (hb8.ext q0)
 exact (hb9.ext q0)
 exact (hb10.ext q0)
 exact hp
 refine gl ?_
 refine wk_drop [(2, pt gs2 0), (3, pt gs3 0), (5, .bool _)] ⟨rfl, rfl, rfl, trivial⟩ (hK _ _ ?_)
 refine ⟨_, rfl, ?_, ?_, ?_, ?_, ?_, ?_, ?_, ?_, ?_, ?_, ?_, ?_, ?_, ?_, ?_, ?_, ?_, ?_, ?_, ?_, ?_, ?_, ?_, ?_⟩
 first | exact (decide_eq_true (by (try simp only [decide_eq_true_eq, decide_eq_false_iff_not] at hg1 hg2 hg3 hg4 hg5 hg6); simp [hg1, hg2, hg3, hg4, hg5, hg6])).symm | exact (decide_eq_false (by (try simp only [decide_eq_true_eq, decide_eq_false_iff_not] at hg1 hg2 hg3 hg4 hg5 hg6); simp [hg1, hg2, hg3, hg4, hg5, hg6])).symm | exact decide_eq_decide.2 (by (try simp only [decide_eq_true_eq, decide_eq_false_iff_not] at hg1 hg2 hg3 hg4 hg5 hg6); simp [hg1, hg2, hg3, hg4, hg5, hg6])
 exact (ha0.ext q0)
 exact (ha1.ext q0)
 exact (ha2.ext q0)
 exact (ha3.ext q0)
 exact (ha4.ext q0)
 exact (ha5.ext q0)
 exact (ha6.ext q0)
 exact (ha7.ext q0)
 exact (ha8.ext q0)
 exact (ha9.ext q0)
 exact (ha10.ext q0)
 exact (hb0.ext q0)
 exact (hb1.ext q0)
 exact (hb2.ext q0)
 exact (hb3.ext q0)
 exact (hb4.ext q0)
 exact (hb5.ext q0)
 exact (hb6.ext q0)
 exact (hb7.ext q0)
 exact (hb8.ext q0)
 exact (hb9.ext q0)
 exact (hb10.ext q0)
 exact hp
 refine gl ?_
 refine wk_drop [(2, pt gs2 0), (3, pt gs3 0), (5, .bool _)] ⟨rfl, rfl, rfl, trivial⟩ (hK _ _ ?_)
 refine ⟨_, rfl, ?_, ?_, ?_, ?_, ?_, ?_, ?_, ?_, ?_, ?_, ?_, ?_, ?_, ?_, ?_, ?_, ?_, ?_, ?_, ?_, ?_, ?_, ?_, ?_⟩
 first | exact (decide_eq_true (by (try simp only [decide_eq_true_eq, decide_eq_false_iff_not] at hg1 hg2 hg3 hg4 hg5); simp [hg1, hg2, hg3, hg4, hg5])).symm | exact (decide_eq_false (by (try simp only [decide_eq_true_eq, decide_eq_false_iff_not] at hg1 hg2 hg3 hg4 hg5); simp [hg1, hg2, hg3, hg4, hg5])).symm | exact decide_eq_decide.2 (by (try simp only [decide_eq_true_eq, decide_eq_false_iff_not] at hg1 hg2 hg3 hg4 hg5); simp [hg1, hg2, hg3, hg4, hg5])
 exact (ha0.ext q0)
 exact (ha1.ext q0)
 exact (ha2.ext q0)
 exact (ha3.ext q0)
 exact (ha4.ext q0)
 exact (ha5.ext q0)
 exact (ha6.ext q0)
 exact (ha7.ext q0)
 exact (ha8.ext q0)
 exact (ha9.ext q0)
 exact (ha10.ext q0)
 exact (hb0.ext q0)
 exact (hb1.ext q0)
 exact (hb2.ext q0)
 exact (hb3.ext q0)
 exact (hb4.ext q0)
 exact (hb5.ext q0)
 exact (hb6.ext q0)
 exact (hb7.ext q0)
 exact (hb8.ext q0)
 exact (hb9.ext q0)
 exact (hb10.ext q0)
 exact hp
 refine gl ?_
 refine wk_drop [(2, pt gs2 0), (3, pt gs3 0), (5, .bool _)] ⟨rfl, rfl, rfl, trivial⟩ (hK _ _ ?_)
 refine ⟨_, rfl, ?_, ?_, ?_, ?_, ?_, ?_, ?_, ?_, ?_, ?_, ?_, ?_, ?_, ?_, ?_, ?_, ?_, ?_, ?_, ?_, ?_, ?_, ?_, ?_⟩
 first | exact (decide_eq_true (by (try simp only [decide_eq_true_eq, decide_eq_false_iff_not] at hg1 hg2 hg3 hg4); simp [hg1, hg2, hg3, hg4])).symm | exact (decide_eq_false (by (try simp only [decide_eq_true_eq, decide_eq_false_iff_not] at hg1 hg2 hg3 hg4); simp [hg1, hg2, hg3, hg4])).symm | exact decide_eq_decide.2 (by (try simp only [decide_eq_true_eq, decide_eq_false_iff_not] at hg1 hg2 hg3 hg4); simp [hg1, hg2, hg3, hg4])
 exact (ha0.ext q0)
 exact (ha1.ext q0)
 exact (ha2.ext q0)
 exact (ha3.ext q0)
 exact (ha4.ext q0)
 exact (ha5.ext q0)
 exact (ha6.ext q0)
 exact (ha7.ext q0)
 exact (ha8.ext q0)
 exact (ha9.ext q0)
 exact (ha10.ext q0)
 exact (hb0.ext q0)
 exact (hb1.ext q0)
 exact (hb2.ext q0)
 exact (hb3.ext q0)
 exact (hb4.ext q0)
 exact (hb5.ext q0)
 exact (hb6.ext q0)
 exact (hb7.ext q0)
 exact (hb8.ext q0)
 exact (hb9.ext q0)
 exact (hb10.ext q0)
 exact hp
 refine gl ?_
 refine wk_drop [(2, pt gs2 0), (3, pt gs3 0), (5, .bool _)] ⟨rfl, rfl, rfl, trivial⟩ (hK _ _ ?_)
 refine ⟨_, rfl, ?_, ?_, ?_, ?_, ?_, ?_, ?_, ?_, ?_, ?_, ?_, ?_, ?_, ?_, ?_, ?_, ?_, ?_, ?_, ?_, ?_, ?_, ?_, ?_⟩
 first | exact (decide_eq_true (by (try simp only [decide_eq_true_eq, decide_eq_false_iff_not] at hg1 hg2 hg3); simp [hg1, hg2, hg3])).symm | exact (decide_eq_false (by (try simp only [decide_eq_true_eq, decide_eq_false_iff_not] at hg1 hg2 hg3); simp [hg1, hg2, hg3])).symm | exact decide_eq_decide.2 (by (try simp only [decide_eq_true_eq, decide_eq_false_iff_not] at hg1 hg2 hg3); simp [hg1, hg2, hg3])
 exact (ha0.ext q0)
 exact (ha1.ext q0)
 exact (ha2.ext q0)
 exact (ha3.ext q0)
 exact (ha4.ext q0)
 exact (ha5.ext q0)
 exact (ha6.ext q0)
 exact (ha7.ext q0)
 exact (ha8.ext q0)
 exact (ha9.ext q0)
 exact (ha10.ext q0)
 exact (hb0.ext q0)
 exact (hb1.ext q0)
 exact (hb2.ext q0)
 exact (hb3.ext q0)
 exact (hb4.ext q0)
 exact (hb5.ext q0)
 exact (hb6.ext q0)
 exact (hb7.ext q0)
 exact (hb8.ext q0)
 exact (hb9.ext q0)
 exact (hb10.ext q0)
 exact hp
 refine gl ?_
 refine wk_drop [(2, pt gs2 0), (3, pt gs3 0), (5, .bool _)] ⟨rfl, rfl, rfl, trivial⟩ (hK _ _ ?_)
 refine ⟨_, rfl, ?_, ?_, ?_, ?_, ?_, ?_, ?_, ?_, ?_, ?_, ?_, ?_, ?_, ?_, ?_, ?_, ?_, ?_, ?_, ?_, ?_, ?_, ?_, ?_⟩
 first | exact (decide_eq_true (by (try simp only [decide_eq_true_eq, decide_eq_false_iff_not] at hg1 hg2); simp [hg1, hg2])).symm | exact (decide_eq_false (by (try simp only [decide_eq_true_eq, decide_eq_false_iff_not] at hg1 hg2); simp [hg1, hg2])).symm | exact decide_eq_decide.2 (by (try simp only [decide_eq_true_eq, decide_eq_false_iff_not] at hg1 hg2); simp [hg1, hg2])
 exact (ha0.ext q0)
 exact (ha1.ext q0)
 exact (ha2.ext q0)
 exact (ha3.ext q0)
 exact (ha4.ext q0)
 exact (ha5.ext q0)
 exact (ha6.ext q0)
 exact (ha7.ext q0)
 exact (ha8.ext q0)
 exact (ha9.ext q0)
 exact (ha10.ext q0)
 exact (hb0.ext q0)
 exact (hb1.ext q0)
 exact (hb2.ext q0)
 exact (hb3.ext q0)
 exact (hb4.ext q0)
 exact (hb5.ext q0)
 exact (hb6.ext q0)
 exact (hb7.ext q0)
 exact (hb8.ext q0)
 exact (hb9.ext q0)
 exact (hb10.ext q0)
 exact hp
 refine gl ?_
 refine wk_drop [(2, pt gs2 0), (3, pt gs3 0), (5, .bool _)] ⟨rfl, rfl, rfl, trivial⟩ (hK _ _ ?_)
 refine ⟨_, rfl, ?_, ?_, ?_, ?_, ?_, ?_, ?_, ?_, ?_, ?_, ?_, ?_, ?_, ?_, ?_, ?_, ?_, ?_, ?_, ?_, ?_, ?_, ?_, ?_⟩
 first | exact (decide_eq_true (by (try simp only [decide_eq_true_eq, decide_eq_false_iff_not] at hg1); simp [hg1])).symm | exact (decide_eq_false (by (try simp only [decide_eq_true_eq, decide_eq_false_iff_not] at hg1); simp [hg1])).symm | exact decide_eq_decide.2 (by (try simp only [decide_eq_true_eq, decide_eq_false_iff_not] at hg1); simp [hg1])
 exact (ha0.ext q0)
 exact (ha1.ext q0)
 exact (ha2.ext q0)
 exact (ha3.ext q0)
 exact (ha4.ext q0)
 exact (ha5.ext q0)
 exact (ha6.ext q0)
 exact (ha7.ext q0)
 exact (ha8.ext q0)
 exact (ha9.ext q0)
 exact (ha10.ext q0)
 exact (hb0.ext q0)
 exact (hb1.ext q0)
 exact (hb2.ext q0)
 exact (hb3.ext q0)
 exact (hb4.ext q0)
 exact (hb5.ext q0)
 exact (hb6.ext q0)
 exact (hb7.ext q0)
 exact (hb8.ext q0)
 exact (hb9.ext q0)
 exact (hb10.ext q0)
 exact hp
 rintro _ wa ⟨m1, rfl, hm1, ha0, ha1, ha2, ha3, ha4, ha5, ha6, ha7, ha8, ha9, ha10, hb0, hb1, hb2, hb3, hb4, hb5, hb6, hb7, hb8, hb9, hb10, hp⟩
 refine wc_seq_cut (fun L' w' => ∃ (m2 : Bool), L' = [(2, pt gs2 0), (3, pt gs3 0), (5, .bool m2)] ∧ (m2 = decide ((a.kind = b.kind ∧ a.from_ = b.from_ ∧ a.group = b.group ∧ a.epoch = b.epoch ∧ a.view = b.view ∧ a.seq = b.seq ∧ a.dig = b.dig) ∧ a.stamp = b.stamp ∧ a.node = b.node ∧ a.level = b.level ∧ a.place = b.place)) ∧ (GS wishR (fun b => b < w.heap.size) w' Aa0 ca0 a.batch) ∧ (GS byteR (fun b => b < w.heap.size) w' Aa1 ca1 a.ans.data) ∧ (GS intR (fun b => b < w.heap.size) w' Aa2 ca2 a.ans.nodes) ∧ (GS markR (fun b => b < w.heap.size) w' Aa3 ca3 a.change.marks) ∧ (GS standR (fun b => b < w.heap.size) w' Aa4 ca4 a.change.p) ∧ (GS standR (fun b => b < w.heap.size) w' Aa5 ca5 a.change.q) ∧ (GS changeR (fun b => b < w.heap.size) w' Aa6 ca6 a.changes) ∧ (GS pickR (fun b => b < w.heap.size) w' Aa7 ca7 a.picks) ∧ (GS digR (fun b => b < w.heap.size) w' Aa8 ca8 a.digs) ∧ (GS byteR (fun b => b < w.heap.size) w' Aa9 ca9 a.data) ∧ (GS intR (fun b => b < w.heap.size) w' Aa10 ca10 a.nodes) ∧ (GS wishR (fun b => b < w.heap.size) w' Ab0 cb0 b.batch) ∧ (GS byteR (fun b => b < w.heap.size) w' Ab1 cb1 b.ans.data) ∧ (GS intR (fun b => b < w.heap.size) w' Ab2 cb2 b.ans.nodes) ∧ (GS markR (fun b => b < w.heap.size) w' Ab3 cb3 b.change.marks) ∧ (GS standR (fun b => b < w.heap.size) w' Ab4 cb4 b.change.p) ∧ (GS standR (fun b => b < w.heap.size) w' Ab5 cb5 b.change.q) ∧ (GS changeR (fun b => b < w.heap.size) w' Ab6 cb6 b.changes) ∧ (GS pickR (fun b => b < w.heap.size) w' Ab7 cb7 b.picks) ∧ (GS digR (fun b => b < w.heap.size) w' Ab8 cb8 b.digs) ∧ (GS byteR (fun b => b < w.heap.size) w' Ab9 cb9 b.data) ∧ (GS intR (fun b => b < w.heap.size) w' Ab10 cb10 b.nodes) ∧ (HP w (fun _ => False) (fun b => b < w.heap.size) w' (itB gs3 38 ([iv b.kind, iv b.from_, iv b.group, iv b.epoch, iv b.view, iv b.seq] ++ (digC b.dig ++ ([.slice Ab0 b.batch.length cb0, iv b.ans.err, .slice Ab1 b.ans.data.length cb1, iv b.ans.epoch, .slice Ab2 b.ans.nodes.length cb2, iv b.stamp, iv b.node, iv b.change.node, iv b.change.view, iv b.change.low, .slice Ab3 b.change.marks.length cb3, .slice Ab4 b.change.p.length cb4, .slice Ab5 b.change.q.length cb5, .slice Ab6 b.changes.length cb6, .slice Ab7 b.picks.length cb7, iv b.level, iv b.place, .slice Ab8 b.digs.length cb8, .slice Ab9 b.data.length cb9, .slice Ab10 b.nodes.length cb10]))) :: itB gs2 38 ([iv a.kind, iv a.from_, iv a.group, iv a.epoch, iv a.view, iv a.seq] ++ (digC a.dig ++ ([.slice Aa0 a.batch.length ca0, iv a.ans.err, .slice Aa1 a.ans.data.length ca1, iv a.ans.epoch, .slice Aa2 a.ans.nodes.length ca2, iv a.stamp, iv a.node, iv a.change.node, iv a.change.view, iv a.change.low, .slice Aa3 a.change.marks.length ca3, .slice Aa4 a.change.p.length ca4, .slice Aa5 a.change.q.length ca5, .slice Aa6 a.changes.length ca6, .slice Aa7 a.picks.length ca7, iv a.level, iv a.place, .slice Aa8 a.digs.length ca8, .slice Aa9 a.data.length ca9, .slice Aa10 a.nodes.length ca10]))) :: []))) (fun K hK => ?_) ?_
 refine go ?_
 refine Gs 59 (fun hg7 => ?_) fun hg7 => ?_
 refine go ?_
 refine Fd_ 43 fld38_9 rfl rfl (go ?_)
 refine Hl_ 1 sc3 rfl hp rfl rfl (go ?_)
 refine Fd_ 43 fld38_9 rfl rfl (go ?_)
 refine Hl_ 0 sc3 rfl hp rfl rfl (go ?_)
 refine Eq_ rfl rfl (go ?_)
 refine Gs 66 (fun hg8 => ?_) fun hg8 => ?_
 refine go ?_
 refine Fd_ 44 fld38_10 rfl rfl (go ?_)
 refine Hl_ 1 sc3 rfl hp rfl rfl (go ?_)
 refine Fd_ 44 fld38_10 rfl rfl (go ?_)
 refine Hl_ 0 sc3 rfl hp rfl rfl (go ?_)
 refine Eq_ rfl rfl (go ?_)
 refine Gs 73 (fun hg9 => ?_) fun hg9 => ?_
 refine go ?_
 refine Fd_ 53 fld38_14 rfl rfl (go ?_)
 refine Hl_ 1 sc3 rfl hp rfl rfl (go ?_)
 refine Fd_ 53 fld38_14 rfl rfl (go ?_)
 refine Hl_ 0 sc3 rfl hp rfl rfl (go ?_)
 refine Eq_ rfl rfl (go ?_)
 refine Gs 80 (fun hg10 => ?_) fun hg10 => ?_
 refine go ?_
 refine Fd_ 54 fld38_15 rfl rfl (go ?_)
 refine Hl_ 1 sc3 rfl hp rfl rfl (go ?_)
 refine Fd_ 54 fld38_15 rfl rfl (go ?_)
 refine Hl_ 0 sc3 rfl hp rfl rfl (go ?_)
 refine Eq_ rfl rfl (gl ?_)
 refine wk_drop [(2, pt gs2 0), (3, pt gs3 0), (5, .bool _)] ⟨rfl, rfl, rfl, trivial⟩ (hK _ _ ?_)
 refine ⟨_, rfl, ?_, ?_, ?_, ?_, ?_, ?_, ?_, ?_, ?_, ?_, ?_, ?_, ?_, ?_, ?_, ?_, ?_, ?_, ?_, ?_, ?_, ?_, ?_, ?_⟩
 first | exact (decide_eq_true (by (try simp only [hm1, decide_eq_true_eq] at hg7 hg8 hg9 hg10); simp [hg7, hg8, hg9, hg10])).symm | exact (decide_eq_false (by (try simp only [hm1, decide_eq_true_eq] at hg7 hg8 hg9 hg10); simp [hg7, hg8, hg9, hg10])).symm | exact decide_eq_decide.2 (by (try simp only [hm1, decide_eq_true_eq] at hg7 hg8 hg9 hg10); simp [hg7, hg8, hg9, hg10])
 exact ha0
 exact ha1
 exact ha2
 exact ha3
 exact ha4
 exact ha5
 exact ha6
 exact ha7
 exact ha8
 exact ha9
 exact ha10
 exact hb0
 exact hb1
 exact hb2
 exact hb3
 exact hb4
 exact hb5
 exact hb6
 exact hb7
 exact hb8
 exact hb9
 exact hb10
 exact hp
 refine gl ?_
 refine wk_drop [(2, pt gs2 0), (3, pt gs3 0), (5, .bool _)] ⟨rfl, rfl, rfl, trivial⟩ (hK _ _ ?_)
 refine ⟨_, rfl, ?_, ?_, ?_, ?_, ?_, ?_, ?_, ?_, ?_, ?_, ?_, ?_, ?_, ?_, ?_, ?_, ?_, ?_, ?_, ?_, ?_, ?_, ?_, ?_⟩
 first | exact (decide_eq_true (by (try simp only [hm1, decide_eq_true_eq] at hg7 hg8 hg9 hg10); simp [hg7, hg8, hg9, hg10])).symm | exact (decide_eq_false (by (try simp only [hm1, decide_eq_true_eq] at hg7 hg8 hg9 hg10); simp [hg7, hg8, hg9, hg10])).symm | exact decide_eq_decide.2 (by (try simp only [hm1, decide_eq_true_eq, decide_eq_false_iff_not] at hg7 hg8 hg9 hg10); simp [hg7, hg8, hg9, hg10])
 exact ha0
 exact ha1
 exact ha2
 exact ha3
 exact ha4
 exact ha5
 exact ha6
 exact ha7
 exact ha8
 exact ha9
 exact ha10
 exact hb0
 exact hb1
 exact hb2
 exact hb3
 exact hb4
 exact hb5
 exact hb6
 exact hb7
 exact hb8
 exact hb9
 exact hb10
 exact hp
 refine gl ?_
 refine wk_drop [(2, pt gs2 0), (3, pt gs3 0), (5, .bool _)] ⟨rfl, rfl, rfl, trivial⟩ (hK _ _ ?_)
 refine ⟨_, rfl, ?_, ?_, ?_, ?_, ?_, ?_, ?_, ?_, ?_, ?_, ?_, ?_, ?_, ?_, ?_, ?_, ?_, ?_, ?_, ?_, ?_, ?_, ?_, ?_⟩
 first | exact (decide_eq_true (by (try simp only [hm1, decide_eq_true_eq] at hg7 hg8 hg9); simp [hg7, hg8, hg9])).symm | exact (decide_eq_false (by (try simp only [hm1, decide_eq_true_eq] at hg7 hg8 hg9); simp [hg7, hg8, hg9])).symm | exact decide_eq_decide.2 (by (try simp only [hm1, decide_eq_true_eq, decide_eq_false_iff_not] at hg7 hg8 hg9); simp [hg7, hg8, hg9])
 exact ha0
 exact ha1
 exact ha2
 exact ha3
 exact ha4
 exact ha5
 exact ha6
 exact ha7
 exact ha8
 exact ha9
 exact ha10
 exact hb0
 exact hb1
 exact hb2
 exact hb3
 exact hb4
 exact hb5
 exact hb6
 exact hb7
 exact hb8
 exact hb9
 exact hb10
 exact hp
 refine gl ?_
 refine wk_drop [(2, pt gs2 0), (3, pt gs3 0), (5, .bool _)] ⟨rfl, rfl, rfl, trivial⟩ (hK _ _ ?_)
 refine ⟨_, rfl, ?_, ?_, ?_, ?_, ?_, ?_, ?_, ?_, ?_, ?_, ?_, ?_, ?_, ?_, ?_, ?_, ?_, ?_, ?_, ?_, ?_, ?_, ?_, ?_⟩
 first | exact (decide_eq_true (by (try simp only [hm1, decide_eq_true_eq] at hg7 hg8); simp [hg7, hg8])).symm | exact (decide_eq_false (by (try simp only [hm1, decide_eq_true_eq] at hg7 hg8); simp [hg7, hg8])).symm | exact decide_eq_decide.2 (by (try simp only [hm1, decide_eq_true_eq, decide_eq_false_iff_not] at hg7 hg8); simp [hg7, hg8])
 exact ha0
 exact ha1
 exact ha2
 exact ha3
 exact ha4
 exact ha5
 exact ha6
 exact ha7
 exact ha8
 exact ha9
 exact ha10
 exact hb0
 exact hb1
 exact hb2
 exact hb3
 exact hb4
 exact hb5
 exact hb6
 exact hb7
 exact hb8
 exact hb9
 exact hb10
 exact hp
 refine gl ?_
 refine wk_drop [(2, pt gs2 0), (3, pt gs3 0), (5, .bool _)] ⟨rfl, rfl, rfl, trivial⟩ (hK _ _ ?_)
 refine ⟨_, rfl, ?_, ?_, ?_, ?_, ?_, ?_, ?_, ?_, ?_, ?_, ?_, ?_, ?_, ?_, ?_, ?_, ?_, ?_, ?_, ?_, ?_, ?_, ?_, ?_⟩
 first | exact (decide_eq_true (by (try simp only [hm1, decide_eq_false_iff_not] at hg7); simp [hg7])).symm | exact (decide_eq_false (by (try simp only [hm1, decide_eq_false_iff_not] at hg7); simp [hg7])).symm | exact decide_eq_decide.2 (by (try simp only [hm1, decide_eq_true_eq, decide_eq_false_iff_not] at hg7); simp [hg7])
 exact ha0
 exact ha1
 exact ha2
 exact ha3
 exact ha4
 exact ha5
 exact ha6
 exact ha7
 exact ha8
 exact ha9
 exact ha10
 exact hb0
 exact hb1
 exact hb2
 exact hb3
 exact hb4
 exact hb5
 exact hb6
 exact hb7
 exact hb8
 exact hb9
 exact hb10
 exact hp
 rintro _ wb ⟨m2, rfl, hm2, ha0, ha1, ha2, ha3, ha4, ha5, ha6, ha7, ha8, ha9, ha10, hb0, hb1, hb2, hb3, hb4, hb5, hb6, hb7, hb8, hb9, hb10, hp⟩
 refine go ?_
 apply wc_drawW 7 4 5 6 6 7 29 (.agg #[iv 0,s0,iv 0,s0] : Value).cells.toList ([iv a.ans.err,.slice Aa1 a.ans.data.length ca1,iv a.ans.epoch,.slice Aa2 a.ans.nodes.length ca2]) [.eq _,.eq _,.eq _,.eq _,SP.any,SP.any,SP.any] (by kernel_rfl) (by kernel_rfl) (by kernel_rfl) (by kernel_rfl) ⟨.inr (fun _ _ _ _ h => h),.inr (fun _ _ _ _ h => h),.inr (fun _ _ _ _ h => h),.inr (fun _ _ _ _ h => h),.inr (fun _ _ _ _ _ => trivial),.inr (fun _ _ _ _ _ => trivial),.inr (fun _ _ _ _ _ => trivial),trivial⟩ leB_
 refine ⟨?_,?_,?_,?_,?_,?_,?_,trivial⟩<;>intro F wF hER hk hEE
 have e2:=hk.qi 2
 refine Fd_ 39 fld38_8 e2 rfl ?_
 exact qz ⟨RlW.o (by decide) (by decide) (by decide) (Chg.refl _ _), rfl⟩
 have e87:=hk.qe 0
 refine Hx_ ([iv a.ans.err, .slice Aa1 a.ans.data.length ca1, iv a.ans.epoch, .slice Aa2 a.ans.nodes.length ca2]) 1 ag29 e87 (hp.ext hER) rfl rfl rfl ?_
 exact qz ⟨RlW.o (by decide) (by decide) (by decide) (Chg.refl _ _), rfl⟩
 have e3:=hk.qi 3
 refine Fd_ 39 fld38_8 e3 rfl ?_
 exact qz ⟨RlW.o (by decide) (by decide) (by decide) (Chg.refl _ _), rfl⟩
 have e89:=hk.qe 2
 refine Hx_ ([iv b.ans.err, .slice Ab1 b.ans.data.length cb1, iv b.ans.epoch, .slice Ab2 b.ans.nodes.length cb2]) 0 ag29 e89 (hp.ext hER) rfl rfl rfl ?_
 exact qz ⟨RlW.o (by decide) (by decide) (by decide) (Chg.refl _ _), rfl⟩
 refine wl_alloc (z := .agg #[iv 0, s0, iv 0, s0]) (by decide) (by kernel_rfl) ?_
 rintro g7 w7 hg7 hb7 hE7
 subst hg7
 exact qz ⟨RlW.a (.inl rfl) (by decide) hb7 hE7, trivial⟩
 refine wl_alloc (z := .agg #[iv 0, s0, iv 0, s0]) (by decide) (by kernel_rfl) ?_
 rintro g7 w7 hg7 hb7 hE7
 subst hg7
 exact qz ⟨RlW.a (.inr rfl) (by decide) hb7 hE7, trivial⟩
 have e88:=hk.qe 1
 obtain ⟨g7, hg7, hb7⟩ := hEE rfl
 refine wl_storeB2 hg7 e88 hb7 sz29 leB_ (List.all_eq_true.1 rfl) ?_
 intro w7 hb8 hC7
 exact wl_nil (qr_none ⟨RlW.f hg7 hC7 hb8, trivial⟩)
 intro F wD hED hini hdo hWW
 obtain ⟨gs6, gs7, hWn, hWA, hWB, e6, e7, hbA, hbB⟩ := hWW
 refine wl_drop [(2, _), (3, _), (5, _), (6, _), (7, _), (90, _)] ⟨di hini 2, di hini 3, di hini 5, e6, e7, dr hdo 3, trivial⟩ ?_
 clear e6 e7 hini hdo
 have q1:=hED
 replace hp:=hp.add2 hED hbA hbB hWn hWA hWB
 refine wl_hstore (i := 1) rfl rfl hp rfl sz29 leB_ (List.all_eq_true.1 rfl) ?_
 rintro w3 hp3 hC3
 have q2:=ha0.tk.ext q1
 replace q2:=q2.fz hC3
 replace hp:=hp3
 refine gl ?_
 refine wc_seq_cut (fun L' w' => ∃ (m3 : Bool), L' = [(2, pt gs2 0), (3, pt gs3 0), (5, .bool m2), (8, .bool m3)] ∧ (m3 = decide (a.ans = b.ans)) ∧ (GS wishR (fun b => b < w.heap.size) w' Aa0 ca0 a.batch) ∧ (GS byteR (fun b => b < w.heap.size) w' Aa1 ca1 a.ans.data) ∧ (GS intR (fun b => b < w.heap.size) w' Aa2 ca2 a.ans.nodes) ∧ (GS markR (fun b => b < w.heap.size) w' Aa3 ca3 a.change.marks) ∧ (GS standR (fun b => b < w.heap.size) w' Aa4 ca4 a.change.p) ∧ (GS standR (fun b => b < w.heap.size) w' Aa5 ca5 a.change.q) ∧ (GS changeR (fun b => b < w.heap.size) w' Aa6 ca6 a.changes) ∧ (GS pickR (fun b => b < w.heap.size) w' Aa7 ca7 a.picks) ∧ (GS digR (fun b => b < w.heap.size) w' Aa8 ca8 a.digs) ∧ (GS byteR (fun b => b < w.heap.size) w' Aa9 ca9 a.data) ∧ (GS intR (fun b => b < w.heap.size) w' Aa10 ca10 a.nodes) ∧ (GS wishR (fun b => b < w.heap.size) w' Ab0 cb0 b.batch) ∧ (GS byteR (fun b => b < w.heap.size) w' Ab1 cb1 b.ans.data) ∧ (GS intR (fun b => b < w.heap.size) w' Ab2 cb2 b.ans.nodes) ∧ (GS markR (fun b => b < w.heap.size) w' Ab3 cb3 b.change.marks) ∧ (GS standR (fun b => b < w.heap.size) w' Ab4 cb4 b.change.p) ∧ (GS standR (fun b => b < w.heap.size) w' Ab5 cb5 b.change.q) ∧ (GS changeR (fun b => b < w.heap.size) w' Ab6 cb6 b.changes) ∧ (GS pickR (fun b => b < w.heap.size) w' Ab7 cb7 b.picks) ∧ (GS digR (fun b => b < w.heap.size) w' Ab8 cb8 b.digs) ∧ (GS byteR (fun b => b < w.heap.size) w' Ab9 cb9 b.data) ∧ (GS intR (fun b => b < w.heap.size) w' Ab10 cb10 b.nodes) ∧ (HP w (fun _ => False) (fun b => b < w.heap.size) w' (itB gs6 29 ([iv a.ans.err, .slice Aa1 a.ans.data.length ca1, iv a.ans.epoch, .slice Aa2 a.ans.nodes.length ca2]) :: itB gs7 29 ([iv b.ans.err, .slice Ab1 b.ans.data.length cb1, iv b.ans.epoch, .slice Ab2 b.ans.nodes.length cb2]) :: itB gs3 38 ([iv b.kind, iv b.from_, iv b.group, iv b.epoch, iv b.view, iv b.seq] ++ (digC b.dig ++ ([.slice Ab0 b.batch.length cb0, iv b.ans.err, .slice Ab1 b.ans.data.length cb1, iv b.ans.epoch, .slice Ab2 b.ans.nodes.length cb2, iv b.stamp, iv b.node, iv b.change.node, iv b.change.view, iv b.change.low, .slice Ab3 b.change.marks.length cb3, .slice Ab4 b.change.p.length cb4, .slice Ab5 b.change.q.length cb5, .slice Ab6 b.changes.length cb6, .slice Ab7 b.picks.length cb7, iv b.level, iv b.place, .slice Ab8 b.digs.length cb8, .slice Ab9 b.data.length cb9, .slice Ab10 b.nodes.length cb10]))) :: itB gs2 38 ([iv a.kind, iv a.from_, iv a.group, iv a.epoch, iv a.view, iv a.seq] ++ (digC a.dig ++ ([.slice Aa0 a.batch.length ca0, iv a.ans.err, .slice Aa1 a.ans.data.length ca1, iv a.ans.epoch, .slice Aa2 a.ans.nodes.length ca2, iv a.stamp, iv a.node, iv a.change.node, iv a.change.view, iv a.change.low, .slice Aa3 a.change.marks.length ca3, .slice Aa4 a.change.p.length ca4, .slice Aa5 a.change.q.length ca5, .slice Aa6 a.changes.length ca6, .slice Aa7 a.picks.length ca7, iv a.level, iv a.place, .slice Aa8 a.digs.length ca8, .slice Aa9 a.data.length ca9, .slice Aa10 a.nodes.length ca10]))) :: []))) (fun K hK => ?_) ?_
 refine go ?_
 refine Fd_ 0 fld29_0 rfl rfl ?_
 refine Hl_ 0 sc25 rfl hp rfl rfl ?_
 refine Fd_ 0 fld29_0 rfl rfl ?_
 refine Hl_ 1 sc25 rfl hp rfl rfl ?_
 refine Eq_ rfl rfl (go ?_)
 refine Gs 96 (fun hg11 => ?_) fun hg11 => ?_
 refine go ?_
 refine Fd_ 1 fld29_1 rfl rfl (go ?_)
 refine Hl_ 0 sc26 rfl hp rfl rfl (go ?_)
 refine Fd_ 1 fld29_1 rfl rfl (go ?_)
 refine Hl_ 1 sc26 rfl hp rfl rfl (go ?_)
 have hcl:=bequal_ok (ha1.fr q2) (hb1.fr q2)
 refine Cl_ cl66 rfl hcl ?_
 clear hcl
 rintro _ w4 ⟨rfl, hE4⟩
 replace q2:=q2.ext hE4
 replace hp:=hp.ext hE4
 refine go ?_
 refine Gs 103 (fun hg12 => ?_) fun hg12 => ?_
 refine go ?_
 refine Fd_ 2 fld29_2 rfl rfl (go ?_)
 refine Hl_ 0 sc3 rfl hp rfl rfl (go ?_)
 refine Fd_ 2 fld29_2 rfl rfl (go ?_)
 refine Hl_ 1 sc3 rfl hp rfl rfl (go ?_)
 refine Eq_ rfl rfl (go ?_)
 refine Gs 110 (fun hg13 => ?_) fun hg13 => ?_
 refine go ?_
 refine Fd_ 3 fld29_3 rfl rfl (go ?_)
 refine Hl_ 0 sc27 rfl hp rfl rfl (go ?_)
 refine Fd_ 3 fld29_3 rfl rfl (go ?_)
 refine Hl_ 1 sc27 rfl hp rfl rfl (go ?_)
 have hcl:=seqI_ok (ha2.fr q2) (hb2.fr q2)
 refine Cl_ cl67 rfl hcl ?_
 clear hcl
 rintro _ w5 ⟨rfl, hE5⟩
 replace q2:=q2.ext hE5
 replace hp:=hp.ext hE5
 refine gl ?_
 refine wk_drop [(2, pt gs2 0), (3, pt gs3 0), (5, .bool m2), (8, .bool _)] ⟨rfl, rfl, rfl, rfl, trivial⟩ (hK _ _ ?_)
 refine ⟨_, rfl, ?_, ?_, ?_, ?_, ?_, ?_, ?_, ?_, ?_, ?_, ?_, ?_, ?_, ?_, ?_, ?_, ?_, ?_, ?_, ?_, ?_, ?_, ?_, ?_⟩
 first | exact (decide_eq_true (by (try simp only [decide_eq_true_eq, decide_eq_false_iff_not] at hg11 hg12 hg13); rw [Ans_eq]; simp [hg11, hg12, hg13])).symm | exact (decide_eq_false (by (try simp only [decide_eq_true_eq, decide_eq_false_iff_not] at hg11 hg12 hg13); rw [Ans_eq]; simp [hg11, hg12, hg13])).symm | exact decide_eq_decide.2 (by (try simp only [decide_eq_true_eq, decide_eq_false_iff_not] at hg11 hg12 hg13); rw [Ans_eq]; simp [hg11, hg12, hg13])
 exact (ha0.fr q2)
 exact (ha1.fr q2)
 exact (ha2.fr q2)
 exact (ha3.fr q2)
 exact (ha4.fr q2)
 exact (ha5.fr q2)
 exact (ha6.fr q2)
 exact (ha7.fr q2)
 exact (ha8.fr q2)
 exact (ha9.fr q2)
 exact (ha10.fr q2)
 exact (hb0.fr q2)
 exact (hb1.fr q2)
 exact (hb2.fr q2)
 exact (hb3.fr q2)
 exact (hb4.fr q2)
 exact (hb5.fr q2)
 exact (hb6.fr q2)
 exact (hb7.fr q2)
 exact (hb8.fr q2)
 exact (hb9.fr q2)
 exact (hb10.fr q2)
 exact hp
 refine gl ?_
 refine wk_drop [(2, pt gs2 0), (3, pt gs3 0), (5, .bool m2), (8, .bool _)] ⟨rfl, rfl, rfl, rfl, trivial⟩ (hK _ _ ?_)
 refine ⟨_, rfl, ?_, ?_, ?_, ?_, ?_, ?_, ?_, ?_, ?_, ?_, ?_, ?_, ?_, ?_, ?_, ?_, ?_, ?_, ?_, ?_, ?_, ?_, ?_, ?_⟩
 first | exact (decide_eq_true (by (try simp only [decide_eq_true_eq, decide_eq_false_iff_not] at hg11 hg12 hg13); rw [Ans_eq]; simp [hg11, hg12, hg13])).symm | exact (decide_eq_false (by (try simp only [decide_eq_true_eq, decide_eq_false_iff_not] at hg11 hg12 hg13); rw [Ans_eq]; simp [hg11, hg12, hg13])).symm | exact decide_eq_decide.2 (by (try simp only [decide_eq_true_eq, decide_eq_false_iff_not] at hg11 hg12 hg13); rw [Ans_eq]; simp [hg11, hg12, hg13])
 exact (ha0.fr q2)
 exact (ha1.fr q2)
 exact (ha2.fr q2)
 exact (ha3.fr q2)
 exact (ha4.fr q2)
 exact (ha5.fr q2)
 exact (ha6.fr q2)
 exact (ha7.fr q2)
 exact (ha8.fr q2)
 exact (ha9.fr q2)
 exact (ha10.fr q2)
 exact (hb0.fr q2)
 exact (hb1.fr q2)
 exact (hb2.fr q2)
 exact (hb3.fr q2)
 exact (hb4.fr q2)
 exact (hb5.fr q2)
 exact (hb6.fr q2)
 exact (hb7.fr q2)
 exact (hb8.fr q2)
 exact (hb9.fr q2)
 exact (hb10.fr q2)
 exact hp
 refine gl ?_
 refine wk_drop [(2, pt gs2 0), (3, pt gs3 0), (5, .bool m2), (8, .bool _)] ⟨rfl, rfl, rfl, rfl, trivial⟩ (hK _ _ ?_)
 refine ⟨_, rfl, ?_, ?_, ?_, ?_, ?_, ?_, ?_, ?_, ?_, ?_, ?_, ?_, ?_, ?_, ?_, ?_, ?_, ?_, ?_, ?_, ?_, ?_, ?_, ?_⟩
 first | exact (decide_eq_true (by (try simp only [decide_eq_true_eq, decide_eq_false_iff_not] at hg11 hg12); rw [Ans_eq]; simp [hg11, hg12])).symm | exact (decide_eq_false (by (try simp only [decide_eq_true_eq, decide_eq_false_iff_not] at hg11 hg12); rw [Ans_eq]; simp [hg11, hg12])).symm | exact decide_eq_decide.2 (by (try simp only [decide_eq_true_eq, decide_eq_false_iff_not] at hg11 hg12); rw [Ans_eq]; simp [hg11, hg12])
 exact (ha0.fr q2)
 exact (ha1.fr q2)
 exact (ha2.fr q2)
 exact (ha3.fr q2)
 exact (ha4.fr q2)
 exact (ha5.fr q2)
 exact (ha6.fr q2)
 exact (ha7.fr q2)
 exact (ha8.fr q2)
 exact (ha9.fr q2)
 exact (ha10.fr q2)
 exact (hb0.fr q2)
 exact (hb1.fr q2)
 exact (hb2.fr q2)
 exact (hb3.fr q2)
 exact (hb4.fr q2)
 exact (hb5.fr q2)
 exact (hb6.fr q2)
 exact (hb7.fr q2)
 exact (hb8.fr q2)
 exact (hb9.fr q2)
 exact (hb10.fr q2)
 exact hp
 refine gl ?_
 refine wk_drop [(2, pt gs2 0), (3, pt gs3 0), (5, .bool m2), (8, .bool _)] ⟨rfl, rfl, rfl, rfl, trivial⟩ (hK _ _ ?_)
 refine ⟨_, rfl, ?_, ?_, ?_, ?_, ?_, ?_, ?_, ?_, ?_, ?_, ?_, ?_, ?_, ?_, ?_, ?_, ?_, ?_, ?_, ?_, ?_, ?_, ?_, ?_⟩
 first | exact (decide_eq_true (by (try simp only [decide_eq_true_eq, decide_eq_false_iff_not] at hg11); rw [Ans_eq]; simp [hg11])).symm | exact (decide_eq_false (by (try simp only [decide_eq_true_eq, decide_eq_false_iff_not] at hg11); rw [Ans_eq]; simp [hg11])).symm | exact decide_eq_decide.2 (by (try simp only [decide_eq_true_eq, decide_eq_false_iff_not] at hg11); rw [Ans_eq]; simp [hg11])
 exact (ha0.fr q2)
 exact (ha1.fr q2)
 exact (ha2.fr q2)
 exact (ha3.fr q2)
 exact (ha4.fr q2)
 exact (ha5.fr q2)
 exact (ha6.fr q2)
 exact (ha7.fr q2)
 exact (ha8.fr q2)
 exact (ha9.fr q2)
 exact (ha10.fr q2)
 exact (hb0.fr q2)
 exact (hb1.fr q2)
 exact (hb2.fr q2)
 exact (hb3.fr q2)
 exact (hb4.fr q2)
 exact (hb5.fr q2)
 exact (hb6.fr q2)
 exact (hb7.fr q2)
 exact (hb8.fr q2)
 exact (hb9.fr q2)
 exact (hb10.fr q2)
 exact hp
 rintro _ wc ⟨m3, rfl, hm3, ha0, ha1, ha2, ha3, ha4, ha5, ha6, ha7, ha8, ha9, ha10, hb0, hb1, hb2, hb3, hb4, hb5, hb6, hb7, hb8, hb9, hb10, hp⟩
 refine wc_seq ?_
 refine wc_region ?_
 refine gl ?_
 refine wc_seq_cut (fun L' w' => ∃ (m4 : Bool), L' = [(2, pt gs2 0), (3, pt gs3 0), (5, .bool m2), (8, .bool m3), (10, .bool m4)] ∧ (m4 = decide (a.batch = b.batch ∧ a.changes = b.changes ∧ a.picks = b.picks)) ∧ (GS wishR (fun b => b < w.heap.size) w' Aa0 ca0 a.batch) ∧ (GS byteR (fun b => b < w.heap.size) w' Aa1 ca1 a.ans.data) ∧ (GS intR (fun b => b < w.heap.size) w' Aa2 ca2 a.ans.nodes) ∧ (GS markR (fun b => b < w.heap.size) w' Aa3 ca3 a.change.marks) ∧ (GS standR (fun b => b < w.heap.size) w' Aa4 ca4 a.change.p) ∧ (GS standR (fun b => b < w.heap.size) w' Aa5 ca5 a.change.q) ∧ (GS changeR (fun b => b < w.heap.size) w' Aa6 ca6 a.changes) ∧ (GS pickR (fun b => b < w.heap.size) w' Aa7 ca7 a.picks) ∧ (GS digR (fun b => b < w.heap.size) w' Aa8 ca8 a.digs) ∧ (GS byteR (fun b => b < w.heap.size) w' Aa9 ca9 a.data) ∧ (GS intR (fun b => b < w.heap.size) w' Aa10 ca10 a.nodes) ∧ (GS wishR (fun b => b < w.heap.size) w' Ab0 cb0 b.batch) ∧ (GS byteR (fun b => b < w.heap.size) w' Ab1 cb1 b.ans.data) ∧ (GS intR (fun b => b < w.heap.size) w' Ab2 cb2 b.ans.nodes) ∧ (GS markR (fun b => b < w.heap.size) w' Ab3 cb3 b.change.marks) ∧ (GS standR (fun b => b < w.heap.size) w' Ab4 cb4 b.change.p) ∧ (GS standR (fun b => b < w.heap.size) w' Ab5 cb5 b.change.q) ∧ (GS changeR (fun b => b < w.heap.size) w' Ab6 cb6 b.changes) ∧ (GS pickR (fun b => b < w.heap.size) w' Ab7 cb7 b.picks) ∧ (GS digR (fun b => b < w.heap.size) w' Ab8 cb8 b.digs) ∧ (GS byteR (fun b => b < w.heap.size) w' Ab9 cb9 b.data) ∧ (GS intR (fun b => b < w.heap.size) w' Ab10 cb10 b.nodes) ∧ (HP w (fun _ => False) (fun b => b < w.heap.size) w' (itB gs6 29 ([iv a.ans.err, .slice Aa1 a.ans.data.length ca1, iv a.ans.epoch, .slice Aa2 a.ans.nodes.length ca2]) :: itB gs7 29 ([iv b.ans.err, .slice Ab1 b.ans.data.length cb1, iv b.ans.epoch, .slice Ab2 b.ans.nodes.length cb2]) :: itB gs3 38 ([iv b.kind, iv b.from_, iv b.group, iv b.epoch, iv b.view, iv b.seq] ++ (digC b.dig ++ ([.slice Ab0 b.batch.length cb0, iv b.ans.err, .slice Ab1 b.ans.data.length cb1, iv b.ans.epoch, .slice Ab2 b.ans.nodes.length cb2, iv b.stamp, iv b.node, iv b.change.node, iv b.change.view, iv b.change.low, .slice Ab3 b.change.marks.length cb3, .slice Ab4 b.change.p.length cb4, .slice Ab5 b.change.q.length cb5, .slice Ab6 b.changes.length cb6, .slice Ab7 b.picks.length cb7, iv b.level, iv b.place, .slice Ab8 b.digs.length cb8, .slice Ab9 b.data.length cb9, .slice Ab10 b.nodes.length cb10]))) :: itB gs2 38 ([iv a.kind, iv a.from_, iv a.group, iv a.epoch, iv a.view, iv a.seq] ++ (digC a.dig ++ ([.slice Aa0 a.batch.length ca0, iv a.ans.err, .slice Aa1 a.ans.data.length ca1, iv a.ans.epoch, .slice Aa2 a.ans.nodes.length ca2, iv a.stamp, iv a.node, iv a.change.node, iv a.change.view, iv a.change.low, .slice Aa3 a.change.marks.length ca3, .slice Aa4 a.change.p.length ca4, .slice Aa5 a.change.q.length ca5, .slice Aa6 a.changes.length ca6, .slice Aa7 a.picks.length ca7, iv a.level, iv a.place, .slice Aa8 a.digs.length ca8, .slice Aa9 a.data.length ca9, .slice Aa10 a.nodes.length ca10]))) :: []))) (fun K hK => ?_) ?_
 refine go ?_
 refine Fd_ 38 fld38_7 rfl rfl ?_
 refine Hl_ 3 sc24 rfl hp rfl rfl ?_
 refine Fd_ 38 fld38_7 rfl rfl ?_
 refine Hl_ 2 sc24 rfl hp rfl rfl ?_
 have hcl:=sameBatch_ok ha0 hb0
 refine Cl_ cl69 rfl hcl ?_
 clear hcl
 rintro _ w6 ⟨rfl, hE6⟩
 have q3:=hE6
 replace hp:=hp.ext hE6
 refine go ?_
 refine Gs 122 (fun hg14 => ?_) fun hg14 => ?_
 refine go ?_
 refine Fd_ 51 fld38_12 rfl rfl (go ?_)
 refine Hl_ 3 sc34 rfl hp rfl rfl (go ?_)
 refine Fd_ 51 fld38_12 rfl rfl (go ?_)
 refine Hl_ 2 sc34 rfl hp rfl rfl (go ?_)
 have hcl:=efC_ok (ha6.ext q3) (hb6.ext q3)
 refine Cl_ cl70 rfl hcl ?_
 clear hcl
 rintro _ w7 ⟨rfl, hE7⟩
 replace q3:=q3.trans hE7
 replace hp:=hp.ext hE7
 refine go ?_
 refine Gs 129 (fun hg15 => ?_) fun hg15 => ?_
 refine go ?_
 refine Fd_ 52 fld38_13 rfl rfl (go ?_)
 refine Hl_ 3 sc35 rfl hp rfl rfl (go ?_)
 refine Fd_ 52 fld38_13 rfl rfl (go ?_)
 refine Hl_ 2 sc35 rfl hp rfl rfl (go ?_)
 have hcl:=efP_ok (ha7.ext q3) (hb7.ext q3)
 refine Cl_ cl72 rfl hcl ?_
 clear hcl
 rintro _ w8 ⟨rfl, hE8⟩
 replace q3:=q3.trans hE8
 replace hp:=hp.ext hE8
 refine gl ?_
 refine wk_drop [(2, pt gs2 0), (3, pt gs3 0), (5, .bool m2), (8, .bool m3), (10, .bool _)] ⟨rfl, rfl, rfl, rfl, rfl, trivial⟩ (hK _ _ ?_)
 refine ⟨_, rfl, ?_, ?_, ?_, ?_, ?_, ?_, ?_, ?_, ?_, ?_, ?_, ?_, ?_, ?_, ?_, ?_, ?_, ?_, ?_, ?_, ?_, ?_, ?_, ?_⟩
 first | exact (decide_eq_true (by (try simp only [decide_eq_true_eq, decide_eq_false_iff_not] at hg14 hg15); simp [hg14, hg15])).symm | exact (decide_eq_false (by (try simp only [decide_eq_true_eq, decide_eq_false_iff_not] at hg14 hg15); simp [hg14, hg15])).symm | exact decide_eq_decide.2 (by (try simp only [decide_eq_true_eq, decide_eq_false_iff_not] at hg14 hg15); simp [hg14, hg15])
 exact (ha0.ext q3)
 exact (ha1.ext q3)
 exact (ha2.ext q3)
 exact (ha3.ext q3)
 exact (ha4.ext q3)
 exact (ha5.ext q3)
 exact (ha6.ext q3)
 exact (ha7.ext q3)
 exact (ha8.ext q3)
 exact (ha9.ext q3)
 exact (ha10.ext q3)
 exact (hb0.ext q3)
 exact (hb1.ext q3)
 exact (hb2.ext q3)
 exact (hb3.ext q3)
 exact (hb4.ext q3)
 exact (hb5.ext q3)
 exact (hb6.ext q3)
 exact (hb7.ext q3)
 exact (hb8.ext q3)
 exact (hb9.ext q3)
 exact (hb10.ext q3)
 exact hp
 refine gl ?_
 refine wk_drop [(2, pt gs2 0), (3, pt gs3 0), (5, .bool m2), (8, .bool m3), (10, .bool _)] ⟨rfl, rfl, rfl, rfl, rfl, trivial⟩ (hK _ _ ?_)
 refine ⟨_, rfl, ?_, ?_, ?_, ?_, ?_, ?_, ?_, ?_, ?_, ?_, ?_, ?_, ?_, ?_, ?_, ?_, ?_, ?_, ?_, ?_, ?_, ?_, ?_, ?_⟩
 first | exact (decide_eq_true (by (try simp only [decide_eq_true_eq, decide_eq_false_iff_not] at hg14 hg15); simp [hg14, hg15])).symm | exact (decide_eq_false (by (try simp only [decide_eq_true_eq, decide_eq_false_iff_not] at hg14 hg15); simp [hg14, hg15])).symm | exact decide_eq_decide.2 (by (try simp only [decide_eq_true_eq, decide_eq_false_iff_not] at hg14 hg15); simp [hg14, hg15])
 exact (ha0.ext q3)
 exact (ha1.ext q3)
 exact (ha2.ext q3)
 exact (ha3.ext q3)
 exact (ha4.ext q3)
 exact (ha5.ext q3)
 exact (ha6.ext q3)
 exact (ha7.ext q3)
 exact (ha8.ext q3)
 exact (ha9.ext q3)
 exact (ha10.ext q3)
 exact (hb0.ext q3)
 exact (hb1.ext q3)
 exact (hb2.ext q3)
 exact (hb3.ext q3)
 exact (hb4.ext q3)
 exact (hb5.ext q3)
 exact (hb6.ext q3)
 exact (hb7.ext q3)
 exact (hb8.ext q3)
 exact (hb9.ext q3)
 exact (hb10.ext q3)
 exact hp
 refine gl ?_
 refine wk_drop [(2, pt gs2 0), (3, pt gs3 0), (5, .bool m2), (8, .bool m3), (10, .bool _)] ⟨rfl, rfl, rfl, rfl, rfl, trivial⟩ (hK _ _ ?_)
 refine ⟨_, rfl, ?_, ?_, ?_, ?_, ?_, ?_, ?_, ?_, ?_, ?_, ?_, ?_, ?_, ?_, ?_, ?_, ?_, ?_, ?_, ?_, ?_, ?_, ?_, ?_⟩
 first | exact (decide_eq_true (by (try simp only [decide_eq_true_eq, decide_eq_false_iff_not] at hg14); simp [hg14])).symm | exact (decide_eq_false (by (try simp only [decide_eq_true_eq, decide_eq_false_iff_not] at hg14); simp [hg14])).symm | exact decide_eq_decide.2 (by (try simp only [decide_eq_true_eq, decide_eq_false_iff_not] at hg14); simp [hg14])
 exact (ha0.ext q3)
 exact (ha1.ext q3)
 exact (ha2.ext q3)
 exact (ha3.ext q3)
 exact (ha4.ext q3)
 exact (ha5.ext q3)
 exact (ha6.ext q3)
 exact (ha7.ext q3)
 exact (ha8.ext q3)
 exact (ha9.ext q3)
 exact (ha10.ext q3)
 exact (hb0.ext q3)
 exact (hb1.ext q3)
 exact (hb2.ext q3)
 exact (hb3.ext q3)
 exact (hb4.ext q3)
 exact (hb5.ext q3)
 exact (hb6.ext q3)
 exact (hb7.ext q3)
 exact (hb8.ext q3)
 exact (hb9.ext q3)
 exact (hb10.ext q3)
 exact hp
 rintro _ wd ⟨m4, rfl, hm4, ha0, ha1, ha2, ha3, ha4, ha5, ha6, ha7, ha8, ha9, ha10, hb0, hb1, hb2, hb3, hb4, hb5, hb6, hb7, hb8, hb9, hb10, hp⟩
 refine go ?_
 refine Gs 138 (fun hg16 => ?_) fun hg16 => ?_
 refine go ?_
 refine Gs 141 (fun hg17 => ?_) fun hg17 => ?_
 refine go ?_
 refine Gs 144 (fun hg18 => ?_) fun hg18 => ?_
 refine go ?_
 refine Fd_ 45 fld38_11 rfl rfl (go ?_)
 refine Hx_ ([iv a.change.node, iv a.change.view, iv a.change.low, .slice Aa3 a.change.marks.length ca3, .slice Aa4 a.change.p.length ca4, .slice Aa5 a.change.q.length ca5]) 3 ag33 rfl hp rfl rfl rfl (go ?_)
 refine Fd_ 45 fld38_11 rfl rfl (go ?_)
 refine Hx_ ([iv b.change.node, iv b.change.view, iv b.change.low, .slice Ab3 b.change.marks.length cb3, .slice Ab4 b.change.p.length cb4, .slice Ab5 b.change.q.length cb5]) 2 ag33 rfl hp rfl rfl rfl (go ?_)
 have hcl:=nSameChange_ok ⟨(hIa.change), _, _, _, _, _, _, rfl, ha3, ha4, ha5⟩ ⟨(hIb.change), _, _, _, _, _, _, rfl, hb3, hb4, hb5⟩
 refine Cl_ cl71 rfl hcl ?_
 clear hcl
 rintro _ w9 ⟨rfl, hE9⟩
 have q4:=hE9
 replace hp:=hp.ext hE9
 refine go ?_
 refine Gs 151 (fun hg19 => ?_) fun hg19 => ?_
 refine go ?_
 refine Fd_ 55 fld38_16 rfl rfl (go ?_)
 refine Hl_ 3 sc36 rfl hp rfl rfl (go ?_)
 refine Fd_ 55 fld38_16 rfl rfl (go ?_)
 refine Hl_ 2 sc36 rfl hp rfl rfl (go ?_)
 have hcl:=seqD_ok (ha8.ext q4) (hb8.ext q4)
 refine Cl_ cl73 rfl hcl ?_
 clear hcl
 rintro _ w10 ⟨rfl, hE10⟩
 replace q4:=q4.trans hE10
 replace hp:=hp.ext hE10
 refine go ?_
 refine Gs 158 (fun hg20 => ?_) fun hg20 => ?_
 refine go ?_
 refine Fd_ 56 fld38_17 rfl rfl (go ?_)
 refine Hl_ 3 sc26 rfl hp rfl rfl (go ?_)
 refine Fd_ 56 fld38_17 rfl rfl (go ?_)
 refine Hl_ 2 sc26 rfl hp rfl rfl (go ?_)
 have hcl:=bequal_ok (ha9.ext q4) (hb9.ext q4)
 refine Cl_ cl66 rfl hcl ?_
 clear hcl
 rintro _ w11 ⟨rfl, hE11⟩
 replace q4:=q4.trans hE11
 replace hp:=hp.ext hE11
 refine go ?_
 refine Gs 165 (fun hg21 => ?_) fun hg21 => ?_
 refine go ?_
 refine Fd_ 57 fld38_18 rfl rfl (go ?_)
 refine Hl_ 3 sc27 rfl hp rfl rfl (go ?_)
 refine Fd_ 57 fld38_18 rfl rfl (go ?_)
 refine Hl_ 2 sc27 rfl hp rfl rfl (go ?_)
 have hcl:=seqI_ok (ha10.ext q4) (hb10.ext q4)
 refine Cl_ cl67 rfl hcl ?_
 clear hcl
 rintro _ w12 ⟨rfl, hE12⟩
 replace hp:=hp.ext hE12
 refine go ?_
 refine P1 results41 ?_
 exact ⟨_, rfl, congrArg Value.bool (decide_eq_decide.2 (by (try simp only [hm2, hm3, hm4, decide_eq_true_eq] at hg16 hg17 hg18 hg19 hg20 hg21); first | (intro e; subst e; simp at hg16 hg17 hg18 hg19 hg20 hg21; done) | (rw [Nte_eq]; simp [hg16, hg17, hg18, hg19, hg20, hg21]))), hp.chg⟩
 refine go ?_
 refine P1 results41 ?_
 exact ⟨_, rfl, bool_f (by (try simp only [hm2, hm3, hm4, decide_eq_true_eq] at hg16 hg17 hg18 hg19 hg20 hg21); first | (intro e; subst e; simp at hg16 hg17 hg18 hg19 hg20 hg21; done) | (rw [Nte_eq]; simp [hg16, hg17, hg18, hg19, hg20, hg21])), hp.chg⟩
 refine go ?_
 refine P1 results41 ?_
 exact ⟨_, rfl, bool_f (by (try simp only [hm2, hm3, hm4, decide_eq_true_eq] at hg16 hg17 hg18 hg19 hg20); first | (intro e; subst e; simp at hg16 hg17 hg18 hg19 hg20; done) | (rw [Nte_eq]; simp [hg16, hg17, hg18, hg19, hg20])), hp.chg⟩
 refine go ?_
 refine P1 results41 ?_
 exact ⟨_, rfl, bool_f (by (try simp only [hm2, hm3, hm4, decide_eq_true_eq] at hg16 hg17 hg18 hg19); first | (intro e; subst e; simp at hg16 hg17 hg18 hg19; done) | (rw [Nte_eq]; simp [hg16, hg17, hg18, hg19])), hp.chg⟩
 refine go ?_
 refine P1 results41 ?_
 exact ⟨_, rfl, bool_f (by (try simp only [hm2, hm3, hm4, decide_eq_true_eq, decide_eq_false_iff_not] at hg16 hg17 hg18); first | (intro e; subst e; simp at hg16 hg17 hg18; done) | (rw [Nte_eq]; simp [hg16, hg17, hg18])), hp.chg⟩
 refine go ?_
 refine P1 results41 ?_
 exact ⟨_, rfl, bool_f (by (try simp only [hm2, hm3, decide_eq_true_eq, decide_eq_false_iff_not] at hg16 hg17); first | (intro e; subst e; simp at hg16 hg17; done) | (rw [Nte_eq]; simp [hg16, hg17])), hp.chg⟩
 refine go ?_
 refine P1 results41 ?_
 exact ⟨_, rfl, bool_f (by (try simp only [hm2, decide_eq_false_iff_not] at hg16); first | (intro e; subst e; simp at hg16; done) | (rw [Nte_eq]; simp [hg16])), hp.chg⟩
def ordS (a b : Stn) : Int := orI [cmpI a.seq b.seq, cmpI a.view b.view, Lib.compareBytes a.dig.l b.dig.l]
set_option maxHeartbeats 40000000 in
theorem order_ok {csa : List Value} {a : Stn} {Sa : Nat → Prop} {csb : List Value} {b : Stn} {Sb : Nat → Prop} (ha : standR.rd Sa w csa a) (hb : standR.rd Sb w csb b) : Ret prog 131 #[.agg csa.toArray, .agg csb.toArray] w (fun v w' => v = .int .i64 (ordS a b) ∧ Ext w w') := by
 obtain ⟨hIa, rfl⟩ := ha
 obtain ⟨hIb, rfl⟩ := hb
 refine ret_of_wk func131 rfl ntmps131 leB_ ?_
 have hp:=HP.begin_ w
 refine go ?_
 refine wl_hbox (by decide) rfl hp ?_
 rintro gs2 w1 hp1 hE1
 replace hp:=hp1
 replace hp:=hp.ay (itB gs2 97 ([iv a.seq] ++ (digC a.dig ++ ([iv a.view]))) :: _)
 refine wl_hbox (by decide) rfl hp ?_
 rintro gs3 w2 hp2 hE2
 replace hp:=hp2
 replace hp:=hp.ay (itB gs3 97 ([iv b.seq] ++ (digC b.dig ++ ([iv b.view]))) :: _)
 refine go ?_
 have hba:=(((hp.blkAt (i := 1) rfl).at_ 1).take 32).bs (d := a.dig) (S := fun _ => True) rfl trivial (hp.blkAt (i := 1) rfl).lt
 have hbb:=(((hp.blkAt (i := 0) rfl).at_ 1).take 32).bs (d := b.dig) (S := fun _ => True) rfl trivial (hp.blkAt (i := 0) rfl).lt
 apply wdL [.eq _,.eq _,.eq _,.eq _,.eq _,.eq _,.eq _,.eq _,.eq _,.eq _,.eq _,.eq _,.eq _,.eq _,.eq (iv (Lib.compareBytes a.dig.l b.dig.l)),SP.gs intR (fun _ => True) [cmpI a.seq b.seq,cmpI a.view b.view,Lib.compareBytes a.dig.l b.dig.l],.eq _,.eq _]
 refine ⟨?_,?_,?_,?_,?_,?_,?_,?_,?_,?_,?_,?_,?_,?_,?_,?_,?_,?_,trivial⟩<;>intro F wF hER hk
 exact Fd_ 0 fld97_0 (hk.qi 2) rfl qz
 exact Hl_ 1 sc3 (hk.qe 0) (hp.ext hER) rfl rfl qz
 exact Fd_ 0 fld97_0 (hk.qi 3) rfl qz
 exact Hl_ 0 sc3 (hk.qe 2) (hp.ext hER) rfl rfl qz
 have e6:=hk.qe 1
 have e8:=hk.qe 3
 refine Cl_ cl149 (by simp only [evs, ev, e6, e8]; first | done | rfl) (cmpI_ok) ?_
 rintro _ _ ⟨rfl, rfl⟩
 exact qz
 exact Fd_ 33 fld97_2 (hk.qi 2) rfl qz
 exact Hl_ 1 sc3 (hk.qe 5) (hp.ext hER) rfl rfl qz
 exact Fd_ 33 fld97_2 (hk.qi 3) rfl qz
 exact Hl_ 0 sc3 (hk.qe 7) (hp.ext hER) rfl rfl qz
 have e11:=hk.qe 6
 have e13:=hk.qe 8
 refine Cl_ cl149 (by simp only [evs, ev, e11, e13]; first | done | rfl) (cmpI_ok) ?_
 rintro _ _ ⟨rfl, rfl⟩
 exact qz
 exact Fd_ 1 fld97_1 (hk.qi 2) rfl qz
 exact wl_sliceA (by decide) ar23 (hk.qe 10) qz
 exact Fd_ 1 fld97_1 (hk.qi 3) rfl qz
 exact wl_sliceA (by decide) ar23 (hk.qe 12) qz
 have e16:=hk.qe 11
 have e18:=hk.qe 13
 have hcl:=bcompare_ok (hba.ext hER) (hbb.ext hER)
 refine Cl_ cl150 (by simp only [evs, ev, e16, e18, a.dig.h, b.dig.h]) hcl ?_
 clear hcl
 rintro _ w7 ⟨rfl, hE7⟩
 exact qz ⟨hE7, rfl⟩
 have e9:=hk.qe 4
 have e14:=hk.qe 9
 have e19:=hk.qe 14
 refine wl_bsliceI (xs := [.tmp 9, .tmp 14, .tmp 19]) (l := [cmpI a.seq b.seq, cmpI a.view b.view, Lib.compareBytes a.dig.l b.dig.l]) (by decide) sl27 rfl (by simp only [evs, ev, e9, e14, e19]; rfl) rfl (by simp) ?_
 intro g7 w7 hg7 hE7
 exact qz ⟨hE7, _, _, rfl, hg7⟩
 obtain ⟨u20, e20, h20⟩:=hk.qp 15
 obtain ⟨A15, c15, rfl, h15⟩ := h20
 have hcl:=orI_ok h15
 refine Cl_ cl148 (by simp only [evs, ev, e20]; first | done | rfl) hcl ?_
 clear hcl
 rintro _ _ ⟨rfl, rfl⟩
 exact qz
 exact wl_assign (by decide) (hk.qe 16) qz
 intro F wD hED hini hdo
 refine wk_drop [(4, _)] ⟨dq hdo 17, trivial⟩ ?_
 clear hini hdo
 replace hp:=hp.ext hED
 refine go ?_
 refine P1 results131 ?_
 exact ⟨_, rfl, by rfl, hp.chg⟩
end Go.Proofs.YtkdoomglflikkaaGreat
namespace Go.Eng
theorem cmpB_lt : ∀ (a b : List UInt8), a.length = b.length → (Lib.compareBytes a b < 0 ↔ ltD a b = true)
 | [], [], _ => by simp [Lib.compareBytes, ltD]
 | [], _ :: _, h => by simp at h
 | _ :: _, [], h => by simp at h
 | x :: a, y :: b, h => by
  have ih := cmpB_lt a b (by simpa using h)
  unfold Lib.compareBytes ltD
  by_cases hxy : x = y
  ·subst hxy
   have hlt : ¬ x < x := UInt8.lt_irrefl x
   simp only [hlt, if_false, if_true]
   exact ih
  ·rw [if_neg hxy, decide_eq_true_eq]
   have e : x < y ↔ x.toNat < y.toNat := UInt8.lt_iff_toNat_lt
   by_cases h1 : x < y
   ·rw [if_pos h1]; exact ⟨fun _ => e.1 h1, fun _ => by omega⟩
   ·rw [if_neg h1]
    have hne : x.toNat ≠ y.toNat := fun he => hxy (UInt8.toNat_inj.1 he)
    have h2 : y < x := UInt8.lt_iff_toNat_lt.2 (by have h3 : ¬ x.toNat < y.toNat := fun h => h1 (e.2 h); omega)
    rw [if_pos h2]
    exact ⟨fun h => by omega, fun h => absurd (e.2 h) h1⟩
def cntM (l : List Stn) (s : Int) (g : Dig) : Nat := (l.filter fun x => decide (x.seq = s ∧ x.dig = g)).length
theorem cntM_snoc (l : List Stn) (x : Stn) (s : Int) (g : Dig) : cntM (l ++ [x]) s g = cntM l s g + (if x.seq = s ∧ x.dig = g then 1 else 0) := by
 unfold cntM
 rw [List.filter_append, List.length_append]
 by_cases h : x.seq = s ∧ x.dig = g <;> simp [h]
theorem cntM_zero {l : List Stn} {i : Nat} {s : Int} {g : Dig} (hi : i ≤ l.length) : cntM (l.take i) s g = 0 ↔ ∀ k, k < i → ¬ ((l.getD k stand0).seq = s ∧ (l.getD k stand0).dig = g) := by
 unfold cntM
 rw [List.length_eq_zero_iff, List.filter_eq_nil_iff]
 constructor
 ·intro h k hk hc
  refine h (l.getD k stand0) ?_ (by simpa using hc)
  rw [List.mem_iff_getElem?]
  refine ⟨k, ?_⟩
  rw [List.getElem?_take, if_pos hk, List.getD_eq_getElem?_getD, List.getElem?_eq_getElem (by omega)]
  rfl
 ·intro h x hx hc
  obtain ⟨k, hk⟩ := List.mem_iff_getElem?.1 hx
  rw [List.getElem?_take] at hk
  split at hk
  ·rename_i hki
   refine h k hki ?_
   rw [List.getD_eq_getElem?_getD, hk]
   simpa using hc
  ·cases hk
end Go.Eng
namespace Go.Eng
open Go.RowKit Go.Maps
section
variable {P : Program} {n : Nat} {L : List (Nat × Value)} {w w' : World} {Q : Exit → Act → World → Prop} {ops : Array Oper} {rest : List Oper} {ty : TypeId} {pos : String} {af : Array Edge} {d : Nat} {t k e : TypeId} {m : Nat} {f : Value → Option Value}
def Born (w : World) (m : Nat) (key : Value) (b : Nat) : Prop := ∃ es c x, w.heap[m]? = some (.map es c) ∧ x ∈ es.toList ∧ x.key = key ∧ x.born = b
theorem idx_born {es : Array MapEntry} {j : Nat} {y : MapEntry} (hj : es[j]? = some y) (h3 : es.toList.Pairwise (fun x y => x.born ≠ y.born)) : es.findIdx? (fun e => (e.born : Int) == (y.born : Int)) = some j := by
 obtain ⟨hjl, hyj⟩ := Array.getElem?_eq_some_iff.1 hj
 rw [Array.findIdx?_eq_some_iff_getElem]
 refine ⟨hjl, by rw [hyj]; simp, fun i hi => ?_⟩
 rw [List.pairwise_iff_getElem] at h3
 have := h3 i j (by simp; omega) (by simpa using hjl) hi
 rw [Array.getElem_toList, Array.getElem_toList, hyj] at this
 simp only [Bool.not_eq_true, beq_eq_false_iff_ne, ne_eq]
 intro e
 exact this (by exact_mod_cast e)
theorem MapB.entS {key u : Value} {b : Nat} (hm : MapB P k w m f) (hB : Born w m key b) :
  ∃ w', (Instr.entryStore t (.map (some m)) (goInt b) u).run P w = .ok () w' ∧ MapB P k w' m (updF f key u) ∧ Chg (fun b => b = m) w w' := by
 obtain ⟨es, c, hb, h1, h2, h3, h4, h5, h6⟩ := hm.ex
 obtain ⟨es', c', y, hb', hy, hyk, hyb⟩ := hB
 rw [hb] at hb'
 simp only [Option.some.injEq, Obj.map.injEq] at hb'
 obtain ⟨rfl, rfl⟩ := hb'
 subst hyk
 subst hyb
 have hlt := hm.lt
 have hg : (getObj m).run P w = .ok (.map es c) w := by simp [getObj, Sem.run, hb]
 have hso : ∀ o : Obj, (setObj m o).run P w = .ok () { w with heap := w.heap.setIfInBounds m o } := by intro o; simp [setObj, Sem.run, hb]
 have hai : (asInt (goInt y.born)).run P w = .ok (y.born : Int) w := by simp [asInt, asIntOf, goInt]
 obtain ⟨j, hj⟩ := List.mem_iff_getElem?.1 hy
 have hj2 : es[j]? = some y := by simpa using hj
 have hfi := idx_born hj2 h3
 refine ⟨_, by
  simp only [Instr.entryStore, Sem.run_bind, Result.andThen_ok, hg, hai, hfi]
  exact hso _, ?_, Chg.setObj w m _⟩
 have hmem : ∀ x ∈ (es.modify j fun e => { e with val := u }).toList, (x.key = y.key ∧ x.val = u ∧ x.born = y.born) ∨ (x ∈ es.toList ∧ x.key ≠ y.key) := by
  intro x hx
  obtain ⟨i, hi, rfl⟩ := List.mem_iff_getElem.1 hx
  have hi' : i < es.size := by simpa using hi
  rw [Array.getElem_toList, Array.getElem_modify]
  split
  ·rename_i e
   subst e
   rw [Array.getElem?_eq_getElem hi'] at hj2
   have hyy := Option.some.inj hj2
   exact .inl ⟨by have := congrArg MapEntry.key hyy; exact this, rfl, by have := congrArg MapEntry.born hyy; exact this⟩
  ·rename_i e
   refine .inr ⟨by simp, fun hk' => e ?_⟩
   rw [List.pairwise_iff_getElem] at h4
   have hjl : j < es.toList.length := (List.getElem?_eq_some_iff.1 hj).1
   have hyj : es.toList[j] = y := (List.getElem?_eq_some_iff.1 hj).2
   rcases Nat.lt_trichotomy i j with hlt' | rfl | hgt
   ·exact absurd (by rw [hyj, Array.getElem_toList, hk']) (h4 i j (by simpa using hi') hjl hlt')
   ·rfl
   ·exact absurd (by rw [hyj, Array.getElem_toList, hk']) (h4 j i hjl (by simpa using hi') hgt)
 refine ⟨_, _, by simp [hlt]; exact ⟨rfl, rfl⟩, ?_, ?_, ?_, ?_, ?_, ?_⟩
 ·intro x hx
  rcases hmem x hx with ⟨e, _⟩ | ⟨hx, _⟩
  ·obtain ⟨l, hl⟩ := h1 y (List.mem_of_getElem? hj)
   exact ⟨l, by rw [e]; exact hl⟩
  ·exact h1 x hx
 ·intro x hx
  rcases hmem x hx with ⟨_, _, e⟩ | ⟨hx, _⟩
  ·rw [e]; exact h2 y (List.mem_of_getElem? hj)
  ·exact h2 x hx
 ·have := modify_map (·.born) es j (fun e => { e with val := u }) y hj2 rfl
  have h3' : (es.toList.map (·.born)).Pairwise (· ≠ ·) := by rw [List.pairwise_map]; exact h3
  rw [← this, List.pairwise_map] at h3'
  exact h3'
 ·have := modify_map (·.key) es j (fun e => { e with val := u }) y hj2 rfl
  have h4' : (es.toList.map (·.key)).Pairwise (· ≠ ·) := by rw [List.pairwise_map]; exact h4
  rw [← this, List.pairwise_map] at h4'
  exact h4'
 ·intro x hx
  rcases hmem x hx with ⟨e, e2, _⟩ | ⟨hx, hne⟩
  ·rw [e, e2]; exact updF_same f _ _
  ·rw [updF_other f hne]; exact h5 x hx
 ·intro v u' hv
  by_cases he : v = y.key
  ·subst he
   rw [updF_same] at hv
   refine ⟨{ y with val := u }, ?_, rfl, Option.some.inj hv⟩
   rw [List.mem_iff_getElem?]
   exact ⟨j, by rw [Array.getElem?_toList, Array.getElem?_modify, if_pos rfl, hj2]; rfl⟩
  ·rw [updF_other f he] at hv
   obtain ⟨x, hx, rfl, hxv⟩ := h6 v u' hv
   refine ⟨x, ?_, rfl, hxv⟩
   obtain ⟨i, hi⟩ := List.mem_iff_getElem?.1 hx
   rw [List.mem_iff_getElem?]
   refine ⟨i, ?_⟩
   rw [Array.getElem?_toList, Array.getElem?_modify, if_neg, ← Array.getElem?_toList, hi]
   rintro rfl
   rw [hi] at hj
   exact he (by rw [Option.some.inj hj])
theorem modify_self {es : Array MapEntry} {j : Nat} {y : MapEntry} (hj : es[j]? = some y) {g : MapEntry → MapEntry} (hg : g y = y) : es.modify j g = es := by
 apply Array.ext_getElem?
 intro i
 rw [Array.getElem?_modify]
 split
 ·rename_i e
  subst e
  rw [hj]
  simp [hg]
 ·rfl
theorem updF_self {key u : Value} (h : f key = some u) : updF f key u = f := by
 funext v
 by_cases e : v = key
 ·subst e; rw [updF_same, h]
 ·exact updF_other f e
theorem MapB.entM (K : Keyed P k) {key z : Value} {l : Lit} (hk : keyOf P k key = some l) (hm : MapB P k w m f) (ht : P.underlying t = some (.map k e)) (hz : (P.info? e).bind (·.zero) = some z) :
  ∃ w' b, (Instr.mapEntry t (.map (some m)) key).run P w = .ok (.tuple #[(f key).getD z, goInt (b : Nat)]) w' ∧ MapB P k w' m (updF f key ((f key).getD z)) ∧ Born w' m key b ∧ Chg (fun b => b = m) w w' := by
 have hm0 := hm
 obtain ⟨es, c, hb, h1, h2, h3, h4, h5, h6⟩ := hm.ex
 have hc := K.check w false hk
 have hs := K.stays w hk
 have hg : (getObj m).run P w = .ok (.map es c) w := by simp [getObj, Sem.run, hb]
 have hlt := hm.lt
 have hso : ∀ o : Obj, (setObj m o).run P w = .ok () { w with heap := w.heap.setIfInBounds m o } := by intro o; simp [setObj, Sem.run, hb]
 have hzz : (zeroValue e).run P w = .ok z w := by
  cases hi : P.info? e with
  | none => rw [hi] at hz; cases hz
  | some i =>
   rw [hi] at hz
   simp only [Option.bind_some] at hz
   simp [zeroValue, typeInfo, hi, hz]
 rcases hm.find K hk hb with ⟨hf, hr, hn⟩ | ⟨j, y, hr, hj, hy, hf⟩
 ·rw [hf, Option.getD_none]
  obtain ⟨w2, hr2, hm2, hc2⟩ := hm0.upd (u := z) K hk ht
  have he2 : (Instr.mapUpdate t (.map (some m)) key z).run P w = .ok () { w with heap := w.heap.setIfInBounds m (.map (es.push { key, val := z, born := c }) (c + 1)) } := by
   simp only [Instr.mapUpdate, run_underlying ht, Sem.run_bind, Result.andThen_ok, hg, hc, hr]; exact hso _
  rw [he2] at hr2
  injection hr2 with _ hw
  subst hw
  refine ⟨_, c, by
   simp only [Instr.mapEntry, run_underlying ht, Sem.run_bind, Result.andThen_ok, hg, hc, hr, hzz, hso, Sem.run_pure]; (try rfl), hm2, ⟨_, _, ⟨key, z, c⟩, by simp [hlt]; exact ⟨rfl, rfl⟩, by simp, rfl, rfl⟩, hc2⟩
 ·subst hy
  have hj2 : es[j]? = some y := by simpa using hj
  rw [hf, Option.getD_some, updF_self hf]
  have hself : es.modify j (fun e => { e with key := y.key }) = es := modify_self hj2 rfl
  refine ⟨_, y.born, by
   simp only [Instr.mapEntry, run_underlying ht, Sem.run_bind, Result.andThen_ok, hg, hc, hr]
   simp only [hj2, Option.map_some, Option.getD_some, hs, Result.andThen_ok, hself, hso, Sem.run_pure]; (try rfl), ⟨es, c, by simp [hlt], h1, h2, h3, h4, h5, h6⟩, ⟨es, c, y, by simp [hlt], List.mem_of_getElem? hj, rfl, rfl⟩, Chg.setObj w m _⟩
variable {w0 : World} {M0 Fz : Nat → Prop} {H : List It} {i : Nat}
theorem wl_hmapEntry {x ix : Operand} {key z : Value} {l : Lit} (hd : d < n) (K : Keyed P k) (ht : P.underlying t = some (.map k e)) (hz : (P.info? e).bind (·.zero) = some z) (hx : ev L x = some (.map (some m))) (hix : ev L ix = some key)
  (hk : keyOf P k key = some l) (hp : HP w0 M0 Fz w H) (hi : H[i]? = some (itM P k m f))
  (h : ∀ w' b, HP w0 M0 Fz w' (H.set i (itM P k m (updF f key ((f key).getD z)))) → Born w' m key b → Chg (fun b => ¬ Fz b) w w' → WL P n ops Q rest ((d, .tuple #[(f key).getD z, goInt (b : Nat)]) :: L) w') :
  WL P n ops Q ({ dst := some d, op := .mapEntry t x ix, type := ty, pos := pos, after := af, guard := none } :: rest) L w := by
 obtain ⟨K', ⟨ho, hK⟩, _, hup⟩ := hp.focus hi
 obtain ⟨w', b, hr, hm', hB, hch⟩ := ho.entM K hk ht hz
 obtain ⟨hp', hc'⟩ := hup w' (itM P k m (updF f key ((f key).getD z))) K' (hch.weak (fun b _ e => (hK b).2 e)) ⟨hm', hK⟩ (fun b hb => .inl hb)
 exact wl_run hd (fun a ha => by simp only [execOp, ha.eval hx, ha.eval hix, Sem.run_bind, hr, Result.andThen_ok, Sem.run_pure]) (h w' b hp' hB hc')
theorem wl_hentS {x s y : Operand} {key u : Value} {b : Nat} (hx : ev L x = some (.map (some m))) (hs : ev L s = some (goInt (b : Nat))) (hy : ev L y = some u) (hp : HP w0 M0 Fz w H) (hi : H[i]? = some (itM P k m f)) (hB : Born w m key b)
  (h : ∀ w', HP w0 M0 Fz w' (H.set i (itM P k m (updF f key u))) → Chg (fun b => ¬ Fz b) w w' → WL P n ops Q rest L w') :
  WL P n ops Q ({ dst := none, op := .entryStore t x s y, type := ty, pos := pos, after := af, guard := none } :: rest) L w := by
 obtain ⟨K', ⟨ho, hK⟩, _, hup⟩ := hp.focus hi
 obtain ⟨w', hr, hm', hch⟩ := ho.entS (t := t) (u := u) hB
 obtain ⟨hp', hc'⟩ := hup w' (itM P k m (updF f key u)) K' (hch.weak (fun b _ e => (hK b).2 e)) ⟨hm', hK⟩ (fun b hb => .inl hb)
 exact wl_eff (fun a ha => by simp only [execOp, ha.eval hx, ha.eval hs, ha.eval hy, Sem.run_bind, hr, Result.andThen_ok, Sem.run_pure]) (h w' hp' hc')
theorem updF_updF (f : Value → Option Value) (key u v : Value) : updF (updF f key u) key v = updF f key v := by
 funext x
 by_cases e : x = key
 ·subst e; rw [updF_same, updF_same]
 ·rw [updF_other _ e, updF_other _ e, updF_other _ e]
end
end Go.Eng
namespace Go.Eng
open Go.RowKit Go.Maps
section
variable {P : Program} {n : Nat} {Q : Exit → Act → World → Prop} {L : List (Nat × Value)} {w w0 : World} {M0 Fz : Nat → Prop} {H : List It}
noncomputable def bumpH (P : Program) (k m : Nat) (f : Value → Option Value) (key z : Value) (H : List It) (i : Nat) (b : Bool) : List It := if b then H.set i (itM P k m (updF f key ((f key).getD z))) else H
def bumpW (m : Nat) (key v0 v1 : Value) : Nat → Value → World → Prop
 | 0, v, _ => v = .map (some m)
 | 1, v, _ => v = key
 | 2, v, _ => v = v0
 | 3, v, _ => v = v1
 | 4, v, w => ∃ b : Nat, v = .tuple #[v0, goInt b] ∧ Born w m key b
 | 5, v, w => ∃ b : Nat, v = goInt b ∧ Born w m key b
 | _, _, _ => True
theorem Born.ext {w w' : World} {m b : Nat} {key : Value} (h : Born w m key b) (hE : Ext w w') : Born w' m key b := by
 obtain ⟨es, c, x, hb, r⟩ := h
 exact ⟨es, c, x, (hE.block m (Array.getElem?_eq_some_iff.1 hb).1 (fun x => x)).trans hb, r⟩
theorem wc_bump {id k _e _t m i : Nat} {f : Value → Option Value} {key z : Value} {_lk' : Lit} {v1 : Value} {l : List Oper} (hm : P.follows .mixedOrders = true) (hB : drawnB (l.take 6) (l.drop 6) = true) (hC : (edgesOf l.toArray 5).contains 4 = true) (hl : l.length = 7)
  (hp : HP w0 M0 Fz w H) (_hi : H[i]? = some (itM P k m f))
  (X : AllOps (fun j o => ∀ F w' b, HP w0 M0 Fz w' (bumpH P k m f key z H i b) → Chg (fun b => ¬ Fz b) w w' → (j = 4 → b = false) → Kn l.toArray L (bumpW m key ((f key).getD z) v1) j F w' →
   WL P n l.toArray (QR n F (dstOf l.toArray j) fun v w'' => (if j = 4 then HP w0 M0 Fz w'' (bumpH P k m f key z H i true) ∧ Chg (fun b => ¬ Fz b) w' w'' else w'' = w') ∧ bumpW m key ((f key).getD z) v1 j v w'') [o] F w') 0 (l.take 6))
  (hQ : ∀ F w', HP w0 M0 Fz w' (bumpH P k m f key z H i true) → Chg (fun b => ¬ Fz b) w w' → (∀ x v, lk L x = some v → ((List.range (l.take 6).length).all fun j => match dstOf l.toArray j with | some d => !Nat.beq d x | none => true) = true → lk F x = some v) →
   (∀ j d, j < (l.take 6).length → dstOf l.toArray j = some d → ∃ v, lk F d = some v ∧ bumpW m key ((f key).getD z) v1 j v w') → WL P n l.toArray Q (l.drop 6) F w') :
  WK n ((Code.region id l.toArray true).wp P Q) L w := by
 have e0 : l.take 6 ++ l.drop 6 = l := List.take_append_drop 6 l
 have hC' : 4 ∈ edgesOf l.toArray 5 := by simpa [List.contains_iff_mem] using hC
 have key' := wc_drawV (P := P) (n := n) (id := id) (pre := l.take 6) (tl := l.drop 6) (Q := Q) (L := L) (w := w) (bumpW m key ((f key).getD z) v1)
  (fun g _ w' => HP w0 M0 Fz w' (bumpH P k m f key z H i (g 4)) ∧ Chg (fun b => ¬ Fz b) w w' ∧ (g 5 = true → g 4 = true))
  (fun j _ _ w' w'' => if j = 4 then HP w0 M0 Fz w'' (bumpH P k m f key z H i true) ∧ Chg (fun b => ¬ Fz b) w' w'' else w'' = w') hm hB
 rw [e0] at key'
 refine key' (fun g T q hf => ?_) (fun j g T T' v w1 w2 hgj hed hI hR _ _ _ => ?_) (fun a j v g T u w1 w2 haj hga hgj hed hI hR h => ?_) (fun j o ho g F w' hgj hed hI hK => ?_) (fun g F w' hall hI h2 h3 => ?_)
 ·rw [hf 4 (by omega), hf 5 (by omega)]
  exact ⟨hp.ext ⟨rfl, rfl, rfl, Nat.le_refl _, fun _ _ _ => rfl⟩, ⟨rfl, rfl, rfl, Nat.le_refl _, fun _ _ _ => rfl⟩, fun h => by cases h⟩
 ·obtain ⟨h1, h2, h3⟩ := hI
  by_cases hj : j = 4
  ·subst hj
   rw [if_pos rfl] at hR
   exact ⟨by simpa using hR.1, h2.step hR.2 (fun _ _ x => x), by simp⟩
  ·rw [if_neg hj] at hR
   subst hR
   refine ⟨by simpa [Ne.symm hj] using h1, h2, fun h => ?_⟩
   by_cases hj5 : j = 5
   ·subst hj5; simpa using hed 4 hC'
   ·have : g 5 = true := by simpa [Ne.symm hj5] using h
    simpa [Ne.symm hj] using h3 this
 ·by_cases ha : a = 4
  ·subst ha
   have hj5 : j ≠ 5 := fun h5 => by subst h5; rw [hI.2.2 hgj] at hga; cases hga
   match j, haj, hj5, h with
   | 0, _, _, h => exact h
   | 1, _, _, h => exact h
   | 2, _, _, h => exact h
   | 3, _, _, h => exact h
   | 4, h4, _, _ => exact absurd rfl h4
   | 5, _, h5, _ => exact absurd rfl h5
   | j + 6, _, _, _ => exact trivial
  ·rw [if_neg ha] at hR
   subst hR
   exact h
 ·have := X.at_ j o ho
  rw [Nat.zero_add] at this
  exact this F w' (g 4) hI.1 hI.2.1 (fun h4 => by rw [← h4]; exact hgj) hK
 ·have h4 := hall 4 (by rw [List.length_take]; omega)
  rw [h4] at hI
  exact hQ F w' hI.1 hI.2.1 h2 h3
end
end Go.Eng
namespace Go.Proofs.YtkdoomglflikkaaGreat
open Go.RowKit Go.Eng _root_.Go.Proofs.Tryz
set_option maxRecDepth 100000
variable {w0 w : World} {M0 Fz : Nat → Prop} {H : List It} {A : Option Addr} {c : Nat}
def keyM (s : Int) (g : Dig) : Value := .agg ([Value.int .i64 s] ++ digC g).toArray
theorem keyM_inj {s t : Int} {g h : Dig} : keyM s g = keyM t h ↔ s = t ∧ g = h := by
 unfold keyM
 constructor
 ·intro e
  injection e with e
  have e2 := congrArg Array.toList e
  simp only [List.cons_append, List.nil_append, List.cons.injEq, Value.int.injEq, true_and] at e2
  exact ⟨e2.1, digC_inj.2 e2.2⟩
 ·rintro ⟨rfl, rfl⟩; rfl
def CntF (f : Value → Option Value) (l : List Stn) : Prop := ∀ s : Int, f (.int .i64 s) = if cntQ l s = 0 then none else some (.int .i64 (cntQ l s : Nat))
def SeenF (f : Value → Option Value) (l : List Stn) : Prop := ∀ s g, f (keyM s g) = if cntM l s g = 0 then none else some (.int .i64 (cntM l s g : Nat))
theorem CntF.val {f : Value → Option Value} {l : List Stn} (h : CntF f l) (s : Int) : (f (.int .i64 s)).getD (.int .i64 0) = .int .i64 (cntQ l s : Nat) := by
 rw [h s]; by_cases e : cntQ l s = 0 <;> simp [e]
theorem SeenF.val {f : Value → Option Value} {l : List Stn} (h : SeenF f l) (s : Int) (g : Dig) : (f (keyM s g)).getD (.int .i64 0) = .int .i64 (cntM l s g : Nat) := by
 rw [h s g]; by_cases e : cntM l s g = 0 <;> simp [e]
theorem CntF.step {f : Value → Option Value} {l : List Stn} (h : CntF f l) (x : Stn) : CntF (updF f (.int .i64 x.seq) (.int .i64 ((cntQ l x.seq : Nat) + 1))) (l ++ [x]) := by
 intro s
 rw [cntQ_snoc]
 by_cases e : x.seq = s
 ·subst e; rw [updF_same]; simp
 ·rw [updF_other f (fun he => e (by injection he with _ he; exact he.symm)), if_neg e, Nat.add_zero]; exact h s
theorem SeenF.step {f : Value → Option Value} {l : List Stn} (h : SeenF f l) (x : Stn) : SeenF (updF f (keyM x.seq x.dig) (.int .i64 ((cntM l x.seq x.dig : Nat) + 1))) (l ++ [x]) := by
 intro s g
 rw [cntM_snoc]
 by_cases e : x.seq = s ∧ x.dig = g
 ·obtain ⟨rfl, rfl⟩ := e; rw [updF_same]; simp
 ·rw [updF_other f (fun he => e (by have := keyM_inj.1 he; exact ⟨this.1.symm, this.2.symm⟩)), if_neg e, Nat.add_zero]; exact h s g
theorem CntF.nil : CntF (fun _ => none) [] := fun s => by simp [cntQ]
theorem SeenF.nil : SeenF (fun _ => none) [] := fun s g => by simp [cntM]
theorem cmpI_lt (x y : Int) : (cmpI x y < 0 ↔ x < y) ∧ (cmpI x y = 0 ↔ x = y) := by unfold cmpI; constructor <;> (split <;> (try split) <;> omega)
theorem ordS_neg {a b : Stn} : ordS a b < 0 ↔ OrdLt a b := by
 have h1 := cmpI_lt a.seq b.seq
 have h2 := cmpI_lt a.view b.view
 have h3 := cmpB_lt a.dig.l b.dig.l (by rw [a.dig.h, b.dig.h])
 unfold ordS OrdLt orI orI orI orI
 split
 ·split
  ·split
   ·rename_i e1 e2 e3
    have := h1.2.1 e1; have := h2.2.1 e2
    rw [e3] at h3
    constructor
    ·intro h; exact absurd h (by omega)
    ·rintro (h | ⟨_, h | ⟨_, h⟩⟩)
     ·omega
     ·omega
     ·exact absurd (h3.2 h) (by omega)
   ·rename_i e1 e2 e3
    have := h1.2.1 e1; have := h2.2.1 e2
    rw [h3]
    exact ⟨fun h => .inr ⟨by omega, .inr ⟨by omega, h⟩⟩, fun h => by rcases h with h | ⟨_, h | ⟨_, h⟩⟩; omega; omega; exact h⟩
  ·rename_i e1 e2
   have := h1.2.1 e1
   rw [h2.1]
   exact ⟨fun h => .inr ⟨by omega, .inl h⟩, fun h => by rcases h with h | ⟨_, h | ⟨h, _⟩⟩; omega; exact h; exact absurd (h2.2.2 h) e2⟩
 ·rename_i e1
  rw [h1.1]
  exact ⟨fun h => .inl h, fun h => by rcases h with h | ⟨h, _⟩; exact h; exact absurd (h1.2.2 h) e1⟩
theorem wf64 {a : Int} (h : i64 a) : (Lit.int .i64 a).wf = true := by have := fit_int h.1 h.2; simpa [fitC] using this
theorem cntQ_le (l : List Stn) (s : Int) (k : Nat) (h : k ≤ l.length) : cntQ (l.take k) s ≤ k := by
 unfold cntQ
 have := List.length_filter_le (fun x : Stn => decide (x.seq = s)) (l.take k)
 rw [List.length_take] at this
 omega
theorem cntM_le (l : List Stn) (s : Int) (g : Dig) (k : Nat) (h : k ≤ l.length) : cntM (l.take k) s g ≤ k := by
 unfold cntM
 have := List.length_filter_le (fun x : Stn => decide (x.seq = s ∧ x.dig = g)) (l.take k)
 rw [List.length_take] at this
 omega
theorem cntM_next {l : List Stn} {k : Nat} (h : k < l.length) : cntM (l.take (k + 1)) (l.getD k stand0).seq (l.getD k stand0).dig = cntM (l.take k) (l.getD k stand0).seq (l.getD k stand0).dig + 1 := by
 rw [take_snoc stand0 h, cntM_snoc]; simp
theorem cntQ_next {l : List Stn} {k : Nat} (h : k < l.length) : cntQ (l.take (k + 1)) (l.getD k stand0).seq = cntQ (l.take k) (l.getD k stand0).seq + 1 := by
 rw [take_snoc stand0 h, cntQ_snoc]; simp
theorem t0_nStandsMay_ok {p : Prop} (h : p := by exact wl_re (k := 45) (v := .bool true) rfl (congrArg Value.bool (decide_eq_true (by first | exact hs2 | omega | simpa using hs2))) qy) : p := h
theorem t1_nStandsMay_ok {p : Prop} (h : p := by exact wl_re (k := 53) (v := .bool true) rfl (congrArg Value.bool (decide_eq_true (by first | exact hs3 | omega | simpa using hs3))) qy) : p := h
set_option maxHeartbeats 40000000 in
theorem nStandsMay_ok {Al : Option Addr} {cl : Nat} {l : List Stn} {Sl : Nat → Prop} {cscg : List Value} {cg : Chn} {Scg : Nat → Prop} {many : Nat} (hl : GS standR Sl w Al cl l) (hcg : changeR.rd Scg w cscg cg) (hlow : 0 ≤ cg.low ∧ cg.low ≤ 9007199254740983 ∧ 1 ≤ cg.view) (_hmany : 1 ≤ many ∧ many ≤ 4) : Ret prog 94 #[.slice Al l.length cl, .agg cscg.toArray, .int .i64 (many : Int)] w (fun v w' => v = .bool (decide (StandsMay l cg.low cg.view many)) ∧ Ext w w') := by
 obtain ⟨hIcg, Acg0, ccg0, Acg1, ccg1, Acg2, ccg2, rfl, hcg0, hcg1, hcg2⟩ := hcg
 have hJcg:=hIcg
 unfold ChnI i64 at hJcg
 have mhl:=hl.mx
 have mhcg0:=hcg0.mx
 have mhcg1:=hcg1.mx
 have mhcg2:=hcg2.mx
 refine ret_of_wk func94 rfl ntmps94 leB_ ?_
 have hp:=HP.begin_ w
 replace hl:=hl.now
 replace hcg0:=hcg0.now
 replace hcg1:=hcg1.now
 replace hcg2:=hcg2.now
 refine go ?_
 refine wl_hbox (by decide) rfl hp ?_
 rintro gs4 w1 hp1 hE1
 have q0:=hE1
 replace hp:=hp1
 refine go ?_
 refine wl_hmakeMap (P := prog) (k := 3) (by decide) hp ?_
 rintro gm12 wm hpm hEm
 replace q0:=q0.trans hEm
 replace hp:=hpm
 refine wl_hmakeMap (P := prog) (k := 95) (by decide) hp ?_
 rintro gm13 wm hpm hEm
 replace q0:=q0.trans hEm
 replace hp:=hpm
 refine go ?_
 refine Ln_ underlying31 rfl (go ?_)
 refine wc_loop (fun L' w' mes => ∃ (k : Nat), ∃ (f1 : Value → Option Value), ∃ (f2 : Value → Option Value), L' = [(0, .slice Al l.length cl), (2, iv (many : Int)), (4, pt gs4 0), (7, .map (some gm12)), (8, .map (some gm13)), (14, .slice Al l.length cl), (15, iv (l.length : Int)), (16, iv (k : Int))] ∧ (k ≤ l.length) ∧ (∀ i, i < k → StandAt l cg.low cg.view many i) ∧ (CntF f1 (l.take k)) ∧ (SeenF f2 (l.take k)) ∧ (GS standR (fun b => b < w.heap.size) w' Al cl l) ∧ (GS markR (fun b => b < w.heap.size) w' Acg0 ccg0 cg.marks) ∧ (GS standR (fun b => b < w.heap.size) w' Acg1 ccg1 cg.p) ∧ (GS standR (fun b => b < w.heap.size) w' Acg2 ccg2 cg.q) ∧ (HP w (fun _ => False) (fun b => b < w.heap.size) w' (itM prog 95 gm13 f2 :: itM prog 3 gm12 f1 :: itB gs4 33 ([iv cg.node, iv cg.view, iv cg.low, .slice Acg0 cg.marks.length ccg0, .slice Acg1 cg.p.length ccg1, .slice Acg2 cg.q.length ccg2]) :: [])) ∧ l.length - k = mes) [(0, .slice Al l.length cl), (2, iv (many : Int)), (4, pt gs4 0), (7, .map (some gm12)), (8, .map (some gm13)), (14, .slice Al l.length cl), (15, iv (l.length : Int)), (16, iv (0 : Int))] (l.length - 0) (by
     refine ⟨0, (fun _ => none), (fun _ => none), rfl, ?_, ?_, ?_, ?_, ?_, ?_, ?_, ?_, ?_, rfl⟩
     · omega
     · intro i hi; omega
     · exact CntF.nil
     · exact SeenF.nil
     · exact (hl.ext q0)
     · exact (hcg0.ext q0)
     · exact (hcg1.ext q0)
     · exact (hcg2.ext q0)
     · exact hp) ⟨rfl, rfl, rfl, rfl, rfl, rfl, rfl, rfl, trivial⟩ ?_
 rintro _ wr _ ⟨k, f1, f2, rfl, hk, hall, hf1, hf2, hl, hcg0, hcg1, hcg2, hp, rfl⟩ KL1 hKL1
 refine go ?_
 refine Ls_ rfl rfl (go ?_)
 refine Cd (fun hc1 => ?_) fun hc1 => ?_
 refine go ?_
 obtain ⟨ae2, hAe2, hate2, hIe2⟩ := standR_el hl k (by omega)
 refine wl_idx0 (by decide) sl31 rfl rfl hAe2 k rfl (by omega) ?_
 refine wl_loadA (by decide) ag97 rfl hate2.at_ rfl ?_
 refine wl_halloc (z := .agg #[iv 0, .int .u8 0, .int .u8 0, .int .u8 0, .int .u8 0, .int .u8 0, .int .u8 0, .int .u8 0, .int .u8 0, .int .u8 0, .int .u8 0, .int .u8 0, .int .u8 0, .int .u8 0, .int .u8 0, .int .u8 0, .int .u8 0, .int .u8 0, .int .u8 0, .int .u8 0, .int .u8 0, .int .u8 0, .int .u8 0, .int .u8 0, .int .u8 0, .int .u8 0, .int .u8 0, .int .u8 0, .int .u8 0, .int .u8 0, .int .u8 0, .int .u8 0, .int .u8 0, iv 0]) (by decide) (by kernel_rfl) hp ?_
 rintro gs10 w3 hp3 hE3
 have q1:=hE3
 replace hp:=hp3
 refine go ?_
 refine wl_hstore (i := 0) rfl rfl hp rfl sz97 leB_ (List.all_eq_true.1 rfl) ?_
 rintro w4 hp4 hC4
 have q2:=hl.tk.ext q1
 replace q2:=q2.fz hC4
 replace hp:=hp4
 refine go ?_
 refine Fd_ 0 fld97_0 rfl rfl ?_
 refine Hl_ 0 sc3 rfl hp rfl rfl ?_
 refine Fd_ 1 fld97_1 rfl rfl ?_
 refine Hx_ (digC ((l.getD k stand0).dig)) 0 ag23 rfl hp rfl rfl rfl ?_
 refine wl_builtS (ps := [(0, .tmp 22), (1, .tmp 24)]) (by decide) bld95 rfl rfl ?_
 refine wl_halloc (z := .agg #[iv 0, .int .u8 0, .int .u8 0, .int .u8 0, .int .u8 0, .int .u8 0, .int .u8 0, .int .u8 0, .int .u8 0, .int .u8 0, .int .u8 0, .int .u8 0, .int .u8 0, .int .u8 0, .int .u8 0, .int .u8 0, .int .u8 0, .int .u8 0, .int .u8 0, .int .u8 0, .int .u8 0, .int .u8 0, .int .u8 0, .int .u8 0, .int .u8 0, .int .u8 0, .int .u8 0, .int .u8 0, .int .u8 0, .int .u8 0, .int .u8 0, .int .u8 0, .int .u8 0]) (by decide) (by kernel_rfl) hp ?_
 rintro gs11 w5 hp5 hE5
 replace q2:=q2.ext hE5
 replace hp:=hp5
 refine wl_hstore (i := 0) rfl rfl hp rfl sz95 leB_ (List.all_eq_true.1 rfl) ?_
 rintro w6 hp6 hC6
 replace q2:=q2.fz hC6
 replace hp:=hp6
 refine go ?_
 refine Fd_ 0 fld97_0 rfl rfl ?_
 refine Hl_ 1 sc3 rfl hp rfl rfl ?_
 have hvQ:=hf1.val (l.getD k stand0).seq
 refine wl_lookup (z := iv 0) (key := iv (l.getD k stand0).seq) (by decide) (Go.Maps.int_keyed underlying3) underlying167 (by kernel_rfl) rfl rfl (Go.Maps.keyOf_int_mk underlying3 (wf64 hIe2.1)) (hp.mapAt (i := 3) rfl) ?_
 refine wl_re (k := 29) (v := iv (cntQ (l.take k) (l.getD k stand0).seq : Nat)) rfl hvQ ?_
 have hcQ : cntQ (l.take k) (l.getD k stand0).seq ≤ k := cntQ_le l _ k (by omega)
 refine wl_add (by decide) rfl rfl (w64 (by omega) (by omega)) ?_
 refine wl_hmapUpdate (i := 3) (key := iv (l.getD k stand0).seq) (Go.Maps.int_keyed underlying3) underlying167 rfl rfl rfl (Go.Maps.keyOf_int_mk underlying3 (wf64 hIe2.1)) hp rfl ?_
 rintro w5 hp5 hC5
 replace q2:=q2.fz hC5
 replace hp:=hp5
 have hf1n:=hf1.step (l.getD k stand0)
 rw [← take_snoc stand0 (by omega : k < l.length)] at hf1n
 refine go ?_
 obtain ⟨lkM, hlkM⟩ := keyOf_of key95 (FitK.cons (fit_int hIe2.1.1 hIe2.1.2) (digC_fit (l.getD k stand0).dig))
 have hvM:=hf2.val (l.getD k stand0).seq (l.getD k stand0).dig
 have hcM : cntM (l.take k) (l.getD k stand0).seq (l.getD k stand0).dig ≤ k := cntM_le l _ _ k (by omega)
 refine wc_bump (_e := 0) (_t := 0) (i := 2) (f := f2) (key := keyM (l.getD k stand0).seq (l.getD k stand0).dig) (z := iv 0) (_lk' := lkM) (v1 := iv ((cntM (l.take k) (l.getD k stand0).seq (l.getD k stand0).dig : Nat) + 1)) rfl (by kernel_rfl) (by kernel_rfl) rfl hp rfl ⟨?_, ?_, ?_, ?_, ?_, ?_, trivial⟩ ?_
 intro F wF bF hpF hCF h4F hK
 have e8:=hK.init 8 _ rfl (by kernel_rfl)
 refine Mv_ e8 ?_
 exact qz ⟨(if_neg (by decide)).mpr rfl, rfl⟩
 intro F wF bF hpF hCF h4F hK
 have e11:=hK.init 11 _ rfl (by kernel_rfl)
 have hB : Blk wF gs11 95 (([Value.int .i64 (l.getD k stand0).seq] ++ digC (l.getD k stand0).dig)) := by cases bF <;> exact hpF.blkAt (i := 0) rfl
 refine wl_loadBA (by decide) ag95 e11 hB rfl ?_
 exact qz ⟨(if_neg (by decide)).mpr rfl, rfl⟩
 intro F wF bF hpF hCF h4F hK
 obtain ⟨u31, e31, h31⟩ := hK.pred 0 (by kernel_rfl) 31 rfl
 obtain rfl := h31
 obtain ⟨u32, e32, h32⟩ := hK.pred 1 (by kernel_rfl) 32 rfl
 obtain rfl := h32
 have hM : (bF = false ∧ MapB prog 95 wF gm13 f2) ∨ MapB prog 95 wF gm13 (updF f2 (keyM (l.getD k stand0).seq (l.getD k stand0).dig) ((f2 (keyM (l.getD k stand0).seq (l.getD k stand0).dig)).getD (iv 0))) := by
   cases bF
   · exact .inl ⟨rfl, hpF.mapAt (i := 2) rfl⟩
   · exact .inr (hpF.mapAt (i := 2) rfl)
 rcases hM with ⟨_, hM⟩ | hM
 refine wl_lookup (z := iv 0) (by decide) (keyed_of key95) underlying168 (by kernel_rfl) e31 e32 hlkM hM ?_
 exact qz ⟨(if_neg (by decide)).mpr rfl, rfl⟩
 refine wl_lookup (z := iv 0) (by decide) (keyed_of key95) underlying168 (by kernel_rfl) e31 e32 hlkM hM ?_
 rw [updF_same]
 exact qz ⟨(if_neg (by decide)).mpr rfl, rfl⟩
 intro F wF bF hpF hCF h4F hK
 obtain ⟨u33, e33, h33⟩ := hK.pred 2 (by kernel_rfl) 33 rfl
 obtain rfl := h33
 rw [hvM] at e33
 refine wl_add (by decide) e33 rfl (w64 (by omega) (by omega)) ?_
 exact qz ⟨(if_neg (by decide)).mpr rfl, rfl⟩
 intro F wF bF hpF hCF h4F hK
 obtain ⟨u31, e31, h31⟩ := hK.pred 0 (by kernel_rfl) 31 rfl
 obtain rfl := h31
 obtain ⟨u32, e32, h32⟩ := hK.pred 1 (by kernel_rfl) 32 rfl
 obtain rfl := h32
 obtain rfl := h4F rfl
 refine wl_hmapEntry (i := 2) (z := iv 0) (by decide) (keyed_of key95) underlying168 (by kernel_rfl) e31 e32 hlkM hpF rfl ?_
 intro w7 b7 hp7 hB7 hC7
 exact qz ⟨(if_pos rfl).mpr ⟨hp7, hC7⟩, b7, rfl, hB7⟩
 intro F wF bF hpF hCF h4F hK
 obtain ⟨u35, e35, h35⟩ := hK.pred 4 (by kernel_rfl) 35 rfl
 obtain ⟨b7, rfl, hB7⟩ := h35
 refine wl_extract (by decide) e35 rfl ?_
 exact qz ⟨(if_neg (by decide)).mpr rfl, b7, rfl, hB7⟩
 intro F wD hpD hCD hini hdo
 obtain ⟨u31, e31, h31⟩ := hdo 0 31 (Nat.lt_of_lt_of_eq (by decide) rfl) rfl
 obtain rfl := h31
 obtain ⟨u34, e34, h34⟩ := hdo 3 34 (Nat.lt_of_lt_of_eq (by decide) rfl) rfl
 obtain rfl := h34
 obtain ⟨u36, e36, h36⟩ := hdo 5 36 (Nat.lt_of_lt_of_eq (by decide) rfl) rfl
 obtain ⟨b7, rfl, hB7⟩ := h36
 have e0:=hini 0 _ rfl (by kernel_rfl)
 have e2:=hini 2 _ rfl (by kernel_rfl)
 have e4:=hini 4 _ rfl (by kernel_rfl)
 have e7:=hini 7 _ rfl (by kernel_rfl)
 have e8:=hini 8 _ rfl (by kernel_rfl)
 have e9:=hini 9 _ rfl (by kernel_rfl)
 have e10:=hini 10 _ rfl (by kernel_rfl)
 have e11:=hini 11 _ rfl (by kernel_rfl)
 have e14:=hini 14 _ rfl (by kernel_rfl)
 have e15:=hini 15 _ rfl (by kernel_rfl)
 have e16:=hini 16 _ rfl (by kernel_rfl)
 refine wl_drop [(0, _), (2, _), (4, _), (7, _), (8, _), (9, _), (10, _), (11, _), (14, _), (15, _), (16, _), (31, _), (34, _), (36, _)] ⟨e0, e2, e4, e7, e8, e9, e10, e11, e14, e15, e16, e31, e34, e36, trivial⟩ ?_
 clear e0 e2 e4 e7 e8 e9 e10 e11 e14 e15 e16 e31 e34 e36 hini hdo
 replace q2:=q2.fz hCD
 refine wl_hentS (i := 2) rfl rfl rfl hpD rfl hB7 ?_
 intro w8 hp8 hC8
 replace q2:=q2.fz hC8
 replace hp8:=hp8.ay (_ :: _ :: itM prog 95 gm13 (updF (updF f2 (keyM (l.getD k stand0).seq (l.getD k stand0).dig) ((f2 (keyM (l.getD k stand0).seq (l.getD k stand0).dig)).getD (iv 0))) (keyM (l.getD k stand0).seq (l.getD k stand0).dig) (iv ((cntM (l.take k) (l.getD k stand0).seq (l.getD k stand0).dig : Nat) + 1))) :: _)
 rw [updF_updF] at hp8
 clear hp hpD
 have hp:=hp8
 clear hp8
 have hf2n:=hf2.step (l.getD k stand0)
 rw [← take_snoc stand0 (by omega : k < l.length)] at hf2n
 have hm1:=cntM_next (l := l) (k := k) (by omega)
 have hq1:=cntQ_next (l := l) (k := k) (by omega)
 refine go ?_
 by_cases hs2 : (cg.low + 1) ≤ ((l.getD k stand0).seq) ∧ ((l.getD k stand0).seq) ≤ (cg.low + 8)
 by_cases hs3 : 0 ≤ ((l.getD k stand0).view) ∧ ((l.getD k stand0).view) ≤ (cg.view - 1)
 by_cases hs4 : (k : Int) > 0
 by_cases hs5 : (ordS (l.getD (k - 1) stand0) (l.getD k stand0)) ≥ 0
 obtain ⟨aw26, hAw26, hatw26, hIw26⟩ := standR_el (hl.fr q2) (k - 1) (by omega)
 apply wdL [SP.eq _, SP.eq _, SP.eq _, SP.eq _, SP.eq _, SP.eq _, SP.eq _, SP.eq _, SP.eq (.bool true), SP.eq (.bool false), SP.eq (.bool false), SP.eq _, SP.eq _, SP.eq _, SP.eq _, SP.eq _, SP.eq (.bool true), SP.eq (.bool false), SP.eq (.bool false), SP.eq (.bool false), SP.eq _, SP.eq (.bool true), SP.eq (.bool true), SP.eq _, SP.eq _, SP.eq _, SP.eq _, SP.eq _, SP.eq _, SP.eq _, SP.eq (.bool true), SP.eq (.bool true), SP.eq (.bool true), SP.eq (.bool true), SP.eq undef, SP.eq undef, SP.eq undef, SP.eq undef, SP.eq undef, SP.eq undef, SP.eq (.bool true), SP.eq (.bool true), SP.eq undef, SP.eq undef, SP.eq undef, SP.eq undef, SP.eq (.bool true)]
 refine ⟨?_,?_,?_,?_,?_,?_,?_,?_,?_,?_,?_,?_,?_,?_,?_,?_,?_,?_,?_,?_,?_,?_,?_,?_,?_,?_,?_,?_,?_,?_,?_,?_,?_,?_,?_,?_,?_,?_,?_,?_,?_,?_,?_,?_,?_,?_,?_,trivial⟩<;>intro F wF hER hk
 exact Fd_ 0 fld97_0 (hk.pi 10) rfl qz
 exact Hl_ 1 sc3 (hk.pe 0) (hp.ext hER) rfl rfl qz
 exact Fd_ 2 fld33_2 (hk.pi 4) rfl qz
 exact Hl_ 4 sc3 (hk.pe 2) (hp.ext hER) rfl rfl qz
 exact wl_add (by decide) (hk.pe 3) rfl (w64 (by omega) (by omega)) qz
 exact Fd_ 2 fld33_2 (hk.pi 4) rfl qz
 exact Hl_ 4 sc3 (hk.pe 5) (hp.ext hER) rfl rfl qz
 exact wl_add (by decide) (hk.pe 6) rfl (w64 (by omega) (by omega)) qz
 have e38:=hk.pe 1
 have e41:=hk.pe 4
 have e44:=hk.pe 7
 refine Cl_ cl62 (by simp only [evs, ev, e38, e41, e44]; first | done | rfl) (n_within) ?_
 rintro _ _ ⟨rfl, rfl⟩
 exact t0_nStandsMay_ok
 have e45:=hk.pe 8
 first | exact Nd_ e45 qz | exact Nn_ e45 qz
 exact dm (hk.pe 9)
 have e10:=hk.pi 10
 have e47:=hk.pe 10
 refine wl_gyes rfl e47 ?_
 exact Fd_ 33 fld97_2 e10 rfl qz
 have e48:=hk.pe 11
 have e47:=hk.pe 10
 refine wl_gyes rfl e47 ?_
 exact Hl_ 1 sc3 e48 (hp.ext hER) rfl rfl qz
 have e4:=hk.pi 4
 have e47:=hk.pe 10
 refine wl_gyes rfl e47 ?_
 exact Fd_ 1 fld33_1 e4 rfl qz
 have e50:=hk.pe 13
 have e47:=hk.pe 10
 refine wl_gyes rfl e47 ?_
 exact Hl_ 4 sc3 e50 (hp.ext hER) rfl rfl qz
 have e51:=hk.pe 14
 have e47:=hk.pe 10
 refine wl_gyes rfl e47 ?_
 exact wl_sub (by decide) e51 rfl (w64 (by omega) (by omega)) qz
 have e49:=hk.pe 12
 have e52:=hk.pe 15
 have e47:=hk.pe 10
 refine wl_gyes rfl e47 ?_
 refine Cl_ cl62 (by simp only [evs, ev, e49, e52]; first | done | rfl) (n_within) ?_
 rintro _ _ ⟨rfl, rfl⟩
 exact t1_nStandsMay_ok
 have e53:=hk.pe 16
 have e47:=hk.pe 10
 refine wl_gyes rfl e47 ?_
 first | exact Nd_ e53 qz | exact Nn_ e53 qz
 have e47:=hk.pe 10
 have e54:=hk.pe 17
 exact Pk_ e47 e54 qz
 exact dm (hk.pe 18)
 have e9:=hk.pi 9
 have e56:=hk.pe 19
 refine wl_gyes rfl e56 ?_
 exact Mv_ e9 qz
 have e57:=hk.pe 20
 have e56:=hk.pe 19
 refine wl_gyes rfl e56 ?_
 refine Gt_ e57 rfl ?_
 exact wl_re (k := 58) (v := .bool true) rfl (congrArg Value.bool (decide_eq_true (by first | exact hs4 | omega | simpa using hs4))) qy
 have e58:=hk.pe 21
 have e56:=hk.pe 19
 refine wl_gyes rfl e56 ?_
 exact Mv_ e58 qz
 have e0:=hk.pi 0
 have e59:=hk.pe 22
 refine wl_gyes rfl e59 ?_
 exact Mv_ e0 qz
 have e9:=hk.pi 9
 have e59:=hk.pe 22
 refine wl_gyes rfl e59 ?_
 exact Mv_ e9 qz
 have e61:=hk.pe 24
 have e59:=hk.pe 22
 refine wl_gyes rfl e59 ?_
 exact wl_sub (by decide) e61 rfl (w64 (by omega) (by omega)) qz
 have e60:=hk.pe 23
 have e62:=hk.pe 25
 have e59:=hk.pe 22
 refine wl_gyes rfl e59 ?_
 exact wl_idx0 (by decide) sl31 e60 e62 hAw26 (k - 1) (by omega) (by omega) qz
 have e63:=hk.pe 26
 have e59:=hk.pe 22
 refine wl_gyes rfl e59 ?_
 exact wl_loadA (by decide) ag97 e63 (hatw26.ext hER).at_ rfl qz
 have e10:=hk.pi 10
 have e59:=hk.pe 22
 refine wl_gyes rfl e59 ?_
 exact Hx_ ([iv ((l.getD k stand0).seq)] ++ (digC ((l.getD k stand0).dig) ++ ([iv ((l.getD k stand0).view)]))) 1 ag97 e10 (hp.ext hER) rfl rfl rfl qz
 have e64:=hk.pe 27
 have e65:=hk.pe 28
 have e59:=hk.pe 22
 refine wl_gyes rfl e59 ?_
 refine Cl_ cl131 (by simp only [evs, ev, e64, e65]; first | done | rfl) (order_ok (Sa := fun _ => True) (Sb := fun _ => True) ⟨hIw26, rfl⟩ ⟨hIe2, rfl⟩) ?_
 rintro _ w7 ⟨rfl, hE7⟩
 exact qz ⟨hE7, rfl⟩
 have e66:=hk.pe 29
 have e59:=hk.pe 22
 refine wl_gyes rfl e59 ?_
 refine Gq_ e66 rfl ?_
 exact wl_re (k := 67) (v := .bool true) rfl (congrArg Value.bool (decide_eq_true (by first | exact hs5 | omega | simpa using hs5))) qy
 have e59:=hk.pe 22
 have e67:=hk.pe 30
 have e56:=hk.pe 19
 refine wl_gyes rfl e56 ?_
 exact Pk_ e59 e67 qz
 have e56:=hk.pe 19
 have e68:=hk.pe 31
 exact Pk_ e56 e68 qz
 exact dm (hk.pe 32)
 exact dn (hk.pe 33)
 exact dn (hk.pe 33)
 exact dn (hk.pe 33)
 exact dn (hk.pe 33)
 exact dn (hk.pe 33)
 exact dn (hk.pe 33)
 have e70:=hk.pe 33
 have e76:=hk.pe 39
 exact Pk_ e70 rfl qz
 exact dm (hk.pe 40)
 exact dn (hk.pe 41)
 exact dn (hk.pe 41)
 exact dn (hk.pe 41)
 exact dn (hk.pe 41)
 have e78:=hk.pe 41
 have e82:=hk.pe 45
 exact Pk_ e78 rfl qz
 intro F wD hED hini hdo
 refine wk_drop [(0, _), (2, _), (4, _), (7, _), (8, _), (14, _), (15, _), (16, _), (83, _)] ⟨di hini 0, di hini 2, di hini 4, di hini 7, di hini 8, di hini 14, di hini 15, di hini 16, dq hdo 46, trivial⟩ ?_
 clear hini hdo
 replace hp:=hp.ext hED
 refine go ?_
 refine wc_cond_t rfl (go ?_)
 refine P1 results94 ?_
 exact ⟨_, rfl, bool_f (fun h => by have := h k (by omega); obtain ⟨a1, a2, a3, a4, a5, a6, a7⟩ := this; first | omega | exact absurd (ordS_neg.2 (a5 (by omega))) (by omega) | exact absurd ((cntM_zero (by omega)).2 a7) (by omega)), hp.chg⟩
 by_cases hcm : (many : Int) < (cntQ (l.take (k + 1)) (l.getD k stand0).seq : Int)
 obtain ⟨aw26, hAw26, hatw26, hIw26⟩ := standR_el (hl.fr q2) (k - 1) (by omega)
 apply wdL [SP.eq _, SP.eq _, SP.eq _, SP.eq _, SP.eq _, SP.eq _, SP.eq _, SP.eq _, SP.eq (.bool true), SP.eq (.bool false), SP.eq (.bool false), SP.eq _, SP.eq _, SP.eq _, SP.eq _, SP.eq _, SP.eq (.bool true), SP.eq (.bool false), SP.eq (.bool false), SP.eq (.bool false), SP.eq _, SP.eq (.bool true), SP.eq (.bool true), SP.eq _, SP.eq _, SP.eq _, SP.eq _, SP.eq _, SP.eq _, SP.eq _, SP.eq (.bool false), SP.eq (.bool false), SP.eq (.bool false), SP.eq (.bool false), SP.eq _, SP.eq _, SP.eq _, SP.eq (iv (cntQ (l.take (k + 1)) (l.getD k stand0).seq : Nat)), SP.eq _, SP.eq (.bool true), SP.eq (.bool true), SP.eq (.bool true), SP.eq undef, SP.eq undef, SP.eq undef, SP.eq undef, SP.eq (.bool true)]
 refine ⟨?_,?_,?_,?_,?_,?_,?_,?_,?_,?_,?_,?_,?_,?_,?_,?_,?_,?_,?_,?_,?_,?_,?_,?_,?_,?_,?_,?_,?_,?_,?_,?_,?_,?_,?_,?_,?_,?_,?_,?_,?_,?_,?_,?_,?_,?_,?_,trivial⟩<;>intro F wF hER hk
 exact Fd_ 0 fld97_0 (hk.pi 10) rfl qz
 exact Hl_ 1 sc3 (hk.pe 0) (hp.ext hER) rfl rfl qz
 exact Fd_ 2 fld33_2 (hk.pi 4) rfl qz
 exact Hl_ 4 sc3 (hk.pe 2) (hp.ext hER) rfl rfl qz
 exact wl_add (by decide) (hk.pe 3) rfl (w64 (by omega) (by omega)) qz
 exact Fd_ 2 fld33_2 (hk.pi 4) rfl qz
 exact Hl_ 4 sc3 (hk.pe 5) (hp.ext hER) rfl rfl qz
 exact wl_add (by decide) (hk.pe 6) rfl (w64 (by omega) (by omega)) qz
 have e38:=hk.pe 1
 have e41:=hk.pe 4
 have e44:=hk.pe 7
 refine Cl_ cl62 (by simp only [evs, ev, e38, e41, e44]; first | done | rfl) (n_within) ?_
 rintro _ _ ⟨rfl, rfl⟩
 exact t0_nStandsMay_ok
 have e45:=hk.pe 8
 first | exact Nd_ e45 qz | exact Nn_ e45 qz
 exact dm (hk.pe 9)
 have e10:=hk.pi 10
 have e47:=hk.pe 10
 refine wl_gyes rfl e47 ?_
 exact Fd_ 33 fld97_2 e10 rfl qz
 have e48:=hk.pe 11
 have e47:=hk.pe 10
 refine wl_gyes rfl e47 ?_
 exact Hl_ 1 sc3 e48 (hp.ext hER) rfl rfl qz
 have e4:=hk.pi 4
 have e47:=hk.pe 10
 refine wl_gyes rfl e47 ?_
 exact Fd_ 1 fld33_1 e4 rfl qz
 have e50:=hk.pe 13
 have e47:=hk.pe 10
 refine wl_gyes rfl e47 ?_
 exact Hl_ 4 sc3 e50 (hp.ext hER) rfl rfl qz
 have e51:=hk.pe 14
 have e47:=hk.pe 10
 refine wl_gyes rfl e47 ?_
 exact wl_sub (by decide) e51 rfl (w64 (by omega) (by omega)) qz
 have e49:=hk.pe 12
 have e52:=hk.pe 15
 have e47:=hk.pe 10
 refine wl_gyes rfl e47 ?_
 refine Cl_ cl62 (by simp only [evs, ev, e49, e52]; first | done | rfl) (n_within) ?_
 rintro _ _ ⟨rfl, rfl⟩
 exact t1_nStandsMay_ok
 have e53:=hk.pe 16
 have e47:=hk.pe 10
 refine wl_gyes rfl e47 ?_
 first | exact Nd_ e53 qz | exact Nn_ e53 qz
 have e47:=hk.pe 10
 have e54:=hk.pe 17
 exact Pk_ e47 e54 qz
 exact dm (hk.pe 18)
 have e9:=hk.pi 9
 have e56:=hk.pe 19
 refine wl_gyes rfl e56 ?_
 exact Mv_ e9 qz
 have e57:=hk.pe 20
 have e56:=hk.pe 19
 refine wl_gyes rfl e56 ?_
 refine Gt_ e57 rfl ?_
 exact wl_re (k := 58) (v := .bool true) rfl (congrArg Value.bool (decide_eq_true (by first | exact hs4 | omega | simpa using hs4))) qy
 have e58:=hk.pe 21
 have e56:=hk.pe 19
 refine wl_gyes rfl e56 ?_
 exact Mv_ e58 qz
 have e0:=hk.pi 0
 have e59:=hk.pe 22
 refine wl_gyes rfl e59 ?_
 exact Mv_ e0 qz
 have e9:=hk.pi 9
 have e59:=hk.pe 22
 refine wl_gyes rfl e59 ?_
 exact Mv_ e9 qz
 have e61:=hk.pe 24
 have e59:=hk.pe 22
 refine wl_gyes rfl e59 ?_
 exact wl_sub (by decide) e61 rfl (w64 (by omega) (by omega)) qz
 have e60:=hk.pe 23
 have e62:=hk.pe 25
 have e59:=hk.pe 22
 refine wl_gyes rfl e59 ?_
 exact wl_idx0 (by decide) sl31 e60 e62 hAw26 (k - 1) (by omega) (by omega) qz
 have e63:=hk.pe 26
 have e59:=hk.pe 22
 refine wl_gyes rfl e59 ?_
 exact wl_loadA (by decide) ag97 e63 (hatw26.ext hER).at_ rfl qz
 have e10:=hk.pi 10
 have e59:=hk.pe 22
 refine wl_gyes rfl e59 ?_
 exact Hx_ ([iv ((l.getD k stand0).seq)] ++ (digC ((l.getD k stand0).dig) ++ ([iv ((l.getD k stand0).view)]))) 1 ag97 e10 (hp.ext hER) rfl rfl rfl qz
 have e64:=hk.pe 27
 have e65:=hk.pe 28
 have e59:=hk.pe 22
 refine wl_gyes rfl e59 ?_
 refine Cl_ cl131 (by simp only [evs, ev, e64, e65]; first | done | rfl) (order_ok (Sa := fun _ => True) (Sb := fun _ => True) ⟨hIw26, rfl⟩ ⟨hIe2, rfl⟩) ?_
 rintro _ w7 ⟨rfl, hE7⟩
 exact qz ⟨hE7, rfl⟩
 have e66:=hk.pe 29
 have e59:=hk.pe 22
 refine wl_gyes rfl e59 ?_
 refine Gq_ e66 rfl ?_
 exact wl_re (k := 67) (v := .bool false) rfl (congrArg Value.bool (decide_eq_false (by first | exact hs5 | omega | simpa using hs5))) qy
 have e59:=hk.pe 22
 have e67:=hk.pe 30
 have e56:=hk.pe 19
 refine wl_gyes rfl e56 ?_
 exact Pk_ e59 e67 qz
 have e56:=hk.pe 19
 have e68:=hk.pe 31
 exact Pk_ e56 e68 qz
 exact dm (hk.pe 32)
 have e7:=hk.pi 7
 have e70:=hk.pe 33
 refine wl_gyes rfl e70 ?_
 exact Mv_ e7 qz
 have e10:=hk.pi 10
 have e70:=hk.pe 33
 refine wl_gyes rfl e70 ?_
 exact Fd_ 0 fld97_0 e10 rfl qz
 have e72:=hk.pe 35
 have e70:=hk.pe 33
 refine wl_gyes rfl e70 ?_
 exact Hl_ 1 sc3 e72 (hp.ext hER) rfl rfl qz
 have e71:=hk.pe 34
 have e73:=hk.pe 36
 have e70:=hk.pe 33
 refine wl_gyes rfl e70 ?_
 refine wl_lookup (z := iv 0) (key := iv (l.getD k stand0).seq) (by decide) (Go.Maps.int_keyed underlying3) underlying167 (by kernel_rfl) e71 e73 (Go.Maps.keyOf_int_mk underlying3 (wf64 hIe2.1)) ((hp.ext hER).mapAt (i := 3) rfl) ?_
 exact qz ⟨Chg.refl _ _, hf1n.val _⟩
 have e2:=hk.pi 2
 have e70:=hk.pe 33
 refine wl_gyes rfl e70 ?_
 exact Mv_ e2 qz
 have e74:=hk.pe 37
 have e75:=hk.pe 38
 have e70:=hk.pe 33
 refine wl_gyes rfl e70 ?_
 refine Gt_ e74 e75 ?_
 exact wl_re (k := 76) (v := .bool true) rfl (congrArg Value.bool (decide_eq_true (by first | exact hcm | omega | simpa using hcm))) qy
 have e70:=hk.pe 33
 have e76:=hk.pe 39
 exact Pk_ e70 e76 qz
 exact dm (hk.pe 40)
 exact dn (hk.pe 41)
 exact dn (hk.pe 41)
 exact dn (hk.pe 41)
 exact dn (hk.pe 41)
 have e78:=hk.pe 41
 have e82:=hk.pe 45
 exact Pk_ e78 rfl qz
 intro F wD hED hini hdo
 refine wk_drop [(0, _), (2, _), (4, _), (7, _), (8, _), (14, _), (15, _), (16, _), (83, _)] ⟨di hini 0, di hini 2, di hini 4, di hini 7, di hini 8, di hini 14, di hini 15, di hini 16, dq hdo 46, trivial⟩ ?_
 clear hini hdo
 replace hp:=hp.ext hED
 refine go ?_
 refine wc_cond_t rfl (go ?_)
 refine P1 results94 ?_
 exact ⟨_, rfl, bool_f (fun h => by have := h k (by omega); obtain ⟨a1, a2, a3, a4, a5, a6, a7⟩ := this; first | omega | exact absurd (ordS_neg.2 (a5 (by omega))) (by omega) | exact absurd ((cntM_zero (by omega)).2 a7) (by omega)), hp.chg⟩
 obtain ⟨aw26, hAw26, hatw26, hIw26⟩ := standR_el (hl.fr q2) (k - 1) (by omega)
 apply wdL [SP.eq _, SP.eq _, SP.eq _, SP.eq _, SP.eq _, SP.eq _, SP.eq _, SP.eq _, SP.eq (.bool true), SP.eq (.bool false), SP.eq (.bool false), SP.eq _, SP.eq _, SP.eq _, SP.eq _, SP.eq _, SP.eq (.bool true), SP.eq (.bool false), SP.eq (.bool false), SP.eq (.bool false), SP.eq _, SP.eq (.bool true), SP.eq (.bool true), SP.eq _, SP.eq _, SP.eq _, SP.eq _, SP.eq _, SP.eq _, SP.eq _, SP.eq (.bool false), SP.eq (.bool false), SP.eq (.bool false), SP.eq (.bool false), SP.eq _, SP.eq _, SP.eq _, SP.eq (iv (cntQ (l.take (k + 1)) (l.getD k stand0).seq : Nat)), SP.eq _, SP.eq (.bool false), SP.eq (.bool false), SP.eq (.bool false), SP.eq _, SP.eq _, SP.eq (iv (cntM (l.take (k + 1)) (l.getD k stand0).seq (l.getD k stand0).dig : Nat)), SP.eq _, SP.eq _]
 refine ⟨?_,?_,?_,?_,?_,?_,?_,?_,?_,?_,?_,?_,?_,?_,?_,?_,?_,?_,?_,?_,?_,?_,?_,?_,?_,?_,?_,?_,?_,?_,?_,?_,?_,?_,?_,?_,?_,?_,?_,?_,?_,?_,?_,?_,?_,?_,?_,trivial⟩<;>intro F wF hER hk
 exact Fd_ 0 fld97_0 (hk.pi 10) rfl qz
 exact Hl_ 1 sc3 (hk.pe 0) (hp.ext hER) rfl rfl qz
 exact Fd_ 2 fld33_2 (hk.pi 4) rfl qz
 exact Hl_ 4 sc3 (hk.pe 2) (hp.ext hER) rfl rfl qz
 exact wl_add (by decide) (hk.pe 3) rfl (w64 (by omega) (by omega)) qz
 exact Fd_ 2 fld33_2 (hk.pi 4) rfl qz
 exact Hl_ 4 sc3 (hk.pe 5) (hp.ext hER) rfl rfl qz
 exact wl_add (by decide) (hk.pe 6) rfl (w64 (by omega) (by omega)) qz
 have e38:=hk.pe 1
 have e41:=hk.pe 4
 have e44:=hk.pe 7
 refine Cl_ cl62 (by simp only [evs, ev, e38, e41, e44]; first | done | rfl) (n_within) ?_
 rintro _ _ ⟨rfl, rfl⟩
 exact t0_nStandsMay_ok
 have e45:=hk.pe 8
 first | exact Nd_ e45 qz | exact Nn_ e45 qz
 exact dm (hk.pe 9)
 have e10:=hk.pi 10
 have e47:=hk.pe 10
 refine wl_gyes rfl e47 ?_
 exact Fd_ 33 fld97_2 e10 rfl qz
 have e48:=hk.pe 11
 have e47:=hk.pe 10
 refine wl_gyes rfl e47 ?_
 exact Hl_ 1 sc3 e48 (hp.ext hER) rfl rfl qz
 have e4:=hk.pi 4
 have e47:=hk.pe 10
 refine wl_gyes rfl e47 ?_
 exact Fd_ 1 fld33_1 e4 rfl qz
 have e50:=hk.pe 13
 have e47:=hk.pe 10
 refine wl_gyes rfl e47 ?_
 exact Hl_ 4 sc3 e50 (hp.ext hER) rfl rfl qz
 have e51:=hk.pe 14
 have e47:=hk.pe 10
 refine wl_gyes rfl e47 ?_
 exact wl_sub (by decide) e51 rfl (w64 (by omega) (by omega)) qz
 have e49:=hk.pe 12
 have e52:=hk.pe 15
 have e47:=hk.pe 10
 refine wl_gyes rfl e47 ?_
 refine Cl_ cl62 (by simp only [evs, ev, e49, e52]; first | done | rfl) (n_within) ?_
 rintro _ _ ⟨rfl, rfl⟩
 exact t1_nStandsMay_ok
 have e53:=hk.pe 16
 have e47:=hk.pe 10
 refine wl_gyes rfl e47 ?_
 first | exact Nd_ e53 qz | exact Nn_ e53 qz
 have e47:=hk.pe 10
 have e54:=hk.pe 17
 exact Pk_ e47 e54 qz
 exact dm (hk.pe 18)
 have e9:=hk.pi 9
 have e56:=hk.pe 19
 refine wl_gyes rfl e56 ?_
 exact Mv_ e9 qz
 have e57:=hk.pe 20
 have e56:=hk.pe 19
 refine wl_gyes rfl e56 ?_
 refine Gt_ e57 rfl ?_
 exact wl_re (k := 58) (v := .bool true) rfl (congrArg Value.bool (decide_eq_true (by first | exact hs4 | omega | simpa using hs4))) qy
 have e58:=hk.pe 21
 have e56:=hk.pe 19
 refine wl_gyes rfl e56 ?_
 exact Mv_ e58 qz
 have e0:=hk.pi 0
 have e59:=hk.pe 22
 refine wl_gyes rfl e59 ?_
 exact Mv_ e0 qz
 have e9:=hk.pi 9
 have e59:=hk.pe 22
 refine wl_gyes rfl e59 ?_
 exact Mv_ e9 qz
 have e61:=hk.pe 24
 have e59:=hk.pe 22
 refine wl_gyes rfl e59 ?_
 exact wl_sub (by decide) e61 rfl (w64 (by omega) (by omega)) qz
 have e60:=hk.pe 23
 have e62:=hk.pe 25
 have e59:=hk.pe 22
 refine wl_gyes rfl e59 ?_
 exact wl_idx0 (by decide) sl31 e60 e62 hAw26 (k - 1) (by omega) (by omega) qz
 have e63:=hk.pe 26
 have e59:=hk.pe 22
 refine wl_gyes rfl e59 ?_
 exact wl_loadA (by decide) ag97 e63 (hatw26.ext hER).at_ rfl qz
 have e10:=hk.pi 10
 have e59:=hk.pe 22
 refine wl_gyes rfl e59 ?_
 exact Hx_ ([iv ((l.getD k stand0).seq)] ++ (digC ((l.getD k stand0).dig) ++ ([iv ((l.getD k stand0).view)]))) 1 ag97 e10 (hp.ext hER) rfl rfl rfl qz
 have e64:=hk.pe 27
 have e65:=hk.pe 28
 have e59:=hk.pe 22
 refine wl_gyes rfl e59 ?_
 refine Cl_ cl131 (by simp only [evs, ev, e64, e65]; first | done | rfl) (order_ok (Sa := fun _ => True) (Sb := fun _ => True) ⟨hIw26, rfl⟩ ⟨hIe2, rfl⟩) ?_
 rintro _ w7 ⟨rfl, hE7⟩
 exact qz ⟨hE7, rfl⟩
 have e66:=hk.pe 29
 have e59:=hk.pe 22
 refine wl_gyes rfl e59 ?_
 refine Gq_ e66 rfl ?_
 exact wl_re (k := 67) (v := .bool false) rfl (congrArg Value.bool (decide_eq_false (by first | exact hs5 | omega | simpa using hs5))) qy
 have e59:=hk.pe 22
 have e67:=hk.pe 30
 have e56:=hk.pe 19
 refine wl_gyes rfl e56 ?_
 exact Pk_ e59 e67 qz
 have e56:=hk.pe 19
 have e68:=hk.pe 31
 exact Pk_ e56 e68 qz
 exact dm (hk.pe 32)
 have e7:=hk.pi 7
 have e70:=hk.pe 33
 refine wl_gyes rfl e70 ?_
 exact Mv_ e7 qz
 have e10:=hk.pi 10
 have e70:=hk.pe 33
 refine wl_gyes rfl e70 ?_
 exact Fd_ 0 fld97_0 e10 rfl qz
 have e72:=hk.pe 35
 have e70:=hk.pe 33
 refine wl_gyes rfl e70 ?_
 exact Hl_ 1 sc3 e72 (hp.ext hER) rfl rfl qz
 have e71:=hk.pe 34
 have e73:=hk.pe 36
 have e70:=hk.pe 33
 refine wl_gyes rfl e70 ?_
 refine wl_lookup (z := iv 0) (key := iv (l.getD k stand0).seq) (by decide) (Go.Maps.int_keyed underlying3) underlying167 (by kernel_rfl) e71 e73 (Go.Maps.keyOf_int_mk underlying3 (wf64 hIe2.1)) ((hp.ext hER).mapAt (i := 3) rfl) ?_
 exact qz ⟨Chg.refl _ _, hf1n.val _⟩
 have e2:=hk.pi 2
 have e70:=hk.pe 33
 refine wl_gyes rfl e70 ?_
 exact Mv_ e2 qz
 have e74:=hk.pe 37
 have e75:=hk.pe 38
 have e70:=hk.pe 33
 refine wl_gyes rfl e70 ?_
 refine Gt_ e74 e75 ?_
 exact wl_re (k := 76) (v := .bool false) rfl (congrArg Value.bool (decide_eq_false (by first | exact hcm | omega | simpa using hcm))) qy
 have e70:=hk.pe 33
 have e76:=hk.pe 39
 exact Pk_ e70 e76 qz
 exact dm (hk.pe 40)
 have e8:=hk.pi 8
 have e78:=hk.pe 41
 refine wl_gyes rfl e78 ?_
 exact Mv_ e8 qz
 have e11:=hk.pi 11
 have e78:=hk.pe 41
 refine wl_gyes rfl e78 ?_
 exact Hx_ ([iv ((l.getD k stand0).seq)] ++ (digC ((l.getD k stand0).dig))) 0 ag95 e11 (hp.ext hER) rfl rfl rfl qz
 have e79:=hk.pe 42
 have e80:=hk.pe 43
 have e78:=hk.pe 41
 refine wl_gyes rfl e78 ?_
 refine wl_lookup (z := iv 0) (key := keyM (l.getD k stand0).seq (l.getD k stand0).dig) (by decide) (keyed_of key95) underlying168 (by kernel_rfl) e79 e80 hlkM ((hp.ext hER).mapAt (i := 2) rfl) ?_
 exact qz ⟨Chg.refl _ _, hf2n.val _ _⟩
 have e81:=hk.pe 44
 have e78:=hk.pe 41
 refine wl_gyes rfl e78 ?_
 exact Gt_ e81 rfl qz
 have e78:=hk.pe 41
 have e82:=hk.pe 45
 exact Pk_ e78 e82 qz
 intro F wD hED hini hdo
 refine wk_drop [(0, _), (2, _), (4, _), (7, _), (8, _), (14, _), (15, _), (16, _), (83, _)] ⟨di hini 0, di hini 2, di hini 4, di hini 7, di hini 8, di hini 14, di hini 15, di hini 16, dq hdo 46, trivial⟩ ?_
 clear hini hdo
 replace q2:=q2.ext hED
 replace hp:=hp.ext hED
 refine go ?_
 refine Cd (fun hc6 => ?_) fun hc6 => ?_
 refine go ?_
 refine P1 results94 ?_
 exact ⟨_, rfl, bool_f (fun h => by have := h k (by omega); obtain ⟨a1, a2, a3, a4, a5, a6, a7⟩ := this; first | omega | exact absurd (ordS_neg.2 (a5 (by omega))) (by omega) | exact absurd ((cntM_zero (by omega)).2 a7) (by omega)), hp.chg⟩
 refine go ?_
 refine wl_add (by decide) rfl rfl (w64 (by omega) (by omega)) (gl ?_)
 refine wk_drop [(0, .slice Al l.length cl), (2, iv (many : Int)), (4, pt gs4 0), (7, .map (some gm12)), (8, .map (some gm13)), (14, .slice Al l.length cl), (15, iv (l.length : Int)), (16, iv ((k + 1) : Int))] ⟨rfl, rfl, rfl, rfl, rfl, rfl, rfl, rfl, trivial⟩ (hKL1 _ _ (m2 := l.length - (k + 1)) ?_ ?_)
 refine ⟨(k + 1), (updF f1 (iv (l.getD k stand0).seq) (iv ((cntQ (l.take k) (l.getD k stand0).seq : Nat) + 1))), (updF f2 (keyM (l.getD k stand0).seq (l.getD k stand0).dig) (iv ((cntM (l.take k) (l.getD k stand0).seq (l.getD k stand0).dig : Nat) + 1))), rfl, ?_, ?_, ?_, ?_, ?_, ?_, ?_, ?_, ?_, rfl⟩
 omega
 exact upto hall ⟨by omega, by omega, by omega, by omega, fun h0 => ordS_neg.1 (by omega), by omega, (cntM_zero (by omega)).1 (by omega)⟩
 exact hf1n
 exact hf2n
 exact (hl.fr q2)
 exact (hcg0.fr q2)
 exact (hcg1.fr q2)
 exact (hcg2.fr q2)
 exact hp.tail.tail
 omega
 by_cases hcm : (many : Int) < (cntQ (l.take (k + 1)) (l.getD k stand0).seq : Int)
 apply wdL [SP.eq _, SP.eq _, SP.eq _, SP.eq _, SP.eq _, SP.eq _, SP.eq _, SP.eq _, SP.eq (.bool true), SP.eq (.bool false), SP.eq (.bool false), SP.eq _, SP.eq _, SP.eq _, SP.eq _, SP.eq _, SP.eq (.bool true), SP.eq (.bool false), SP.eq (.bool false), SP.eq (.bool false), SP.eq _, SP.eq (.bool false), SP.eq (.bool false), SP.eq undef, SP.eq undef, SP.eq undef, SP.eq undef, SP.eq undef, SP.eq undef, SP.eq undef, SP.eq undef, SP.eq (.bool false), SP.eq (.bool false), SP.eq (.bool false), SP.eq _, SP.eq _, SP.eq _, SP.eq (iv (cntQ (l.take (k + 1)) (l.getD k stand0).seq : Nat)), SP.eq _, SP.eq (.bool true), SP.eq (.bool true), SP.eq (.bool true), SP.eq undef, SP.eq undef, SP.eq undef, SP.eq undef, SP.eq (.bool true)]
 refine ⟨?_,?_,?_,?_,?_,?_,?_,?_,?_,?_,?_,?_,?_,?_,?_,?_,?_,?_,?_,?_,?_,?_,?_,?_,?_,?_,?_,?_,?_,?_,?_,?_,?_,?_,?_,?_,?_,?_,?_,?_,?_,?_,?_,?_,?_,?_,?_,trivial⟩<;>intro F wF hER hk
 exact Fd_ 0 fld97_0 (hk.pi 10) rfl qz
 exact Hl_ 1 sc3 (hk.pe 0) (hp.ext hER) rfl rfl qz
 exact Fd_ 2 fld33_2 (hk.pi 4) rfl qz
 exact Hl_ 4 sc3 (hk.pe 2) (hp.ext hER) rfl rfl qz
 exact wl_add (by decide) (hk.pe 3) rfl (w64 (by omega) (by omega)) qz
 exact Fd_ 2 fld33_2 (hk.pi 4) rfl qz
 exact Hl_ 4 sc3 (hk.pe 5) (hp.ext hER) rfl rfl qz
 exact wl_add (by decide) (hk.pe 6) rfl (w64 (by omega) (by omega)) qz
 have e38:=hk.pe 1
 have e41:=hk.pe 4
 have e44:=hk.pe 7
 refine Cl_ cl62 (by simp only [evs, ev, e38, e41, e44]; first | done | rfl) (n_within) ?_
 rintro _ _ ⟨rfl, rfl⟩
 exact t0_nStandsMay_ok
 have e45:=hk.pe 8
 first | exact Nd_ e45 qz | exact Nn_ e45 qz
 exact dm (hk.pe 9)
 have e10:=hk.pi 10
 have e47:=hk.pe 10
 refine wl_gyes rfl e47 ?_
 exact Fd_ 33 fld97_2 e10 rfl qz
 have e48:=hk.pe 11
 have e47:=hk.pe 10
 refine wl_gyes rfl e47 ?_
 exact Hl_ 1 sc3 e48 (hp.ext hER) rfl rfl qz
 have e4:=hk.pi 4
 have e47:=hk.pe 10
 refine wl_gyes rfl e47 ?_
 exact Fd_ 1 fld33_1 e4 rfl qz
 have e50:=hk.pe 13
 have e47:=hk.pe 10
 refine wl_gyes rfl e47 ?_
 exact Hl_ 4 sc3 e50 (hp.ext hER) rfl rfl qz
 have e51:=hk.pe 14
 have e47:=hk.pe 10
 refine wl_gyes rfl e47 ?_
 exact wl_sub (by decide) e51 rfl (w64 (by omega) (by omega)) qz
 have e49:=hk.pe 12
 have e52:=hk.pe 15
 have e47:=hk.pe 10
 refine wl_gyes rfl e47 ?_
 refine Cl_ cl62 (by simp only [evs, ev, e49, e52]; first | done | rfl) (n_within) ?_
 rintro _ _ ⟨rfl, rfl⟩
 exact t1_nStandsMay_ok
 have e53:=hk.pe 16
 have e47:=hk.pe 10
 refine wl_gyes rfl e47 ?_
 first | exact Nd_ e53 qz | exact Nn_ e53 qz
 have e47:=hk.pe 10
 have e54:=hk.pe 17
 exact Pk_ e47 e54 qz
 exact dm (hk.pe 18)
 have e9:=hk.pi 9
 have e56:=hk.pe 19
 refine wl_gyes rfl e56 ?_
 exact Mv_ e9 qz
 have e57:=hk.pe 20
 have e56:=hk.pe 19
 refine wl_gyes rfl e56 ?_
 refine Gt_ e57 rfl ?_
 exact wl_re (k := 58) (v := .bool false) rfl (congrArg Value.bool (decide_eq_false (by first | exact hs4 | omega | simpa using hs4))) qy
 have e58:=hk.pe 21
 have e56:=hk.pe 19
 refine wl_gyes rfl e56 ?_
 exact Mv_ e58 qz
 exact dn (hk.pe 22)
 exact dn (hk.pe 22)
 exact dn (hk.pe 22)
 exact dn (hk.pe 22)
 exact dn (hk.pe 22)
 exact dn (hk.pe 22)
 exact dn (hk.pe 22)
 exact dn (hk.pe 22)
 have e59:=hk.pe 22
 have e67:=hk.pe 30
 have e56:=hk.pe 19
 refine wl_gyes rfl e56 ?_
 exact Pk_ e59 rfl qz
 have e56:=hk.pe 19
 have e68:=hk.pe 31
 exact Pk_ e56 e68 qz
 exact dm (hk.pe 32)
 have e7:=hk.pi 7
 have e70:=hk.pe 33
 refine wl_gyes rfl e70 ?_
 exact Mv_ e7 qz
 have e10:=hk.pi 10
 have e70:=hk.pe 33
 refine wl_gyes rfl e70 ?_
 exact Fd_ 0 fld97_0 e10 rfl qz
 have e72:=hk.pe 35
 have e70:=hk.pe 33
 refine wl_gyes rfl e70 ?_
 exact Hl_ 1 sc3 e72 (hp.ext hER) rfl rfl qz
 have e71:=hk.pe 34
 have e73:=hk.pe 36
 have e70:=hk.pe 33
 refine wl_gyes rfl e70 ?_
 refine wl_lookup (z := iv 0) (key := iv (l.getD k stand0).seq) (by decide) (Go.Maps.int_keyed underlying3) underlying167 (by kernel_rfl) e71 e73 (Go.Maps.keyOf_int_mk underlying3 (wf64 hIe2.1)) ((hp.ext hER).mapAt (i := 3) rfl) ?_
 exact qz ⟨Chg.refl _ _, hf1n.val _⟩
 have e2:=hk.pi 2
 have e70:=hk.pe 33
 refine wl_gyes rfl e70 ?_
 exact Mv_ e2 qz
 have e74:=hk.pe 37
 have e75:=hk.pe 38
 have e70:=hk.pe 33
 refine wl_gyes rfl e70 ?_
 refine Gt_ e74 e75 ?_
 exact wl_re (k := 76) (v := .bool true) rfl (congrArg Value.bool (decide_eq_true (by first | exact hcm | omega | simpa using hcm))) qy
 have e70:=hk.pe 33
 have e76:=hk.pe 39
 exact Pk_ e70 e76 qz
 exact dm (hk.pe 40)
 exact dn (hk.pe 41)
 exact dn (hk.pe 41)
 exact dn (hk.pe 41)
 exact dn (hk.pe 41)
 have e78:=hk.pe 41
 have e82:=hk.pe 45
 exact Pk_ e78 rfl qz
 intro F wD hED hini hdo
 refine wk_drop [(0, _), (2, _), (4, _), (7, _), (8, _), (14, _), (15, _), (16, _), (83, _)] ⟨di hini 0, di hini 2, di hini 4, di hini 7, di hini 8, di hini 14, di hini 15, di hini 16, dq hdo 46, trivial⟩ ?_
 clear hini hdo
 replace hp:=hp.ext hED
 refine go ?_
 refine wc_cond_t rfl (go ?_)
 refine P1 results94 ?_
 exact ⟨_, rfl, bool_f (fun h => by have := h k (by omega); obtain ⟨a1, a2, a3, a4, a5, a6, a7⟩ := this; first | omega | exact absurd (ordS_neg.2 (a5 (by omega))) (by omega) | exact absurd ((cntM_zero (by omega)).2 a7) (by omega)), hp.chg⟩
 apply wdL [SP.eq _, SP.eq _, SP.eq _, SP.eq _, SP.eq _, SP.eq _, SP.eq _, SP.eq _, SP.eq (.bool true), SP.eq (.bool false), SP.eq (.bool false), SP.eq _, SP.eq _, SP.eq _, SP.eq _, SP.eq _, SP.eq (.bool true), SP.eq (.bool false), SP.eq (.bool false), SP.eq (.bool false), SP.eq _, SP.eq (.bool false), SP.eq (.bool false), SP.eq undef, SP.eq undef, SP.eq undef, SP.eq undef, SP.eq undef, SP.eq undef, SP.eq undef, SP.eq undef, SP.eq (.bool false), SP.eq (.bool false), SP.eq (.bool false), SP.eq _, SP.eq _, SP.eq _, SP.eq (iv (cntQ (l.take (k + 1)) (l.getD k stand0).seq : Nat)), SP.eq _, SP.eq (.bool false), SP.eq (.bool false), SP.eq (.bool false), SP.eq _, SP.eq _, SP.eq (iv (cntM (l.take (k + 1)) (l.getD k stand0).seq (l.getD k stand0).dig : Nat)), SP.eq _, SP.eq _]
 refine ⟨?_,?_,?_,?_,?_,?_,?_,?_,?_,?_,?_,?_,?_,?_,?_,?_,?_,?_,?_,?_,?_,?_,?_,?_,?_,?_,?_,?_,?_,?_,?_,?_,?_,?_,?_,?_,?_,?_,?_,?_,?_,?_,?_,?_,?_,?_,?_,trivial⟩<;>intro F wF hER hk
 exact Fd_ 0 fld97_0 (hk.pi 10) rfl qz
 exact Hl_ 1 sc3 (hk.pe 0) (hp.ext hER) rfl rfl qz
 exact Fd_ 2 fld33_2 (hk.pi 4) rfl qz
 exact Hl_ 4 sc3 (hk.pe 2) (hp.ext hER) rfl rfl qz
 exact wl_add (by decide) (hk.pe 3) rfl (w64 (by omega) (by omega)) qz
 exact Fd_ 2 fld33_2 (hk.pi 4) rfl qz
 exact Hl_ 4 sc3 (hk.pe 5) (hp.ext hER) rfl rfl qz
 exact wl_add (by decide) (hk.pe 6) rfl (w64 (by omega) (by omega)) qz
 have e38:=hk.pe 1
 have e41:=hk.pe 4
 have e44:=hk.pe 7
 refine Cl_ cl62 (by simp only [evs, ev, e38, e41, e44]; first | done | rfl) (n_within) ?_
 rintro _ _ ⟨rfl, rfl⟩
 exact t0_nStandsMay_ok
 have e45:=hk.pe 8
 first | exact Nd_ e45 qz | exact Nn_ e45 qz
 exact dm (hk.pe 9)
 have e10:=hk.pi 10
 have e47:=hk.pe 10
 refine wl_gyes rfl e47 ?_
 exact Fd_ 33 fld97_2 e10 rfl qz
 have e48:=hk.pe 11
 have e47:=hk.pe 10
 refine wl_gyes rfl e47 ?_
 exact Hl_ 1 sc3 e48 (hp.ext hER) rfl rfl qz
 have e4:=hk.pi 4
 have e47:=hk.pe 10
 refine wl_gyes rfl e47 ?_
 exact Fd_ 1 fld33_1 e4 rfl qz
 have e50:=hk.pe 13
 have e47:=hk.pe 10
 refine wl_gyes rfl e47 ?_
 exact Hl_ 4 sc3 e50 (hp.ext hER) rfl rfl qz
 have e51:=hk.pe 14
 have e47:=hk.pe 10
 refine wl_gyes rfl e47 ?_
 exact wl_sub (by decide) e51 rfl (w64 (by omega) (by omega)) qz
 have e49:=hk.pe 12
 have e52:=hk.pe 15
 have e47:=hk.pe 10
 refine wl_gyes rfl e47 ?_
 refine Cl_ cl62 (by simp only [evs, ev, e49, e52]; first | done | rfl) (n_within) ?_
 rintro _ _ ⟨rfl, rfl⟩
 exact t1_nStandsMay_ok
 have e53:=hk.pe 16
 have e47:=hk.pe 10
 refine wl_gyes rfl e47 ?_
 first | exact Nd_ e53 qz | exact Nn_ e53 qz
 have e47:=hk.pe 10
 have e54:=hk.pe 17
 exact Pk_ e47 e54 qz
 exact dm (hk.pe 18)
 have e9:=hk.pi 9
 have e56:=hk.pe 19
 refine wl_gyes rfl e56 ?_
 exact Mv_ e9 qz
 have e57:=hk.pe 20
 have e56:=hk.pe 19
 refine wl_gyes rfl e56 ?_
 refine Gt_ e57 rfl ?_
 exact wl_re (k := 58) (v := .bool false) rfl (congrArg Value.bool (decide_eq_false (by first | exact hs4 | omega | simpa using hs4))) qy
 have e58:=hk.pe 21
 have e56:=hk.pe 19
 refine wl_gyes rfl e56 ?_
 exact Mv_ e58 qz
 exact dn (hk.pe 22)
 exact dn (hk.pe 22)
 exact dn (hk.pe 22)
 exact dn (hk.pe 22)
 exact dn (hk.pe 22)
 exact dn (hk.pe 22)
 exact dn (hk.pe 22)
 exact dn (hk.pe 22)
 have e59:=hk.pe 22
 have e67:=hk.pe 30
 have e56:=hk.pe 19
 refine wl_gyes rfl e56 ?_
 exact Pk_ e59 rfl qz
 have e56:=hk.pe 19
 have e68:=hk.pe 31
 exact Pk_ e56 e68 qz
 exact dm (hk.pe 32)
 have e7:=hk.pi 7
 have e70:=hk.pe 33
 refine wl_gyes rfl e70 ?_
 exact Mv_ e7 qz
 have e10:=hk.pi 10
 have e70:=hk.pe 33
 refine wl_gyes rfl e70 ?_
 exact Fd_ 0 fld97_0 e10 rfl qz
 have e72:=hk.pe 35
 have e70:=hk.pe 33
 refine wl_gyes rfl e70 ?_
 exact Hl_ 1 sc3 e72 (hp.ext hER) rfl rfl qz
 have e71:=hk.pe 34
 have e73:=hk.pe 36
 have e70:=hk.pe 33
 refine wl_gyes rfl e70 ?_
 refine wl_lookup (z := iv 0) (key := iv (l.getD k stand0).seq) (by decide) (Go.Maps.int_keyed underlying3) underlying167 (by kernel_rfl) e71 e73 (Go.Maps.keyOf_int_mk underlying3 (wf64 hIe2.1)) ((hp.ext hER).mapAt (i := 3) rfl) ?_
 exact qz ⟨Chg.refl _ _, hf1n.val _⟩
 have e2:=hk.pi 2
 have e70:=hk.pe 33
 refine wl_gyes rfl e70 ?_
 exact Mv_ e2 qz
 have e74:=hk.pe 37
 have e75:=hk.pe 38
 have e70:=hk.pe 33
 refine wl_gyes rfl e70 ?_
 refine Gt_ e74 e75 ?_
 exact wl_re (k := 76) (v := .bool false) rfl (congrArg Value.bool (decide_eq_false (by first | exact hcm | omega | simpa using hcm))) qy
 have e70:=hk.pe 33
 have e76:=hk.pe 39
 exact Pk_ e70 e76 qz
 exact dm (hk.pe 40)
 have e8:=hk.pi 8
 have e78:=hk.pe 41
 refine wl_gyes rfl e78 ?_
 exact Mv_ e8 qz
 have e11:=hk.pi 11
 have e78:=hk.pe 41
 refine wl_gyes rfl e78 ?_
 exact Hx_ ([iv ((l.getD k stand0).seq)] ++ (digC ((l.getD k stand0).dig))) 0 ag95 e11 (hp.ext hER) rfl rfl rfl qz
 have e79:=hk.pe 42
 have e80:=hk.pe 43
 have e78:=hk.pe 41
 refine wl_gyes rfl e78 ?_
 refine wl_lookup (z := iv 0) (key := keyM (l.getD k stand0).seq (l.getD k stand0).dig) (by decide) (keyed_of key95) underlying168 (by kernel_rfl) e79 e80 hlkM ((hp.ext hER).mapAt (i := 2) rfl) ?_
 exact qz ⟨Chg.refl _ _, hf2n.val _ _⟩
 have e81:=hk.pe 44
 have e78:=hk.pe 41
 refine wl_gyes rfl e78 ?_
 exact Gt_ e81 rfl qz
 have e78:=hk.pe 41
 have e82:=hk.pe 45
 exact Pk_ e78 e82 qz
 intro F wD hED hini hdo
 refine wk_drop [(0, _), (2, _), (4, _), (7, _), (8, _), (14, _), (15, _), (16, _), (83, _)] ⟨di hini 0, di hini 2, di hini 4, di hini 7, di hini 8, di hini 14, di hini 15, di hini 16, dq hdo 46, trivial⟩ ?_
 clear hini hdo
 replace q2:=q2.ext hED
 replace hp:=hp.ext hED
 refine go ?_
 refine Cd (fun hc7 => ?_) fun hc7 => ?_
 refine go ?_
 refine P1 results94 ?_
 exact ⟨_, rfl, bool_f (fun h => by have := h k (by omega); obtain ⟨a1, a2, a3, a4, a5, a6, a7⟩ := this; first | omega | exact absurd (ordS_neg.2 (a5 (by omega))) (by omega) | exact absurd ((cntM_zero (by omega)).2 a7) (by omega)), hp.chg⟩
 refine go ?_
 refine wl_add (by decide) rfl rfl (w64 (by omega) (by omega)) (gl ?_)
 refine wk_drop [(0, .slice Al l.length cl), (2, iv (many : Int)), (4, pt gs4 0), (7, .map (some gm12)), (8, .map (some gm13)), (14, .slice Al l.length cl), (15, iv (l.length : Int)), (16, iv ((k + 1) : Int))] ⟨rfl, rfl, rfl, rfl, rfl, rfl, rfl, rfl, trivial⟩ (hKL1 _ _ (m2 := l.length - (k + 1)) ?_ ?_)
 refine ⟨(k + 1), (updF f1 (iv (l.getD k stand0).seq) (iv ((cntQ (l.take k) (l.getD k stand0).seq : Nat) + 1))), (updF f2 (keyM (l.getD k stand0).seq (l.getD k stand0).dig) (iv ((cntM (l.take k) (l.getD k stand0).seq (l.getD k stand0).dig : Nat) + 1))), rfl, ?_, ?_, ?_, ?_, ?_, ?_, ?_, ?_, ?_, rfl⟩
 omega
 exact upto hall ⟨by omega, by omega, by omega, by omega, fun h0 => ordS_neg.1 (by omega), by omega, (cntM_zero (by omega)).1 (by omega)⟩
 exact hf1n
 exact hf2n
 exact (hl.fr q2)
 exact (hcg0.fr q2)
 exact (hcg1.fr q2)
 exact (hcg2.fr q2)
 exact hp.tail.tail
 omega
 apply wdL [SP.eq _, SP.eq _, SP.eq _, SP.eq _, SP.eq _, SP.eq _, SP.eq _, SP.eq _, SP.eq (.bool true), SP.eq (.bool false), SP.eq (.bool false), SP.eq _, SP.eq _, SP.eq _, SP.eq _, SP.eq _, SP.eq (.bool false), SP.eq (.bool true), SP.eq (.bool true), SP.eq (.bool true), SP.eq undef, SP.eq undef, SP.eq undef, SP.eq undef, SP.eq undef, SP.eq undef, SP.eq undef, SP.eq undef, SP.eq undef, SP.eq undef, SP.eq undef, SP.eq undef, SP.eq (.bool true), SP.eq (.bool true), SP.eq undef, SP.eq undef, SP.eq undef, SP.eq undef, SP.eq undef, SP.eq undef, SP.eq (.bool true), SP.eq (.bool true), SP.eq undef, SP.eq undef, SP.eq undef, SP.eq undef, SP.eq (.bool true)]
 refine ⟨?_,?_,?_,?_,?_,?_,?_,?_,?_,?_,?_,?_,?_,?_,?_,?_,?_,?_,?_,?_,?_,?_,?_,?_,?_,?_,?_,?_,?_,?_,?_,?_,?_,?_,?_,?_,?_,?_,?_,?_,?_,?_,?_,?_,?_,?_,?_,trivial⟩<;>intro F wF hER hk
 exact Fd_ 0 fld97_0 (hk.pi 10) rfl qz
 exact Hl_ 1 sc3 (hk.pe 0) (hp.ext hER) rfl rfl qz
 exact Fd_ 2 fld33_2 (hk.pi 4) rfl qz
 exact Hl_ 4 sc3 (hk.pe 2) (hp.ext hER) rfl rfl qz
 exact wl_add (by decide) (hk.pe 3) rfl (w64 (by omega) (by omega)) qz
 exact Fd_ 2 fld33_2 (hk.pi 4) rfl qz
 exact Hl_ 4 sc3 (hk.pe 5) (hp.ext hER) rfl rfl qz
 exact wl_add (by decide) (hk.pe 6) rfl (w64 (by omega) (by omega)) qz
 have e38:=hk.pe 1
 have e41:=hk.pe 4
 have e44:=hk.pe 7
 refine Cl_ cl62 (by simp only [evs, ev, e38, e41, e44]; first | done | rfl) (n_within) ?_
 rintro _ _ ⟨rfl, rfl⟩
 exact t0_nStandsMay_ok
 have e45:=hk.pe 8
 first | exact Nd_ e45 qz | exact Nn_ e45 qz
 exact dm (hk.pe 9)
 have e10:=hk.pi 10
 have e47:=hk.pe 10
 refine wl_gyes rfl e47 ?_
 exact Fd_ 33 fld97_2 e10 rfl qz
 have e48:=hk.pe 11
 have e47:=hk.pe 10
 refine wl_gyes rfl e47 ?_
 exact Hl_ 1 sc3 e48 (hp.ext hER) rfl rfl qz
 have e4:=hk.pi 4
 have e47:=hk.pe 10
 refine wl_gyes rfl e47 ?_
 exact Fd_ 1 fld33_1 e4 rfl qz
 have e50:=hk.pe 13
 have e47:=hk.pe 10
 refine wl_gyes rfl e47 ?_
 exact Hl_ 4 sc3 e50 (hp.ext hER) rfl rfl qz
 have e51:=hk.pe 14
 have e47:=hk.pe 10
 refine wl_gyes rfl e47 ?_
 exact wl_sub (by decide) e51 rfl (w64 (by omega) (by omega)) qz
 have e49:=hk.pe 12
 have e52:=hk.pe 15
 have e47:=hk.pe 10
 refine wl_gyes rfl e47 ?_
 refine Cl_ cl62 (by simp only [evs, ev, e49, e52]; first | done | rfl) (n_within) ?_
 rintro _ _ ⟨rfl, rfl⟩
 exact wl_re (k := 53) (v := .bool false) rfl (congrArg Value.bool (decide_eq_false (by first | exact hs3 | omega | simpa using hs3))) qy
 have e53:=hk.pe 16
 have e47:=hk.pe 10
 refine wl_gyes rfl e47 ?_
 first | exact Nd_ e53 qz | exact Nn_ e53 qz
 have e47:=hk.pe 10
 have e54:=hk.pe 17
 exact Pk_ e47 e54 qz
 exact dm (hk.pe 18)
 exact dn (hk.pe 19)
 exact dn (hk.pe 19)
 exact dn (hk.pe 19)
 exact dn (hk.pe 22)
 exact dn (hk.pe 22)
 exact dn (hk.pe 22)
 exact dn (hk.pe 22)
 exact dn (hk.pe 22)
 exact dn (hk.pe 22)
 exact dn (hk.pe 22)
 exact dn (hk.pe 22)
 exact dn (hk.pe 19)
 have e56:=hk.pe 19
 have e68:=hk.pe 31
 exact Pk_ e56 rfl qz
 exact dm (hk.pe 32)
 exact dn (hk.pe 33)
 exact dn (hk.pe 33)
 exact dn (hk.pe 33)
 exact dn (hk.pe 33)
 exact dn (hk.pe 33)
 exact dn (hk.pe 33)
 have e70:=hk.pe 33
 have e76:=hk.pe 39
 exact Pk_ e70 rfl qz
 exact dm (hk.pe 40)
 exact dn (hk.pe 41)
 exact dn (hk.pe 41)
 exact dn (hk.pe 41)
 exact dn (hk.pe 41)
 have e78:=hk.pe 41
 have e82:=hk.pe 45
 exact Pk_ e78 rfl qz
 intro F wD hED hini hdo
 refine wk_drop [(0, _), (2, _), (4, _), (7, _), (8, _), (14, _), (15, _), (16, _), (83, _)] ⟨di hini 0, di hini 2, di hini 4, di hini 7, di hini 8, di hini 14, di hini 15, di hini 16, dq hdo 46, trivial⟩ ?_
 clear hini hdo
 replace hp:=hp.ext hED
 refine go ?_
 refine wc_cond_t rfl (go ?_)
 refine P1 results94 ?_
 exact ⟨_, rfl, bool_f (fun h => by have := h k (by omega); obtain ⟨a1, a2, a3, a4, a5, a6, a7⟩ := this; first | omega | exact absurd (ordS_neg.2 (a5 (by omega))) (by omega) | exact absurd ((cntM_zero (by omega)).2 a7) (by omega)), hp.chg⟩
 apply wdL [SP.eq _, SP.eq _, SP.eq _, SP.eq _, SP.eq _, SP.eq _, SP.eq _, SP.eq _, SP.eq (.bool false), SP.eq (.bool true), SP.eq (.bool true), SP.eq undef, SP.eq undef, SP.eq undef, SP.eq undef, SP.eq undef, SP.eq undef, SP.eq undef, SP.eq (.bool true), SP.eq (.bool true), SP.eq undef, SP.eq undef, SP.eq undef, SP.eq undef, SP.eq undef, SP.eq undef, SP.eq undef, SP.eq undef, SP.eq undef, SP.eq undef, SP.eq undef, SP.eq undef, SP.eq (.bool true), SP.eq (.bool true), SP.eq undef, SP.eq undef, SP.eq undef, SP.eq undef, SP.eq undef, SP.eq undef, SP.eq (.bool true), SP.eq (.bool true), SP.eq undef, SP.eq undef, SP.eq undef, SP.eq undef, SP.eq (.bool true)]
 refine ⟨?_,?_,?_,?_,?_,?_,?_,?_,?_,?_,?_,?_,?_,?_,?_,?_,?_,?_,?_,?_,?_,?_,?_,?_,?_,?_,?_,?_,?_,?_,?_,?_,?_,?_,?_,?_,?_,?_,?_,?_,?_,?_,?_,?_,?_,?_,?_,trivial⟩<;>intro F wF hER hk
 exact Fd_ 0 fld97_0 (hk.pi 10) rfl qz
 exact Hl_ 1 sc3 (hk.pe 0) (hp.ext hER) rfl rfl qz
 exact Fd_ 2 fld33_2 (hk.pi 4) rfl qz
 exact Hl_ 4 sc3 (hk.pe 2) (hp.ext hER) rfl rfl qz
 exact wl_add (by decide) (hk.pe 3) rfl (w64 (by omega) (by omega)) qz
 exact Fd_ 2 fld33_2 (hk.pi 4) rfl qz
 exact Hl_ 4 sc3 (hk.pe 5) (hp.ext hER) rfl rfl qz
 exact wl_add (by decide) (hk.pe 6) rfl (w64 (by omega) (by omega)) qz
 have e38:=hk.pe 1
 have e41:=hk.pe 4
 have e44:=hk.pe 7
 refine Cl_ cl62 (by simp only [evs, ev, e38, e41, e44]; first | done | rfl) (n_within) ?_
 rintro _ _ ⟨rfl, rfl⟩
 exact wl_re (k := 45) (v := .bool false) rfl (congrArg Value.bool (decide_eq_false (by first | exact hs2 | omega | simpa using hs2))) qy
 have e45:=hk.pe 8
 first | exact Nd_ e45 qz | exact Nn_ e45 qz
 exact dm (hk.pe 9)
 exact dn (hk.pe 10)
 exact dn (hk.pe 10)
 exact dn (hk.pe 10)
 exact dn (hk.pe 10)
 exact dn (hk.pe 10)
 exact dn (hk.pe 10)
 exact dn (hk.pe 10)
 have e47:=hk.pe 10
 have e54:=hk.pe 17
 exact Pk_ e47 rfl qz
 exact dm (hk.pe 18)
 exact dn (hk.pe 19)
 exact dn (hk.pe 19)
 exact dn (hk.pe 19)
 exact dn (hk.pe 22)
 exact dn (hk.pe 22)
 exact dn (hk.pe 22)
 exact dn (hk.pe 22)
 exact dn (hk.pe 22)
 exact dn (hk.pe 22)
 exact dn (hk.pe 22)
 exact dn (hk.pe 22)
 exact dn (hk.pe 19)
 have e56:=hk.pe 19
 have e68:=hk.pe 31
 exact Pk_ e56 rfl qz
 exact dm (hk.pe 32)
 exact dn (hk.pe 33)
 exact dn (hk.pe 33)
 exact dn (hk.pe 33)
 exact dn (hk.pe 33)
 exact dn (hk.pe 33)
 exact dn (hk.pe 33)
 have e70:=hk.pe 33
 have e76:=hk.pe 39
 exact Pk_ e70 rfl qz
 exact dm (hk.pe 40)
 exact dn (hk.pe 41)
 exact dn (hk.pe 41)
 exact dn (hk.pe 41)
 exact dn (hk.pe 41)
 have e78:=hk.pe 41
 have e82:=hk.pe 45
 exact Pk_ e78 rfl qz
 intro F wD hED hini hdo
 refine wk_drop [(0, _), (2, _), (4, _), (7, _), (8, _), (14, _), (15, _), (16, _), (83, _)] ⟨di hini 0, di hini 2, di hini 4, di hini 7, di hini 8, di hini 14, di hini 15, di hini 16, dq hdo 46, trivial⟩ ?_
 clear hini hdo
 replace hp:=hp.ext hED
 refine go ?_
 refine wc_cond_t rfl (go ?_)
 refine P1 results94 ?_
 exact ⟨_, rfl, bool_f (fun h => by have := h k (by omega); obtain ⟨a1, a2, a3, a4, a5, a6, a7⟩ := this; first | omega | exact absurd (ordS_neg.2 (a5 (by omega))) (by omega) | exact absurd ((cntM_zero (by omega)).2 a7) (by omega)), hp.chg⟩
 refine go ?_
 refine P1 results94 ?_
 exact ⟨_, rfl, bool_t (fun i hi => hall i (by omega)), hp.chg⟩
def mseq (cg : Chn) (k : Nat) : List Int := (cg.marks.take k).map (·.seq)
theorem mseq_succ {cg : Chn} {k : Nat} (h : k < cg.marks.length) : mseq cg (k + 1) = mseq cg k ++ [(cg.marks.getD k mark0).seq] := by unfold mseq; rw [take_snoc mark0 h, List.map_append]; rfl
theorem mseq_len {cg : Chn} {k : Nat} (h : k ≤ cg.marks.length) : (mseq cg k).length = k := by unfold mseq; rw [List.length_map, List.length_take]; omega
theorem mseq_get {cg : Chn} {k i : Nat} (h : i < k) : (mseq cg k).getD i 0 = (cg.marks.getD i mark0).seq := by
 unfold mseq
 simp only [List.getD_eq_getElem?_getD, List.getElem?_map, List.getElem?_take, h, if_true]
 cases cg.marks[i]? <;> rfl
theorem rise_last {l : List Int} (h : RiseI l) : ∀ d i, i + d < l.length → l.getD i 0 ≤ l.getD (i + d) 0
 | 0, i, _ => Int.le_refl _
 | d + 1, i, hi => by
  have h1 := rise_last h d i (by omega)
  have h2 := h (i + (d + 1)) hi (by omega)
  rw [show i + (d + 1) - 1 = i + d by omega] at h2
  omega
theorem marks_fwd {cg : Chn} (h : MarksRise cg.marks) : RiseI (mseq cg cg.marks.length) := fun i hi h0 => by
 rw [mseq_len (Nat.le_refl _)] at hi
 rw [mseq_get (by omega), mseq_get (by omega)]
 exact (h i hi h0).1
theorem marks_back {cg : Chn} (h1 : RiseI (mseq cg cg.marks.length)) (h2 : (cg.marks.getD (cg.marks.length - 1) mark0).seq ≤ 9007199254740991) : MarksRise cg.marks := fun i hi h0 => by
 have hlen := mseq_len (cg := cg) (Nat.le_refl _)
 have h3 := h1 i (by omega) h0
 have h4 := rise_last h1 (cg.marks.length - 1 - i) i (by omega)
 rw [show i + (cg.marks.length - 1 - i) = cg.marks.length - 1 by omega] at h4
 rw [mseq_get (by omega), mseq_get (by omega)] at h3 h4
 exact ⟨h3, by omega⟩
theorem ChangeMay_prog {cg : Chn} : ChangeMay cg ↔ (1 ≤ cg.node ∧ cg.node ≤ 28) ∧ (1 ≤ cg.view ∧ cg.view ≤ 1048576) ∧ (0 ≤ cg.low ∧ cg.low ≤ 9007199254740983) ∧ (1 ≤ cg.marks.length ∧ cg.marks.length ≤ 5) ∧ (cg.marks.getD 0 mark0).seq = cg.low ∧
  RiseI (mseq cg cg.marks.length) ∧ (cg.marks.getD (cg.marks.length - 1) mark0).seq ≤ 9007199254740991 ∧ StandsMay cg.p cg.low cg.view 1 ∧ StandsMay cg.q cg.low cg.view 4 := by
 unfold ChangeMay
 constructor
 ·rintro ⟨a1, a2, a3, a4, a5, a6, a7, a8, a9, a10, a11, a12⟩
  refine ⟨⟨a1, a2⟩, ⟨a3, a4⟩, ⟨a5, a6⟩, ⟨a7, a8⟩, a9, marks_fwd a10, ?_, a11, a12⟩
  by_cases h1 : cg.marks.length = 1
  ·rw [h1]; show (cg.marks.getD 0 mark0).seq ≤ _; omega
  ·exact (a10 (cg.marks.length - 1) (by omega) (by omega)).2
 ·rintro ⟨⟨a1, a2⟩, ⟨a3, a4⟩, ⟨a5, a6⟩, ⟨a7, a8⟩, a9, a10, a13, a11, a12⟩
  exact ⟨a1, a2, a3, a4, a5, a6, a7, a8, a9, marks_back a10 a13, a11, a12⟩
theorem t0_nChangeMay_ok {p : Prop} (h : p := by exact wl_re (k := 47) (v := .bool true) rfl (congrArg Value.bool (decide_eq_true (by first | exact hs6 | omega | simpa using hs6))) qy) : p := h
set_option maxHeartbeats 40000000 in
theorem nChangeMay_ok {cscg : List Value} {cg : Chn} {Scg : Nat → Prop} (hcg : changeR.rd Scg w cscg cg) : Ret prog 56 #[.agg cscg.toArray] w (fun v w' => v = .bool (decide (ChangeMay cg)) ∧ Ext w w') := by
 obtain ⟨hIcg, Acg0, ccg0, Acg1, ccg1, Acg2, ccg2, rfl, hcg0, hcg1, hcg2⟩ := hcg
 have mhcg0:=hcg0.mx
 have mhcg1:=hcg1.mx
 have mhcg2:=hcg2.mx
 refine ret_of_wk func56 rfl ntmps56 leB_ ?_
 have hp:=HP.begin_ w
 replace hcg0:=hcg0.now
 replace hcg1:=hcg1.now
 replace hcg2:=hcg2.now
 refine go ?_
 refine wl_hbox (by decide) rfl hp ?_
 rintro gs1 w1 hp1 hE1
 have q0:=hE1
 replace hp:=hp1
 refine go ?_
 refine Fd_ 0 fld33_0 rfl rfl ?_
 refine Hl_ 0 sc3 rfl hp rfl rfl ?_
 refine Cl_ cl63 rfl (n_isNode) ?_
 rintro _ _ ⟨rfl, rfl⟩
 first | refine Nd_ rfl ?_ | refine Nn_ rfl ?_
 refine go ?_
 refine Gs 10 (fun hg1 => ?_) fun hg1 => ?_
 refine go ?_
 refine wc_cond_t rfl (go ?_)
 refine P1 results56 ?_
 exact ⟨_, rfl, bool_f (by unfold ChangeMay; omega), hp.chg⟩
 refine go ?_
 refine Fd_ 1 fld33_1 rfl rfl (go ?_)
 refine Hl_ 0 sc3 rfl hp rfl rfl (go ?_)
 refine Cl_ cl62 rfl (n_within) ?_
 rintro _ _ ⟨rfl, rfl⟩
 refine go ?_
 first | refine Nd_ rfl ?_ | refine Nn_ rfl ?_
 refine go ?_
 refine Gs 16 (fun hg2 => ?_) fun hg2 => ?_
 refine go ?_
 refine wc_cond_t rfl (go ?_)
 refine P1 results56 ?_
 exact ⟨_, rfl, bool_f (by unfold ChangeMay; omega), hp.chg⟩
 refine go ?_
 refine Fd_ 2 fld33_2 rfl rfl (go ?_)
 refine Hl_ 0 sc3 rfl hp rfl rfl (go ?_)
 refine Cl_ cl62 rfl (n_within) ?_
 rintro _ _ ⟨rfl, rfl⟩
 refine go ?_
 first | refine Nd_ rfl ?_ | refine Nn_ rfl ?_
 refine go ?_
 refine Gs 22 (fun hg3 => ?_) fun hg3 => ?_
 refine go ?_
 refine wc_cond_t rfl (go ?_)
 refine P1 results56 ?_
 exact ⟨_, rfl, bool_f (by unfold ChangeMay; omega), hp.chg⟩
 refine go ?_
 refine Fd_ 3 fld33_3 rfl rfl (go ?_)
 refine Hl_ 0 sc30 rfl hp rfl rfl (go ?_)
 refine Ln_ underlying30 rfl (go ?_)
 refine Cl_ cl62 rfl (n_within) ?_
 rintro _ _ ⟨rfl, rfl⟩
 refine go ?_
 first | refine Nd_ rfl ?_ | refine Nn_ rfl ?_
 refine go ?_
 refine Cd (fun hc4 => ?_) fun hc4 => ?_
 refine go ?_
 refine P1 results56 ?_
 exact ⟨_, rfl, bool_f (by unfold ChangeMay; omega), hp.chg⟩
 refine go ?_
 replace hp:=hp.noRow 3 1
 refine go ?_
 refine Fd_ 3 fld33_3 rfl rfl ?_
 refine Hl_ 1 sc30 rfl hp rfl rfl ?_
 refine Ln_ underlying30 rfl (go ?_)
 refine wc_loop (fun L' w' mes => ∃ (k : Nat), ∃ (A : Option Addr), ∃ (c : Nat), L' = [(1, pt gs1 0), (3, .slice A (mseq cg k).length c), (30, .slice Acg0 cg.marks.length ccg0), (31, iv (cg.marks.length : Int)), (32, iv (k : Int))] ∧ (k ≤ cg.marks.length) ∧ (cg.marks.length ≤ 5) ∧ (GS intR (fun _ => True) w' A c (mseq cg k)) ∧ (GS markR (fun b => b < w.heap.size) w' Acg0 ccg0 cg.marks) ∧ (GS standR (fun b => b < w.heap.size) w' Acg1 ccg1 cg.p) ∧ (GS standR (fun b => b < w.heap.size) w' Acg2 ccg2 cg.q) ∧ (HP w (fun _ => False) (fun b => b < w.heap.size) w' (itR 3 1 A (mseq cg k).length c ((mseq cg k).map fun z : Int => iv z) :: itB gs1 33 ([iv cg.node, iv cg.view, iv cg.low, .slice Acg0 cg.marks.length ccg0, .slice Acg1 cg.p.length ccg1, .slice Acg2 cg.q.length ccg2]) :: [])) ∧ cg.marks.length - k = mes) [(1, pt gs1 0), (3, .slice none (mseq cg 0).length 0), (30, .slice Acg0 cg.marks.length ccg0), (31, iv (cg.marks.length : Int)), (32, iv (0 : Int))] (cg.marks.length - 0) (by
     refine ⟨0, none, 0, rfl, ?_, ?_, ?_, ?_, ?_, ?_, ?_, rfl⟩
     · omega
     · omega
     · exact gsn
     · exact (hcg0.ext q0)
     · exact (hcg1.ext q0)
     · exact (hcg2.ext q0)
     · exact hp) ⟨rfl, rfl, rfl, rfl, rfl, trivial⟩ ?_
 rintro _ wr _ ⟨k, A, c, rfl, hk, hm5, hsq, hcg0, hcg1, hcg2, hp, rfl⟩ KL1 hKL1
 refine go ?_
 refine Ls_ rfl rfl (go ?_)
 refine Cd (fun hlt => ?_) fun hlt => ?_
 refine go ?_
 obtain ⟨ae6, hAe6, hate6, hIe6⟩ := markR_el hcg0 k (by omega)
 refine wl_idx0 (by decide) sl30 rfl rfl hAe6 k rfl (by omega) ?_
 refine wl_loadA (by decide) ag95 rfl hate6.at_ rfl ?_
 refine wl_halloc (z := .agg #[iv 0, .int .u8 0, .int .u8 0, .int .u8 0, .int .u8 0, .int .u8 0, .int .u8 0, .int .u8 0, .int .u8 0, .int .u8 0, .int .u8 0, .int .u8 0, .int .u8 0, .int .u8 0, .int .u8 0, .int .u8 0, .int .u8 0, .int .u8 0, .int .u8 0, .int .u8 0, .int .u8 0, .int .u8 0, .int .u8 0, .int .u8 0, .int .u8 0, .int .u8 0, .int .u8 0, .int .u8 0, .int .u8 0, .int .u8 0, .int .u8 0, .int .u8 0, .int .u8 0]) (by decide) (by kernel_rfl) hp ?_
 rintro gs5 w7 hp7 hE7
 have q1:=hE7
 replace hp:=hp7
 refine wl_hstore (i := 0) rfl rfl hp rfl sz95 leB_ (List.all_eq_true.1 rfl) ?_
 rintro w8 hp8 hC8
 have q2:=hcg0.tk.ext q1
 replace q2:=q2.fz hC8
 replace hp:=hp8
 refine go ?_
 refine Fd_ 0 fld95_0 rfl rfl ?_
 refine Hl_ 0 sc3 rfl hp rfl rfl ?_
 refine wl_bsliceE (enc := fun z : Int => iv z) (xs := [.tmp 38]) (bs := [(cg.marks.getD k mark0).seq]) (fun _ => rfl) (by decide) sl27 rfl rfl rfl (by simp) _ (Nat.le_refl _) ?_
 rintro gt wt hgt hot hEt
 replace q2:=q2.ext hEt
 replace hp:=hp.ext hEt
 refine wl_happend (i := 1) (m := 1) (news := [iv (cg.marks.getD k mark0).seq]) (by decide) sl27 rfl rfl hp rfl rfl (fun b hb => by cases hb; exact hot.at0) (by simp) (by simp [Value.oneCell']) (by rw [mseq_len (by omega)]; omega) ?_
 rintro A3 c3 w3 hp3 hC3
 replace q2:=q2.fz hC3
 replace hp:=hp3
 refine go ?_
 refine wl_add (by decide) rfl rfl (w64 (by omega) (by omega)) (gl ?_)
 refine wk_drop [(1, pt gs1 0), (3, .slice A3 (mseq cg (k + 1)).length c3), (30, .slice Acg0 cg.marks.length ccg0), (31, iv (cg.marks.length : Int)), (32, iv ((k + 1) : Int))] ⟨rfl, (by rw [mseq_succ (by omega), List.length_append]; rfl), rfl, rfl, rfl, trivial⟩ (hKL1 _ _ (m2 := cg.marks.length - (k + 1)) ?_ ?_)
 refine ⟨(k + 1), A3, c3, rfl, ?_, ?_, ?_, ?_, ?_, ?_, ?_, rfl⟩
 omega
 exact hm5
 exact (OwnRow.gsF (he := fun _ => rfl) (by have := hp.rowAt (i := 1) rfl; rw [mseq_succ (by omega)]; simpa using this) (fun _ _ _ => trivial))
 exact (hcg0.fr q2)
 exact (hcg1.fr q2)
 exact (hcg2.fr q2)
 rw [mseq_succ (by omega), List.map_append, List.length_append]; exact hp.tail
 omega
 have hkl : k = cg.marks.length := by omega
 have hml:=mseq_len (cg := cg) (k := k) (by omega)
 refine go ?_
 by_cases hs6 : ((mseq cg k).getD 0 0) = cg.low
 by_cases hs7 : RiseI (mseq cg k)
 by_cases hs8 : ((mseq cg k).getD (((mseq cg k).length : Int) - 1).toNat 0) ≤ 9007199254740991
 by_cases hs9 : StandsMay cg.p cg.low cg.view 1
 obtain ⟨aw1, hAw1, hatw1⟩ := GS.elI hsq 0 (by omega)
 obtain ⟨aw15, hAw15, hatw15⟩ := GS.elI hsq (((mseq cg k).length : Int) - 1).toNat (by omega)
 apply wdL [.eq _,.eq _,.eq _,.eq _,.eq _,.eq (.bool true),.eq (.bool true),.eq _,.eq (.bool true),.eq (.bool true),.eq (.bool true),.eq _,.eq _,.eq _,.eq _,.eq _,.eq _,.eq (.bool true),.eq (.bool true),.eq (.bool true),.eq _,.eq _,.eq _,.eq (.bool true),.eq (.bool true),.eq (.bool true),.eq _,.eq _,.eq _,.eq _,.eq _,.eq _]
 refine ⟨?_,?_,?_,?_,?_,?_,?_,?_,?_,?_,?_,?_,?_,?_,?_,?_,?_,?_,?_,?_,?_,?_,?_,?_,?_,?_,?_,?_,?_,?_,?_,?_,trivial⟩<;>intro F wF hER hk
 exact dm (hk.pi 3)
 exact wl_idx0 (by decide) sl27 (hk.pe 0) rfl hAw1 0 rfl (by omega) qz
 exact Ld_ sc3 (hk.pe 1) (hatw1.ext hER).head qz
 exact Fd_ 2 fld33_2 (hk.pi 1) rfl qz
 exact Hl_ 1 sc3 (hk.pe 3) (hp.ext hER) rfl rfl qz
 have e44:=hk.pe 2
 have e46:=hk.pe 4
 refine Eq_ e44 e46 ?_
 exact t0_nChangeMay_ok
 exact dm (hk.pe 5)
 have e3:=hk.pi 3
 have e48:=hk.pe 6
 refine wl_gyes rfl e48 ?_
 exact Mv_ e3 qz
 have e49:=hk.pe 7
 have e48:=hk.pe 6
 refine wl_gyes rfl e48 ?_
 have hcl:=nRise_ok (hsq.ext hER)
 refine Cl_ cl93 (by simp only [evs, ev, e49]; first | done | rfl) hcl ?_
 clear hcl
 rintro _ w7 ⟨rfl, hE7⟩
 refine wl_re (k := 50) (v := .bool true) rfl (congrArg Value.bool (decide_eq_true (by first | exact hs7 | omega | simpa using hs7))) ?_
 exact qy ⟨hE7, rfl⟩
 have e48:=hk.pe 6
 have e50:=hk.pe 8
 exact Pk_ e48 e50 qz
 exact dm (hk.pe 9)
 have e3:=hk.pi 3
 have e52:=hk.pe 10
 refine wl_gyes rfl e52 ?_
 exact Mv_ e3 qz
 have e3:=hk.pi 3
 have e52:=hk.pe 10
 refine wl_gyes rfl e52 ?_
 exact Mv_ e3 qz
 have e54:=hk.pe 12
 have e52:=hk.pe 10
 refine wl_gyes rfl e52 ?_
 exact Ln_ underlying27 e54 qz
 have e55:=hk.pe 13
 have e52:=hk.pe 10
 refine wl_gyes rfl e52 ?_
 exact wl_sub (by decide) e55 rfl (w64 (by omega) (by omega)) qz
 have e53:=hk.pe 11
 have e56:=hk.pe 14
 have e52:=hk.pe 10
 refine wl_gyes rfl e52 ?_
 exact wl_idx0 (by decide) sl27 e53 e56 hAw15 (((mseq cg k).length : Int) - 1).toNat (by omega) (by omega) qz
 have e57:=hk.pe 15
 have e52:=hk.pe 10
 refine wl_gyes rfl e52 ?_
 exact Ld_ sc3 e57 (hatw15.ext hER).head qz
 have e58:=hk.pe 16
 have e52:=hk.pe 10
 refine wl_gyes rfl e52 ?_
 refine Lq_ e58 rfl ?_
 exact wl_re (k := 59) (v := .bool true) rfl (congrArg Value.bool (decide_eq_true (by first | exact hs8 | omega | simpa using hs8))) qy
 have e52:=hk.pe 10
 have e59:=hk.pe 17
 exact Pk_ e52 e59 qz
 exact dm (hk.pe 18)
 have e1:=hk.pi 1
 have e61:=hk.pe 19
 refine wl_gyes rfl e61 ?_
 exact Fd_ 4 fld33_4 e1 rfl qz
 have e62:=hk.pe 20
 have e61:=hk.pe 19
 refine wl_gyes rfl e61 ?_
 exact Hl_ 1 sc31 e62 (hp.ext hER) rfl rfl qz
 have e1:=hk.pi 1
 have e61:=hk.pe 19
 refine wl_gyes rfl e61 ?_
 exact Hx_ ([iv cg.node, iv cg.view, iv cg.low, .slice Acg0 cg.marks.length ccg0, .slice Acg1 cg.p.length ccg1, .slice Acg2 cg.q.length ccg2]) 1 ag33 e1 (hp.ext hER) rfl rfl rfl qz
 have e63:=hk.pe 21
 have e64:=hk.pe 22
 have e61:=hk.pe 19
 refine wl_gyes rfl e61 ?_
 have hcl:=nStandsMay_ok (many := 1) (hcg1.ext hER) ⟨hIcg, _, _, _, _, _, _, rfl, (hcg0.ext hER), (hcg1.ext hER), (hcg2.ext hER)⟩ (by omega) (by omega)
 refine Cl_ cl94 (by simp only [evs, ev, e63, e64]; first | done | rfl) hcl ?_
 clear hcl
 rintro _ w7 ⟨rfl, hE7⟩
 refine wl_re (k := 65) (v := .bool true) rfl (congrArg Value.bool (decide_eq_true (by first | exact hs9 | omega | simpa using hs9))) ?_
 exact qy ⟨hE7, rfl⟩
 have e61:=hk.pe 19
 have e65:=hk.pe 23
 exact Pk_ e61 e65 qz
 exact dm (hk.pe 24)
 have e1:=hk.pi 1
 have e67:=hk.pe 25
 refine wl_gyes rfl e67 ?_
 exact Fd_ 5 fld33_5 e1 rfl qz
 have e68:=hk.pe 26
 have e67:=hk.pe 25
 refine wl_gyes rfl e67 ?_
 exact Hl_ 1 sc31 e68 (hp.ext hER) rfl rfl qz
 have e1:=hk.pi 1
 have e67:=hk.pe 25
 refine wl_gyes rfl e67 ?_
 exact Hx_ ([iv cg.node, iv cg.view, iv cg.low, .slice Acg0 cg.marks.length ccg0, .slice Acg1 cg.p.length ccg1, .slice Acg2 cg.q.length ccg2]) 1 ag33 e1 (hp.ext hER) rfl rfl rfl qz
 have e69:=hk.pe 27
 have e70:=hk.pe 28
 have e67:=hk.pe 25
 refine wl_gyes rfl e67 ?_
 have hcl:=nStandsMay_ok (many := 4) (hcg2.ext hER) ⟨hIcg, _, _, _, _, _, _, rfl, (hcg0.ext hER), (hcg1.ext hER), (hcg2.ext hER)⟩ (by omega) (by omega)
 refine Cl_ cl94 (by simp only [evs, ev, e69, e70]; first | done | rfl) hcl ?_
 clear hcl
 rintro _ w7 ⟨rfl, hE7⟩
 exact qz ⟨hE7, rfl⟩
 have e67:=hk.pe 25
 have e71:=hk.pe 29
 exact Pk_ e67 e71 qz
 exact wl_assign (by decide) (hk.pe 30) qz
 intro F wD hED hini hdo
 refine wk_drop [(2, _)] ⟨dq hdo 31, trivial⟩ ?_
 clear hini hdo
 replace hp:=hp.ext hED
 refine go ?_
 refine P1 results56 ?_
 exact ⟨_, rfl, congrArg Value.bool (decide_eq_decide.2 (by subst hkl; have htn : ((cg.marks.length : Int) - 1).toNat = cg.marks.length - 1 := (by omega); have hg0 := mseq_get (cg := cg) (k := cg.marks.length) (i := 0) (by omega); have hgl := mseq_get (cg := cg) (k := cg.marks.length) (i := cg.marks.length - 1) (by omega); (try simp only [htn, hg0, hgl, hml, Decidable.not_not] at hg1 hg2 hg3 hc4 hlt hs6 hs7 hs8 hs9); rw [ChangeMay_prog]; have hA : 1 ≤ cg.marks.length ∧ cg.marks.length ≤ 5 := (by omega); (try simp only [hA]); (try simp only [hg1, hg2, hg3, hs6, hs7, hs8, hs9, true_and, and_true]); try omega)), hp.chg⟩
 obtain ⟨aw1, hAw1, hatw1⟩ := GS.elI hsq 0 (by omega)
 obtain ⟨aw15, hAw15, hatw15⟩ := GS.elI hsq (((mseq cg k).length : Int) - 1).toNat (by omega)
 apply wdL [.eq _,.eq _,.eq _,.eq _,.eq _,.eq (.bool true),.eq (.bool true),.eq _,.eq (.bool true),.eq (.bool true),.eq (.bool true),.eq _,.eq _,.eq _,.eq _,.eq _,.eq _,.eq (.bool true),.eq (.bool true),.eq (.bool true),.eq _,.eq _,.eq _,.eq (.bool false),.eq (.bool false),.eq (.bool false),.eq undef,.eq undef,.eq undef,.eq undef,.eq (.bool false),.eq (.bool false)]
 refine ⟨?_,?_,?_,?_,?_,?_,?_,?_,?_,?_,?_,?_,?_,?_,?_,?_,?_,?_,?_,?_,?_,?_,?_,?_,?_,?_,?_,?_,?_,?_,?_,?_,trivial⟩<;>intro F wF hER hk
 exact dm (hk.pi 3)
 exact wl_idx0 (by decide) sl27 (hk.pe 0) rfl hAw1 0 rfl (by omega) qz
 exact Ld_ sc3 (hk.pe 1) (hatw1.ext hER).head qz
 exact Fd_ 2 fld33_2 (hk.pi 1) rfl qz
 exact Hl_ 1 sc3 (hk.pe 3) (hp.ext hER) rfl rfl qz
 have e44:=hk.pe 2
 have e46:=hk.pe 4
 refine Eq_ e44 e46 ?_
 exact t0_nChangeMay_ok
 exact dm (hk.pe 5)
 have e3:=hk.pi 3
 have e48:=hk.pe 6
 refine wl_gyes rfl e48 ?_
 exact Mv_ e3 qz
 have e49:=hk.pe 7
 have e48:=hk.pe 6
 refine wl_gyes rfl e48 ?_
 have hcl:=nRise_ok (hsq.ext hER)
 refine Cl_ cl93 (by simp only [evs, ev, e49]; first | done | rfl) hcl ?_
 clear hcl
 rintro _ w7 ⟨rfl, hE7⟩
 refine wl_re (k := 50) (v := .bool true) rfl (congrArg Value.bool (decide_eq_true (by first | exact hs7 | omega | simpa using hs7))) ?_
 exact qy ⟨hE7, rfl⟩
 have e48:=hk.pe 6
 have e50:=hk.pe 8
 exact Pk_ e48 e50 qz
 exact dm (hk.pe 9)
 have e3:=hk.pi 3
 have e52:=hk.pe 10
 refine wl_gyes rfl e52 ?_
 exact Mv_ e3 qz
 have e3:=hk.pi 3
 have e52:=hk.pe 10
 refine wl_gyes rfl e52 ?_
 exact Mv_ e3 qz
 have e54:=hk.pe 12
 have e52:=hk.pe 10
 refine wl_gyes rfl e52 ?_
 exact Ln_ underlying27 e54 qz
 have e55:=hk.pe 13
 have e52:=hk.pe 10
 refine wl_gyes rfl e52 ?_
 exact wl_sub (by decide) e55 rfl (w64 (by omega) (by omega)) qz
 have e53:=hk.pe 11
 have e56:=hk.pe 14
 have e52:=hk.pe 10
 refine wl_gyes rfl e52 ?_
 exact wl_idx0 (by decide) sl27 e53 e56 hAw15 (((mseq cg k).length : Int) - 1).toNat (by omega) (by omega) qz
 have e57:=hk.pe 15
 have e52:=hk.pe 10
 refine wl_gyes rfl e52 ?_
 exact Ld_ sc3 e57 (hatw15.ext hER).head qz
 have e58:=hk.pe 16
 have e52:=hk.pe 10
 refine wl_gyes rfl e52 ?_
 refine Lq_ e58 rfl ?_
 exact wl_re (k := 59) (v := .bool true) rfl (congrArg Value.bool (decide_eq_true (by first | exact hs8 | omega | simpa using hs8))) qy
 have e52:=hk.pe 10
 have e59:=hk.pe 17
 exact Pk_ e52 e59 qz
 exact dm (hk.pe 18)
 have e1:=hk.pi 1
 have e61:=hk.pe 19
 refine wl_gyes rfl e61 ?_
 exact Fd_ 4 fld33_4 e1 rfl qz
 have e62:=hk.pe 20
 have e61:=hk.pe 19
 refine wl_gyes rfl e61 ?_
 exact Hl_ 1 sc31 e62 (hp.ext hER) rfl rfl qz
 have e1:=hk.pi 1
 have e61:=hk.pe 19
 refine wl_gyes rfl e61 ?_
 exact Hx_ ([iv cg.node, iv cg.view, iv cg.low, .slice Acg0 cg.marks.length ccg0, .slice Acg1 cg.p.length ccg1, .slice Acg2 cg.q.length ccg2]) 1 ag33 e1 (hp.ext hER) rfl rfl rfl qz
 have e63:=hk.pe 21
 have e64:=hk.pe 22
 have e61:=hk.pe 19
 refine wl_gyes rfl e61 ?_
 have hcl:=nStandsMay_ok (many := 1) (hcg1.ext hER) ⟨hIcg, _, _, _, _, _, _, rfl, (hcg0.ext hER), (hcg1.ext hER), (hcg2.ext hER)⟩ (by omega) (by omega)
 refine Cl_ cl94 (by simp only [evs, ev, e63, e64]; first | done | rfl) hcl ?_
 clear hcl
 rintro _ w7 ⟨rfl, hE7⟩
 refine wl_re (k := 65) (v := .bool false) rfl (congrArg Value.bool (decide_eq_false (by first | exact hs9 | omega | simpa using hs9))) ?_
 exact qy ⟨hE7, rfl⟩
 have e61:=hk.pe 19
 have e65:=hk.pe 23
 exact Pk_ e61 e65 qz
 exact dm (hk.pe 24)
 exact dn (hk.pe 25)
 exact dn (hk.pe 25)
 exact dn (hk.pe 25)
 exact dn (hk.pe 25)
 have e67:=hk.pe 25
 have e71:=hk.pe 29
 exact Pk_ e67 rfl qz
 exact wl_assign (by decide) (hk.pe 30) qz
 intro F wD hED hini hdo
 refine wk_drop [(2, _)] ⟨dq hdo 31, trivial⟩ ?_
 clear hini hdo
 replace hp:=hp.ext hED
 refine go ?_
 refine P1 results56 ?_
 exact ⟨_, rfl, bool_f (by subst hkl; have htn : ((cg.marks.length : Int) - 1).toNat = cg.marks.length - 1 := (by omega); have hg0 := mseq_get (cg := cg) (k := cg.marks.length) (i := 0) (by omega); have hgl := mseq_get (cg := cg) (k := cg.marks.length) (i := cg.marks.length - 1) (by omega); (try simp only [htn, hg0, hgl, hml, Decidable.not_not] at hg1 hg2 hg3 hc4 hlt hs6 hs7 hs8 hs9); rw [ChangeMay_prog]; have hA : 1 ≤ cg.marks.length ∧ cg.marks.length ≤ 5 := (by omega); (try simp only [hA]); (try simp only [hg1, hg2, hg3, hs6, hs7, hs8, hs9, and_true, false_and, and_false, not_false_eq_true]); try omega), hp.chg⟩
 obtain ⟨aw1, hAw1, hatw1⟩ := GS.elI hsq 0 (by omega)
 obtain ⟨aw15, hAw15, hatw15⟩ := GS.elI hsq (((mseq cg k).length : Int) - 1).toNat (by omega)
 apply wdL [.eq _,.eq _,.eq _,.eq _,.eq _,.eq (.bool true),.eq (.bool true),.eq _,.eq (.bool true),.eq (.bool true),.eq (.bool true),.eq _,.eq _,.eq _,.eq _,.eq _,.eq _,.eq (.bool false),.eq (.bool false),.eq (.bool false),.eq undef,.eq undef,.eq undef,.eq undef,.eq (.bool false),.eq (.bool false),.eq undef,.eq undef,.eq undef,.eq undef,.eq (.bool false),.eq (.bool false)]
 refine ⟨?_,?_,?_,?_,?_,?_,?_,?_,?_,?_,?_,?_,?_,?_,?_,?_,?_,?_,?_,?_,?_,?_,?_,?_,?_,?_,?_,?_,?_,?_,?_,?_,trivial⟩<;>intro F wF hER hk
 exact dm (hk.pi 3)
 exact wl_idx0 (by decide) sl27 (hk.pe 0) rfl hAw1 0 rfl (by omega) qz
 exact Ld_ sc3 (hk.pe 1) (hatw1.ext hER).head qz
 exact Fd_ 2 fld33_2 (hk.pi 1) rfl qz
 exact Hl_ 1 sc3 (hk.pe 3) (hp.ext hER) rfl rfl qz
 have e44:=hk.pe 2
 have e46:=hk.pe 4
 refine Eq_ e44 e46 ?_
 exact t0_nChangeMay_ok
 exact dm (hk.pe 5)
 have e3:=hk.pi 3
 have e48:=hk.pe 6
 refine wl_gyes rfl e48 ?_
 exact Mv_ e3 qz
 have e49:=hk.pe 7
 have e48:=hk.pe 6
 refine wl_gyes rfl e48 ?_
 have hcl:=nRise_ok (hsq.ext hER)
 refine Cl_ cl93 (by simp only [evs, ev, e49]; first | done | rfl) hcl ?_
 clear hcl
 rintro _ w7 ⟨rfl, hE7⟩
 refine wl_re (k := 50) (v := .bool true) rfl (congrArg Value.bool (decide_eq_true (by first | exact hs7 | omega | simpa using hs7))) ?_
 exact qy ⟨hE7, rfl⟩
 have e48:=hk.pe 6
 have e50:=hk.pe 8
 exact Pk_ e48 e50 qz
 exact dm (hk.pe 9)
 have e3:=hk.pi 3
 have e52:=hk.pe 10
 refine wl_gyes rfl e52 ?_
 exact Mv_ e3 qz
 have e3:=hk.pi 3
 have e52:=hk.pe 10
 refine wl_gyes rfl e52 ?_
 exact Mv_ e3 qz
 have e54:=hk.pe 12
 have e52:=hk.pe 10
 refine wl_gyes rfl e52 ?_
 exact Ln_ underlying27 e54 qz
 have e55:=hk.pe 13
 have e52:=hk.pe 10
 refine wl_gyes rfl e52 ?_
 exact wl_sub (by decide) e55 rfl (w64 (by omega) (by omega)) qz
 have e53:=hk.pe 11
 have e56:=hk.pe 14
 have e52:=hk.pe 10
 refine wl_gyes rfl e52 ?_
 exact wl_idx0 (by decide) sl27 e53 e56 hAw15 (((mseq cg k).length : Int) - 1).toNat (by omega) (by omega) qz
 have e57:=hk.pe 15
 have e52:=hk.pe 10
 refine wl_gyes rfl e52 ?_
 exact Ld_ sc3 e57 (hatw15.ext hER).head qz
 have e58:=hk.pe 16
 have e52:=hk.pe 10
 refine wl_gyes rfl e52 ?_
 refine Lq_ e58 rfl ?_
 exact wl_re (k := 59) (v := .bool false) rfl (congrArg Value.bool (decide_eq_false (by first | exact hs8 | omega | simpa using hs8))) qy
 have e52:=hk.pe 10
 have e59:=hk.pe 17
 exact Pk_ e52 e59 qz
 exact dm (hk.pe 18)
 exact dn (hk.pe 19)
 exact dn (hk.pe 19)
 exact dn (hk.pe 19)
 exact dn (hk.pe 19)
 have e61:=hk.pe 19
 have e65:=hk.pe 23
 exact Pk_ e61 rfl qz
 exact dm (hk.pe 24)
 exact dn (hk.pe 25)
 exact dn (hk.pe 25)
 exact dn (hk.pe 25)
 exact dn (hk.pe 25)
 have e67:=hk.pe 25
 have e71:=hk.pe 29
 exact Pk_ e67 rfl qz
 exact wl_assign (by decide) (hk.pe 30) qz
 intro F wD hED hini hdo
 refine wk_drop [(2, _)] ⟨dq hdo 31, trivial⟩ ?_
 clear hini hdo
 replace hp:=hp.ext hED
 refine go ?_
 refine P1 results56 ?_
 exact ⟨_, rfl, bool_f (by subst hkl; have htn : ((cg.marks.length : Int) - 1).toNat = cg.marks.length - 1 := (by omega); have hg0 := mseq_get (cg := cg) (k := cg.marks.length) (i := 0) (by omega); have hgl := mseq_get (cg := cg) (k := cg.marks.length) (i := cg.marks.length - 1) (by omega); (try simp only [htn, hg0, hgl, hml, Decidable.not_not] at hg1 hg2 hg3 hc4 hlt hs6 hs7 hs8); rw [ChangeMay_prog]; have hA : 1 ≤ cg.marks.length ∧ cg.marks.length ≤ 5 := (by omega); (try simp only [hA]); (try simp only [hg1, hg2, hg3, hs6, hs7, hs8, and_true, false_and, and_false, not_false_eq_true]); try omega), hp.chg⟩
 obtain ⟨aw1, hAw1, hatw1⟩ := GS.elI hsq 0 (by omega)
 apply wdL [.eq _,.eq _,.eq _,.eq _,.eq _,.eq (.bool true),.eq (.bool true),.eq _,.eq (.bool false),.eq (.bool false),.eq (.bool false),.eq undef,.eq undef,.eq undef,.eq undef,.eq undef,.eq undef,.eq undef,.eq (.bool false),.eq (.bool false),.eq undef,.eq undef,.eq undef,.eq undef,.eq (.bool false),.eq (.bool false),.eq undef,.eq undef,.eq undef,.eq undef,.eq (.bool false),.eq (.bool false)]
 refine ⟨?_,?_,?_,?_,?_,?_,?_,?_,?_,?_,?_,?_,?_,?_,?_,?_,?_,?_,?_,?_,?_,?_,?_,?_,?_,?_,?_,?_,?_,?_,?_,?_,trivial⟩<;>intro F wF hER hk
 exact dm (hk.pi 3)
 exact wl_idx0 (by decide) sl27 (hk.pe 0) rfl hAw1 0 rfl (by omega) qz
 exact Ld_ sc3 (hk.pe 1) (hatw1.ext hER).head qz
 exact Fd_ 2 fld33_2 (hk.pi 1) rfl qz
 exact Hl_ 1 sc3 (hk.pe 3) (hp.ext hER) rfl rfl qz
 have e44:=hk.pe 2
 have e46:=hk.pe 4
 refine Eq_ e44 e46 ?_
 exact t0_nChangeMay_ok
 exact dm (hk.pe 5)
 have e3:=hk.pi 3
 have e48:=hk.pe 6
 refine wl_gyes rfl e48 ?_
 exact Mv_ e3 qz
 have e49:=hk.pe 7
 have e48:=hk.pe 6
 refine wl_gyes rfl e48 ?_
 have hcl:=nRise_ok (hsq.ext hER)
 refine Cl_ cl93 (by simp only [evs, ev, e49]; first | done | rfl) hcl ?_
 clear hcl
 rintro _ w7 ⟨rfl, hE7⟩
 refine wl_re (k := 50) (v := .bool false) rfl (congrArg Value.bool (decide_eq_false (by first | exact hs7 | omega | simpa using hs7))) ?_
 exact qy ⟨hE7, rfl⟩
 have e48:=hk.pe 6
 have e50:=hk.pe 8
 exact Pk_ e48 e50 qz
 exact dm (hk.pe 9)
 exact dn (hk.pe 10)
 exact dn (hk.pe 10)
 exact dn (hk.pe 10)
 exact dn (hk.pe 10)
 exact dn (hk.pe 10)
 exact dn (hk.pe 10)
 exact dn (hk.pe 10)
 have e52:=hk.pe 10
 have e59:=hk.pe 17
 exact Pk_ e52 rfl qz
 exact dm (hk.pe 18)
 exact dn (hk.pe 19)
 exact dn (hk.pe 19)
 exact dn (hk.pe 19)
 exact dn (hk.pe 19)
 have e61:=hk.pe 19
 have e65:=hk.pe 23
 exact Pk_ e61 rfl qz
 exact dm (hk.pe 24)
 exact dn (hk.pe 25)
 exact dn (hk.pe 25)
 exact dn (hk.pe 25)
 exact dn (hk.pe 25)
 have e67:=hk.pe 25
 have e71:=hk.pe 29
 exact Pk_ e67 rfl qz
 exact wl_assign (by decide) (hk.pe 30) qz
 intro F wD hED hini hdo
 refine wk_drop [(2, _)] ⟨dq hdo 31, trivial⟩ ?_
 clear hini hdo
 replace hp:=hp.ext hED
 refine go ?_
 refine P1 results56 ?_
 exact ⟨_, rfl, bool_f (by subst hkl; have htn : ((cg.marks.length : Int) - 1).toNat = cg.marks.length - 1 := (by omega); have hg0 := mseq_get (cg := cg) (k := cg.marks.length) (i := 0) (by omega); have hgl := mseq_get (cg := cg) (k := cg.marks.length) (i := cg.marks.length - 1) (by omega); (try simp only [hg0, Decidable.not_not] at hg1 hg2 hg3 hc4 hlt hs6 hs7); rw [ChangeMay_prog]; have hA : 1 ≤ cg.marks.length ∧ cg.marks.length ≤ 5 := (by omega); (try simp only [hA]); (try simp only [hg1, hg2, hg3, hs6, hs7, and_true, false_and, and_false, not_false_eq_true]); try omega), hp.chg⟩
 obtain ⟨aw1, hAw1, hatw1⟩ := GS.elI hsq 0 (by omega)
 apply wdL [.eq _,.eq _,.eq _,.eq _,.eq _,.eq (.bool false),.eq (.bool false),.eq undef,.eq undef,.eq (.bool false),.eq (.bool false),.eq undef,.eq undef,.eq undef,.eq undef,.eq undef,.eq undef,.eq undef,.eq (.bool false),.eq (.bool false),.eq undef,.eq undef,.eq undef,.eq undef,.eq (.bool false),.eq (.bool false),.eq undef,.eq undef,.eq undef,.eq undef,.eq (.bool false),.eq (.bool false)]
 refine ⟨?_,?_,?_,?_,?_,?_,?_,?_,?_,?_,?_,?_,?_,?_,?_,?_,?_,?_,?_,?_,?_,?_,?_,?_,?_,?_,?_,?_,?_,?_,?_,?_,trivial⟩<;>intro F wF hER hk
 exact dm (hk.pi 3)
 exact wl_idx0 (by decide) sl27 (hk.pe 0) rfl hAw1 0 rfl (by omega) qz
 exact Ld_ sc3 (hk.pe 1) (hatw1.ext hER).head qz
 exact Fd_ 2 fld33_2 (hk.pi 1) rfl qz
 exact Hl_ 1 sc3 (hk.pe 3) (hp.ext hER) rfl rfl qz
 have e44:=hk.pe 2
 have e46:=hk.pe 4
 refine Eq_ e44 e46 ?_
 exact wl_re (k := 47) (v := .bool false) rfl (congrArg Value.bool (decide_eq_false (by first | exact hs6 | omega | simpa using hs6))) qy
 exact dm (hk.pe 5)
 exact dn (hk.pe 6)
 exact dn (hk.pe 6)
 have e48:=hk.pe 6
 have e50:=hk.pe 8
 exact Pk_ e48 rfl qz
 exact dm (hk.pe 9)
 exact dn (hk.pe 10)
 exact dn (hk.pe 10)
 exact dn (hk.pe 10)
 exact dn (hk.pe 10)
 exact dn (hk.pe 10)
 exact dn (hk.pe 10)
 exact dn (hk.pe 10)
 have e52:=hk.pe 10
 have e59:=hk.pe 17
 exact Pk_ e52 rfl qz
 exact dm (hk.pe 18)
 exact dn (hk.pe 19)
 exact dn (hk.pe 19)
 exact dn (hk.pe 19)
 exact dn (hk.pe 19)
 have e61:=hk.pe 19
 have e65:=hk.pe 23
 exact Pk_ e61 rfl qz
 exact dm (hk.pe 24)
 exact dn (hk.pe 25)
 exact dn (hk.pe 25)
 exact dn (hk.pe 25)
 exact dn (hk.pe 25)
 have e67:=hk.pe 25
 have e71:=hk.pe 29
 exact Pk_ e67 rfl qz
 exact wl_assign (by decide) (hk.pe 30) qz
 intro F wD hED hini hdo
 refine wk_drop [(2, _)] ⟨dq hdo 31, trivial⟩ ?_
 clear hini hdo
 replace hp:=hp.ext hED
 refine go ?_
 refine P1 results56 ?_
 exact ⟨_, rfl, bool_f (by subst hkl; have htn : ((cg.marks.length : Int) - 1).toNat = cg.marks.length - 1 := (by omega); have hg0 := mseq_get (cg := cg) (k := cg.marks.length) (i := 0) (by omega); have hgl := mseq_get (cg := cg) (k := cg.marks.length) (i := cg.marks.length - 1) (by omega); (try simp only [hg0, Decidable.not_not] at hg1 hg2 hg3 hc4 hlt hs6); rw [ChangeMay_prog]; have hA : 1 ≤ cg.marks.length ∧ cg.marks.length ≤ 5 := (by omega); (try simp only [hA]); (try simp only [hg1, hg2, hg3, hs6, and_true, false_and, and_false, not_false_eq_true]); try omega), hp.chg⟩
def mnode (n : Nte) (k : Nat) : List Int := (n.changes.take k).map (·.node)
theorem mnode_succ {n : Nte} {k : Nat} (h : k < n.changes.length) : mnode n (k + 1) = mnode n k ++ [(n.changes.getD k change0).node] := by unfold mnode; rw [take_snoc change0 h, List.map_append]; rfl
theorem mnode_len {n : Nte} {k : Nat} (h : k ≤ n.changes.length) : (mnode n k).length = k := by unfold mnode; rw [List.length_map, List.length_take]; omega
theorem mnode_get {n : Nte} {k i : Nat} (h : i < k) : (mnode n k).getD i 0 = (n.changes.getD i change0).node := by
 unfold mnode
 simp only [List.getD_eq_getElem?_getD, List.getElem?_map, List.getElem?_take, h, if_true]
 cases n.changes[i]? <;> rfl
theorem nodes_rise {n : Nte} : RiseI (mnode n n.changes.length) ↔ ∀ i, i < n.changes.length → 0 < i → (n.changes.getD (i - 1) change0).node < (n.changes.getD i change0).node := by
 have hl := mnode_len (n := n) (Nat.le_refl _)
 constructor
 ·intro h i hi h0
  have := h i (by omega) h0
  rw [mnode_get (by omega), mnode_get (by omega)] at this
  exact this
 ·intro h i hi h0
  rw [hl] at hi
  rw [mnode_get (by omega), mnode_get (by omega)]
  exact h i hi h0
theorem PkAt_iff {l : List Pck} {g e : Int} {j : Nat} : PkAt l g e j ↔ isSeq (l.getD j pick0).seq ∧ (0 < j → IntKind.i64.wrap ((l.getD j pick0).seq - 1) = (l.getD (j - 1) pick0).seq) ∧ BatchMay (l.getD j pick0).batch g e ∧ ¬ ((l.getD j pick0).dig = dig0 ∧ 0 < (l.getD j pick0).batch.length) := by
 unfold PkAt isSeq
 constructor
 ·rintro ⟨a1, a2, a3, a4, a5⟩
  exact ⟨⟨a1, a2⟩, fun h0 => by rw [w64 (by omega) (by omega)]; exact a3 h0, a4, a5⟩
 ·rintro ⟨⟨a1, a2⟩, a3, a4, a5⟩
  exact ⟨a1, a2, fun h0 => by have := a3 h0; rw [w64 (by omega) (by omega)] at this; exact this, a4, a5⟩
theorem NewMay_prog {n : Nte} : NewMay n ↔ 0 < n.view ∧ (1 ≤ n.changes.length ∧ n.changes.length ≤ 7) ∧ RiseI (mnode n n.changes.length) ∧ n.picks.length ≤ 8 ∧ (∀ i, i < n.changes.length → ChangeMay (n.changes.getD i change0) ∧ (n.changes.getD i change0).view = n.view) ∧ (∀ i, i < n.picks.length → PkAt n.picks n.group n.epoch i) := by
 rw [nodes_rise]
 unfold NewMay ChAt
 constructor
 ·rintro ⟨a1, a2, a3, a4, a5, a6⟩
  exact ⟨by omega, ⟨a1, a2⟩, fun i hi => (a5 i hi).2.2, a3, fun i hi => ⟨(a5 i hi).1, (a5 i hi).2.1⟩, a6⟩
 ·rintro ⟨a1, ⟨a2, a3⟩, a4, a5, a6, a7⟩
  exact ⟨a2, a3, a5, by omega, fun i hi => ⟨(a6 i hi).1, (a6 i hi).2, a4 i hi⟩, a7⟩
end Go.Proofs.YtkdoomglflikkaaGreat
