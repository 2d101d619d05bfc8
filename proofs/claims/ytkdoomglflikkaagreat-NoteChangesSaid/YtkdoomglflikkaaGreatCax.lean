/- What each of these functions computes, for every argument that its theorem names; a part of what the proof of NoteChecks stands on. -/
import Derived.Test.YtkdoomglflikkaaGreatCac
import Derived.Test.YtkdoomglflikkaaGreatCad
import Derived.Test.YtkdoomglflikkaaGreatCae
import Derived.Test.YtkdoomglflikkaaGreatCag
import Derived.Test.YtkdoomglflikkaaGreatCah
import Derived.Test.YtkdoomglflikkaaGreatCaj
import Derived.Test.YtkdoomglflikkaaGreatCak
import Derived.Test.YtkdoomglflikkaaGreatCan
import Derived.Test.YtkdoomglflikkaaGreatCao
import Derived.Test.YtkdoomglflikkaaGreatCap
import Derived.Test.YtkdoomglflikkaaGreatCas
import Derived.Test.YtkdoomglflikkaaGreatCat
import Derived.Test.YtkdoomglflikkaaGreatCau
namespace Go.Proofs.YtkdoomglflikkaaGreat
open Go.ChangeShapes Go.WideShapes Go.ChangeAt Go.RowKit Go.Eng Go.Eng _root_.Go.Proofs.Tryz
set_option maxRecDepth 100000
variable {w0 w : World} {M0 Fz : Nat → Prop} {H : List It} {A : Option Addr} {c : Nat}
theorem reads_t34 : ReadsR Tryz.prog 34 (sliceR changeR) (fun l => l.length * 96 ≤ 140737488355328) := fun H enc w base sp held fuel cs x h hl hw => by
 obtain ⟨v, h1, h2⟩ := reads_slice (size := 6) (bytes := 96) Tryz.underlying34 rfl (by decide) Tryz.ce33 Tryz.by33 (by decide) reads_Chn H enc w base sp held fuel cs x h hl hw
 exact ⟨v, h1, h2.2⟩
theorem reads_t35 : ReadsR Tryz.prog 35 (sliceR pickR) (fun l => l.length * 64 ≤ 140737488355328) := fun H enc w base sp held fuel cs x h hl hw => by
 obtain ⟨v, h1, h2⟩ := reads_slice (size := 34) (bytes := 64) Tryz.underlying35 rfl (by decide) Tryz.ce66 Tryz.by66 (by decide) reads_Pck H enc w base sp held fuel cs x h hl hw
 exact ⟨v, h1, h2.2⟩
end Go.Proofs.YtkdoomglflikkaaGreat
namespace Go.Proofs.YtkdoomglflikkaaGreat
open Go.RowKit Go.Eng Go.Eng _root_.Go.Proofs.Tryz
set_option maxRecDepth 100000
variable {w0 w : World} {M0 Fz : Nat → Prop} {H : List It} {A : Option Addr} {c : Nat}
set_option maxHeartbeats 40000000 in
theorem rSameLists_ok {csa : List Value} {a : Nte} {Sa : Nat → Prop} {csb : List Value} {b : Nte} {Sb : Nat → Prop} (ha : noteR.rd Sa w csa a) (hb : noteR.rd Sb w csb b) : Ret prog 50 #[.agg csa.toArray, .agg csb.toArray] w (fun v w' => v = .bool (decide (SameL a b)) ∧ Ext w w') := by
 obtain ⟨hIa, Aa0, ca0, Aa1, ca1, Aa2, ca2, Aa3, ca3, Aa4, ca4, Aa5, ca5, Aa6, ca6, Aa7, ca7, Aa8, ca8, Aa9, ca9, Aa10, ca10, rfl, ha0, ha1, ha2, ha3, ha4, ha5, ha6, ha7, ha8, ha9, ha10⟩ := ha
 obtain ⟨hIb, Ab0, cb0, Ab1, cb1, Ab2, cb2, Ab3, cb3, Ab4, cb4, Ab5, cb5, Ab6, cb6, Ab7, cb7, Ab8, cb8, Ab9, cb9, Ab10, cb10, rfl, hb0, hb1, hb2, hb3, hb4, hb5, hb6, hb7, hb8, hb9, hb10⟩ := hb
 have mha0:=ha0.mx
 have mha1:=ha1.mx
 have mha2:=ha2.mx
 have mha3:=ha3.mx
 have mha4:=ha4.mx
 have mha5:=ha5.mx
 have mha6:=ha6.mx
 have mha7:=ha7.mx
 have mha8:=ha8.mx
 have mha9:=ha9.mx
 have mha10:=ha10.mx
 have mhb0:=hb0.mx
 have mhb1:=hb1.mx
 have mhb2:=hb2.mx
 have mhb3:=hb3.mx
 have mhb4:=hb4.mx
 have mhb5:=hb5.mx
 have mhb6:=hb6.mx
 have mhb7:=hb7.mx
 have mhb8:=hb8.mx
 have mhb9:=hb9.mx
 have mhb10:=hb10.mx
 refine ret_of_wk func50 rfl ntmps50 leB_ ?_
 have hp:=HP.begin_ w
 refine so ?_
 refine Bx hp (h := fun gs2 w1 hp hE1 => ?_)
 refine Bx hp (h := fun gs3 w2 hp hE2 => so ?_)
 refine Gs 17 ?_ ?_<;>intro hg1<;>refine so ?_
 refine aT (so ?_)
 refine Pt ?_
 exact ⟨_, rfl, bool_f (fun h => by have := h.lens; omega), hp.chg⟩
 refine Gs 26 ?_ ?_<;>intro hg2<;>refine so ?_
 refine aT (so ?_)
 refine Pt ?_
 exact ⟨_, rfl, bool_f (fun h => by have := h.lens; omega), hp.chg⟩
 refine Cd ?_ ?_<;>intro hc3<;>refine so ?_
 refine Pt ?_
 exact ⟨_, rfl, bool_f (fun h => by have := h.lens; omega), hp.chg⟩
 refine Lp [2, 3, 5] (fun L' w' mes => ∃ (k : Nat), L' = [(2, pt gs2 0), (3, pt gs3 0), (5, iv (k : Int))] ∧ (k ≤ a.changes.length) ∧ (a.changes.take k = b.changes.take k) ∧ (a.changes.length = b.changes.length ∧ a.picks.length = b.picks.length ∧ a.digs.length = b.digs.length) ∧ (GS wishR (fun b => b < w.heap.size) w' Aa0 ca0 a.batch) ∧ (GS byteR (fun b => b < w.heap.size) w' Aa1 ca1 a.ans.data) ∧ (GS intR (fun b => b < w.heap.size) w' Aa2 ca2 a.ans.nodes) ∧ (GS markR (fun b => b < w.heap.size) w' Aa3 ca3 a.change.marks) ∧ (GS standR (fun b => b < w.heap.size) w' Aa4 ca4 a.change.p) ∧ (GS standR (fun b => b < w.heap.size) w' Aa5 ca5 a.change.q) ∧ (GS changeR (fun b => b < w.heap.size) w' Aa6 ca6 a.changes) ∧ (GS pickR (fun b => b < w.heap.size) w' Aa7 ca7 a.picks) ∧ (GS digR (fun b => b < w.heap.size) w' Aa8 ca8 a.digs) ∧ (GS byteR (fun b => b < w.heap.size) w' Aa9 ca9 a.data) ∧ (GS intR (fun b => b < w.heap.size) w' Aa10 ca10 a.nodes) ∧ (GS wishR (fun b => b < w.heap.size) w' Ab0 cb0 b.batch) ∧ (GS byteR (fun b => b < w.heap.size) w' Ab1 cb1 b.ans.data) ∧ (GS intR (fun b => b < w.heap.size) w' Ab2 cb2 b.ans.nodes) ∧ (GS markR (fun b => b < w.heap.size) w' Ab3 cb3 b.change.marks) ∧ (GS standR (fun b => b < w.heap.size) w' Ab4 cb4 b.change.p) ∧ (GS standR (fun b => b < w.heap.size) w' Ab5 cb5 b.change.q) ∧ (GS changeR (fun b => b < w.heap.size) w' Ab6 cb6 b.changes) ∧ (GS pickR (fun b => b < w.heap.size) w' Ab7 cb7 b.picks) ∧ (GS digR (fun b => b < w.heap.size) w' Ab8 cb8 b.digs) ∧ (GS byteR (fun b => b < w.heap.size) w' Ab9 cb9 b.data) ∧ (GS intR (fun b => b < w.heap.size) w' Ab10 cb10 b.nodes) ∧ (HP w (fun _ => False) (fun b => b < w.heap.size) w' (itB gs3 38 ([iv b.kind, iv b.from_, iv b.group, iv b.epoch, iv b.view, iv b.seq] ++ (digC b.dig ++ ([.slice Ab0 b.batch.length cb0, iv b.ans.err, .slice Ab1 b.ans.data.length cb1, iv b.ans.epoch, .slice Ab2 b.ans.nodes.length cb2, iv b.stamp, iv b.node, iv b.change.node, iv b.change.view, iv b.change.low, .slice Ab3 b.change.marks.length cb3, .slice Ab4 b.change.p.length cb4, .slice Ab5 b.change.q.length cb5, .slice Ab6 b.changes.length cb6, .slice Ab7 b.picks.length cb7, iv b.level, iv b.place, .slice Ab8 b.digs.length cb8, .slice Ab9 b.data.length cb9, .slice Ab10 b.nodes.length cb10]))) :: itB gs2 38 ([iv a.kind, iv a.from_, iv a.group, iv a.epoch, iv a.view, iv a.seq] ++ (digC a.dig ++ ([.slice Aa0 a.batch.length ca0, iv a.ans.err, .slice Aa1 a.ans.data.length ca1, iv a.ans.epoch, .slice Aa2 a.ans.nodes.length ca2, iv a.stamp, iv a.node, iv a.change.node, iv a.change.view, iv a.change.low, .slice Aa3 a.change.marks.length ca3, .slice Aa4 a.change.p.length ca4, .slice Aa5 a.change.q.length ca5, .slice Aa6 a.changes.length ca6, .slice Aa7 a.picks.length ca7, iv a.level, iv a.place, .slice Aa8 a.digs.length ca8, .slice Aa9 a.data.length ca9, .slice Aa10 a.nodes.length ca10]))) :: [])) ∧ a.changes.length - k = mes) (a.changes.length - 0) ⟨0, rfl, by omega, by simp, by omega, ha0.tn, ha1.tn, ha2.tn, ha3.tn, ha4.tn, ha5.tn, ha6.tn, ha7.tn, ha8.tn, ha9.tn, ha10.tn, hb0.tn, hb1.tn, hb2.tn, hb3.tn, hb4.tn, hb5.tn, hb6.tn, hb7.tn, hb8.tn, hb9.tn, hb10.tn, hp, rfl⟩ ?_
 rintro _ wc _ ⟨k, rfl, hk, htkc, hll, ha0, ha1, ha2, ha3, ha4, ha5, ha6, ha7, ha8, ha9, ha10, hb0, hb1, hb2, hb3, hb4, hb5, hb6, hb7, hb8, hb9, hb10, hp, rfl⟩ KL1 hKL1
 refine so ?_
 refine Cd ?_ ?_<;>intro hc4<;>refine so ?_
 obtain ⟨aw3, pw3_0, qw3_0, pw3_1, qw3_1, pw3_2, qw3_2, hAw3, hatw3, hIw3, hw3_0, hw3_1, hw3_2⟩ := changeR_el ha6 k (by omega)
 obtain ⟨aw8, pw8_0, qw8_0, pw8_1, qw8_1, pw8_2, qw8_2, hAw8, hatw8, hIw8, hw8_0, hw8_1, hw8_2⟩ := changeR_el hb6 k (by omega)
 refine wdP 12 hp (fun wD hp hED => by refine pm ?_; exact PLe (r12SameChange_ok ⟨hIw3, _, _, _, _, _, _, rfl, hw3_0.to, hw3_1.to, hw3_2.to⟩ ⟨hIw8, _, _, _, _, _, _, rfl, hw8_0.to, hw8_1.to, hw8_2.to⟩) (h := pl)) fun wD hp hED => ?_
 refine so ?_
 refine Cd ?_ ?_<;>intro hc5<;>refine so ?_
 refine Pt ?_
 exact ⟨_, rfl, bool_f (fun h => by obtain ⟨h1, h2, h3, _⟩ := h; simp [h1] at hg1 hg2 hc3 hc4 hc5), hp.chg⟩
 refine Kl [2, 3, 5] hKL1 (a.changes.length - (k + 1)) ⟨(k + 1), rfl, by omega, ?_, hll, ha0.to, ha1.to, ha2.to, ha3.to, ha4.to, ha5.to, ha6.to, ha7.to, ha8.to, ha9.to, ha10.to, hb0.to, hb1.to, hb2.to, hb3.to, hb4.to, hb5.to, hb6.to, hb7.to, hb8.to, hb9.to, hb10.to, hp, rfl⟩ (by omega)
 rw [take_snoc change0 (by omega : k < a.changes.length), take_snoc change0 (by omega : k < b.changes.length), htkc]; (try simp only [Decidable.not_not, ne_eq] at hg1 hg2 hc3 hc4 hc5); simp only [hc5]
 refine Lp [2, 3, 6] (fun L' w' mes => ∃ (k : Nat), L' = [(2, pt gs2 0), (3, pt gs3 0), (6, iv (k : Int))] ∧ (k ≤ a.picks.length) ∧ (a.picks.take k = b.picks.take k) ∧ (a.changes = b.changes) ∧ (GS wishR (fun b => b < w.heap.size) w' Aa0 ca0 a.batch) ∧ (GS byteR (fun b => b < w.heap.size) w' Aa1 ca1 a.ans.data) ∧ (GS intR (fun b => b < w.heap.size) w' Aa2 ca2 a.ans.nodes) ∧ (GS markR (fun b => b < w.heap.size) w' Aa3 ca3 a.change.marks) ∧ (GS standR (fun b => b < w.heap.size) w' Aa4 ca4 a.change.p) ∧ (GS standR (fun b => b < w.heap.size) w' Aa5 ca5 a.change.q) ∧ (GS changeR (fun b => b < w.heap.size) w' Aa6 ca6 a.changes) ∧ (GS pickR (fun b => b < w.heap.size) w' Aa7 ca7 a.picks) ∧ (GS digR (fun b => b < w.heap.size) w' Aa8 ca8 a.digs) ∧ (GS byteR (fun b => b < w.heap.size) w' Aa9 ca9 a.data) ∧ (GS intR (fun b => b < w.heap.size) w' Aa10 ca10 a.nodes) ∧ (GS wishR (fun b => b < w.heap.size) w' Ab0 cb0 b.batch) ∧ (GS byteR (fun b => b < w.heap.size) w' Ab1 cb1 b.ans.data) ∧ (GS intR (fun b => b < w.heap.size) w' Ab2 cb2 b.ans.nodes) ∧ (GS markR (fun b => b < w.heap.size) w' Ab3 cb3 b.change.marks) ∧ (GS standR (fun b => b < w.heap.size) w' Ab4 cb4 b.change.p) ∧ (GS standR (fun b => b < w.heap.size) w' Ab5 cb5 b.change.q) ∧ (GS changeR (fun b => b < w.heap.size) w' Ab6 cb6 b.changes) ∧ (GS pickR (fun b => b < w.heap.size) w' Ab7 cb7 b.picks) ∧ (GS digR (fun b => b < w.heap.size) w' Ab8 cb8 b.digs) ∧ (GS byteR (fun b => b < w.heap.size) w' Ab9 cb9 b.data) ∧ (GS intR (fun b => b < w.heap.size) w' Ab10 cb10 b.nodes) ∧ (HP w (fun _ => False) (fun b => b < w.heap.size) w' (itB gs3 38 ([iv b.kind, iv b.from_, iv b.group, iv b.epoch, iv b.view, iv b.seq] ++ (digC b.dig ++ ([.slice Ab0 b.batch.length cb0, iv b.ans.err, .slice Ab1 b.ans.data.length cb1, iv b.ans.epoch, .slice Ab2 b.ans.nodes.length cb2, iv b.stamp, iv b.node, iv b.change.node, iv b.change.view, iv b.change.low, .slice Ab3 b.change.marks.length cb3, .slice Ab4 b.change.p.length cb4, .slice Ab5 b.change.q.length cb5, .slice Ab6 b.changes.length cb6, .slice Ab7 b.picks.length cb7, iv b.level, iv b.place, .slice Ab8 b.digs.length cb8, .slice Ab9 b.data.length cb9, .slice Ab10 b.nodes.length cb10]))) :: itB gs2 38 ([iv a.kind, iv a.from_, iv a.group, iv a.epoch, iv a.view, iv a.seq] ++ (digC a.dig ++ ([.slice Aa0 a.batch.length ca0, iv a.ans.err, .slice Aa1 a.ans.data.length ca1, iv a.ans.epoch, .slice Aa2 a.ans.nodes.length ca2, iv a.stamp, iv a.node, iv a.change.node, iv a.change.view, iv a.change.low, .slice Aa3 a.change.marks.length ca3, .slice Aa4 a.change.p.length ca4, .slice Aa5 a.change.q.length ca5, .slice Aa6 a.changes.length ca6, .slice Aa7 a.picks.length ca7, iv a.level, iv a.place, .slice Aa8 a.digs.length ca8, .slice Aa9 a.data.length ca9, .slice Aa10 a.nodes.length ca10]))) :: [])) ∧ a.picks.length - k = mes) (a.picks.length - 0) ⟨0, rfl, by omega, by simp, take_all htkc (by omega) (by omega), ha0, ha1, ha2, ha3, ha4, ha5, ha6, ha7, ha8, ha9, ha10, hb0, hb1, hb2, hb3, hb4, hb5, hb6, hb7, hb8, hb9, hb10, hp, rfl⟩ ?_
 rintro _ wp _ ⟨k, rfl, hk, htkp, hec, ha0, ha1, ha2, ha3, ha4, ha5, ha6, ha7, ha8, ha9, ha10, hb0, hb1, hb2, hb3, hb4, hb5, hb6, hb7, hb8, hb9, hb10, hp, rfl⟩ KL2 hKL2
 refine so ?_
 refine Cd ?_ ?_<;>intro hc6<;>refine so ?_
 obtain ⟨aw3, pw3_0, qw3_0, hAw3, hatw3, hIw3, hw3_0⟩ := pickR_el ha7 k (by omega)
 obtain ⟨aw8, pw8_0, qw8_0, hAw8, hatw8, hIw8, hw8_0⟩ := pickR_el hb7 k (by omega)
 apply wc_drawW 13 10 11 12 7 8 66 (.agg #[iv 0, .int .u8 0, .int .u8 0, .int .u8 0, .int .u8 0, .int .u8 0, .int .u8 0, .int .u8 0, .int .u8 0, .int .u8 0, .int .u8 0, .int .u8 0, .int .u8 0, .int .u8 0, .int .u8 0, .int .u8 0, .int .u8 0, .int .u8 0, .int .u8 0, .int .u8 0, .int .u8 0, .int .u8 0, .int .u8 0, .int .u8 0, .int .u8 0, .int .u8 0, .int .u8 0, .int .u8 0, .int .u8 0, .int .u8 0, .int .u8 0, .int .u8 0, .int .u8 0, s0] : Value).cells.toList ([iv ((a.picks.getD k pick0).seq)] ++ (digC ((a.picks.getD k pick0).dig) ++ ([.slice pw3_0 ((a.picks.getD k pick0).batch).length qw3_0]))) [SP.eq _, SP.eq _, SP.eq _, SP.eq _, SP.eq _, SP.eq _, SP.eq _, SP.eq _, SP.eq _, SP.eq _, SP.any, SP.any, SP.any] (by kernel_rfl) (by kernel_rfl) (by kernel_rfl) (by kernel_rfl) ⟨.inr (fun _ _ _ _ h => h), .inr (fun _ _ _ _ h => h), .inr (fun _ _ _ _ h => h), .inr (fun _ _ _ _ h => h), .inr (fun _ _ _ _ h => h), .inr (fun _ _ _ _ h => h), .inr (fun _ _ _ _ h => h), .inr (fun _ _ _ _ h => h), .inr (fun _ _ _ _ h => h), .inr (fun _ _ _ _ h => h), .inr (fun _ _ _ _ _ => trivial), .inr (fun _ _ _ _ _ => trivial), .inr (fun _ _ _ _ _ => trivial), trivial⟩ leB_
 refine ⟨?_,?_,?_,?_,?_,?_,?_,?_,?_,?_,?_,?_,?_,trivial⟩<;>intro F wF hER hk hEE
 have e2:=hk.qi 2
 refine Fd_ 52 fld38_13 e2 rfl ?_
 exact qz ⟨RlW.o (by decide) (by decide) (by decide) (Chg.refl _ _), rfl⟩
 have e61:=hk.qe 0
 refine Hl_ 1 sc35 e61 (hp.ext hER) rfl rfl ?_
 exact qz ⟨RlW.o (by decide) (by decide) (by decide) (Chg.refl _ _), rfl⟩
 have e6:=hk.qi 6
 refine Mv_ e6 ?_
 exact qz ⟨RlW.o (by decide) (by decide) (by decide) (Chg.refl _ _), rfl⟩
 have e62:=hk.qe 1
 have e63:=hk.qe 2
 refine wl_idx0 (by decide) sl35 e62 e63 hAw3 k rfl (by omega) ?_
 exact qz ⟨RlW.o (by decide) (by decide) (by decide) (Chg.refl _ _), rfl⟩
 have e64:=hk.qe 3
 refine wl_loadA (by decide) ag66 e64 (hatw3.ext hER).at_ rfl ?_
 exact qz ⟨RlW.o (by decide) (by decide) (by decide) (Chg.refl _ _), rfl⟩
 have e3:=hk.qi 3
 refine Fd_ 52 fld38_13 e3 rfl ?_
 exact qz ⟨RlW.o (by decide) (by decide) (by decide) (Chg.refl _ _), rfl⟩
 have e66:=hk.qe 5
 refine Hl_ 0 sc35 e66 (hp.ext hER) rfl rfl ?_
 exact qz ⟨RlW.o (by decide) (by decide) (by decide) (Chg.refl _ _), rfl⟩
 have e6:=hk.qi 6
 refine Mv_ e6 ?_
 exact qz ⟨RlW.o (by decide) (by decide) (by decide) (Chg.refl _ _), rfl⟩
 have e67:=hk.qe 6
 have e68:=hk.qe 7
 refine wl_idx0 (by decide) sl35 e67 e68 hAw8 k rfl (by omega) ?_
 exact qz ⟨RlW.o (by decide) (by decide) (by decide) (Chg.refl _ _), rfl⟩
 have e69:=hk.qe 8
 refine wl_loadA (by decide) ag66 e69 (hatw8.ext hER).at_ rfl ?_
 exact qz ⟨RlW.o (by decide) (by decide) (by decide) (Chg.refl _ _), rfl⟩
 refine wl_alloc (z := .agg #[iv 0, .int .u8 0, .int .u8 0, .int .u8 0, .int .u8 0, .int .u8 0, .int .u8 0, .int .u8 0, .int .u8 0, .int .u8 0, .int .u8 0, .int .u8 0, .int .u8 0, .int .u8 0, .int .u8 0, .int .u8 0, .int .u8 0, .int .u8 0, .int .u8 0, .int .u8 0, .int .u8 0, .int .u8 0, .int .u8 0, .int .u8 0, .int .u8 0, .int .u8 0, .int .u8 0, .int .u8 0, .int .u8 0, .int .u8 0, .int .u8 0, .int .u8 0, .int .u8 0, s0]) (by decide) (by kernel_rfl) ?_
 rintro g7 w7 hg7 hb7 hE7
 subst hg7
 exact qz ⟨RlW.a (.inl rfl) (by decide) hb7 hE7, trivial⟩
 refine wl_alloc (z := .agg #[iv 0, .int .u8 0, .int .u8 0, .int .u8 0, .int .u8 0, .int .u8 0, .int .u8 0, .int .u8 0, .int .u8 0, .int .u8 0, .int .u8 0, .int .u8 0, .int .u8 0, .int .u8 0, .int .u8 0, .int .u8 0, .int .u8 0, .int .u8 0, .int .u8 0, .int .u8 0, .int .u8 0, .int .u8 0, .int .u8 0, .int .u8 0, .int .u8 0, .int .u8 0, .int .u8 0, .int .u8 0, .int .u8 0, .int .u8 0, .int .u8 0, .int .u8 0, .int .u8 0, s0]) (by decide) (by kernel_rfl) ?_
 rintro g7 w7 hg7 hb7 hE7
 subst hg7
 exact qz ⟨RlW.a (.inr rfl) (by decide) hb7 hE7, trivial⟩
 have e65:=hk.qe 4
 obtain ⟨g7, hg7, hb7⟩ := hEE rfl
 refine wl_storeB2 hg7 e65 hb7 sz66 leB_ (List.all_eq_true.1 rfl) ?_
 intro w7 hb8 hC7
 exact wl_nil (qr_none ⟨RlW.f hg7 hC7 hb8, trivial⟩)
 intro F wD hED hini hdo hWW
 obtain ⟨gs7, gs8, hWn, hWA, hWB, e7, e8, hbA, hbB⟩ := hWW
 refine wl_drop [(2, _), (3, _), (6, _), (7, _), (8, _), (70, _)] ⟨di hini 2, di hini 3, di hini 6, e7, e8, dr hdo 9, trivial⟩ ?_
 clear e7 e8 hini hdo
 replace hp:=hp.add2 hED hbA hbB hWn hWA hWB
 refine Hs 1 hp (h := fun w3 hp hC3 => so ?_)
 refine Gs 76 ?_ ?_<;>intro hg7<;>refine so ?_
 refine aT (so ?_)
 refine Pt ?_
 exact ⟨_, rfl, bool_f (fun h => by obtain ⟨h1, h2, h3, _⟩ := h; simp [h2] at hg1 hg2 hc3 hc4 hc6 hg7), hp.chg⟩
 refine wl_neqK (m := 6) ((a.picks.getD k pick0).dig = (b.picks.getD k pick0).dig) (by decide) key23 eg23 rfl rfl (digC_fit _) (digC_fit _) digC_inj ?_
 refine so ?_
 refine Gs 83 ?_ ?_<;>intro hg8<;>refine so ?_
 refine aT (so ?_)
 refine Pt ?_
 exact ⟨_, rfl, bool_f (fun h => by obtain ⟨h1, h2, h3, _⟩ := h; simp [h2] at hg1 hg2 hc3 hc4 hc6 hg7 hg8), hp.chg⟩
 refine Cx hp (alike_ok hw3_0.to hw8_0.to) fun w4 hp hE4 => so ?_
 refine Cd ?_ ?_<;>intro hc9<;>refine so ?_
 refine Pt ?_
 exact ⟨_, rfl, bool_f (fun h => by obtain ⟨h1, h2, h3, _⟩ := h; simp [h2] at hg1 hg2 hc3 hc4 hc6 hg7 hg8 hc9), hp.chg⟩
 refine Kl [2, 3, 6] hKL2 (a.picks.length - (k + 1)) ⟨(k + 1), rfl, by omega, ?_, hec, ha0.to, ha1.to, ha2.to, ha3.to, ha4.to, ha5.to, ha6.to, ha7.to, ha8.to, ha9.to, ha10.to, hb0.to, hb1.to, hb2.to, hb3.to, hb4.to, hb5.to, hb6.to, hb7.to, hb8.to, hb9.to, hb10.to, hp.tail.tail, rfl⟩ (by omega)
 rw [take_snoc pick0 (by omega : k < a.picks.length), take_snoc pick0 (by omega : k < b.picks.length), htkp]; (try simp only [Decidable.not_not, ne_eq] at hg1 hg2 hc3 hc4 hc6 hg7 hg8 hc9); rw [show (a.picks.getD k pick0) = (b.picks.getD k pick0) from Pck_eq.2 ⟨by simp only [hg7], by simp only [hg8], by simp only [hc9]⟩]
 refine Lp [2, 3, 9] (fun L' w' mes => ∃ (k : Nat), L' = [(2, pt gs2 0), (3, pt gs3 0), (9, iv (k : Int))] ∧ (k ≤ a.digs.length) ∧ (a.digs.take k = b.digs.take k) ∧ (a.picks = b.picks) ∧ Ext wp w' ∧ a.digs.length - k = mes) (a.digs.length - 0) (by
     refine ⟨0, rfl, ?_, ?_, ?_, me, rfl⟩
     omega
     simp
     exact take_all htkp (by omega) (by omega)) ?_
 rintro _ wd _ ⟨k, rfl, hk, htkd, hep, hEq0, rfl⟩ KL3 hKL3
 replace hp:=hp.ext hEq0
 refine so ?_
 refine Cd ?_ ?_<;>intro hc10<;>refine so ?_
 obtain ⟨aw3, hAw3, hatw3⟩ := GS.elD (ha8.to (w' := wd)) k (by omega)
 obtain ⟨aw8, hAw8, hatw8⟩ := GS.elD (hb8.to (w' := wd)) k (by omega)
 refine wdP 11 hp (fun wD hp hED => by refine pm ?_; exact .op rfl (wl_neqK (m := 6) ((a.digs.getD k dig0) = (b.digs.getD k dig0)) (by decide) key23 eg23 rfl rfl (digC_fit _) (digC_fit _) digC_inj (wl_nil qp)) pl) fun wD hp hED => ?_
 refine so ?_
 refine Cd ?_ ?_<;>intro hc11<;>refine so ?_
 refine Pt ?_
 exact ⟨_, rfl, bool_f (fun h => by obtain ⟨h1, h2, h3, _⟩ := h; simp [h3] at hg1 hg2 hc3 hc4 hc6 hc10 hc11), hp.chg⟩
 refine Kl [2, 3, 9] hKL3 (a.digs.length - (k + 1)) ⟨(k + 1), rfl, by omega, ?_, hep, me, rfl⟩ (by omega)
 rw [take_snoc dig0 (by omega : k < a.digs.length), take_snoc dig0 (by omega : k < b.digs.length), htkd]; (try simp only [Decidable.not_not, ne_eq] at hg1 hg2 hc3 hc4 hc6 hc10 hc11); simp only [hc11]
 refine Cx hp (alike_ok ha0.to hb0.to) fun w5 hp hE5 => so ?_
 refine Gs 114 ?_ ?_<;>intro hg12<;>refine so ?_
 refine Cx hp (eqBytes_ok ha9.to hb9.to) fun w6 hp hE6 => so ?_
 refine Gs 121 ?_ ?_<;>intro hg13<;>refine so ?_
 refine Cx hp (eqInts_ok ha10.to hb10.to) fun w7 hp hE7 => so ?_
 refine Pt ?_
 have hed:=take_all htkd (by omega) (by omega)
 exact ⟨_, rfl, congrArg Value.bool (by unfold SameL; simp [hec, hep, hed, hg12, hg13]), hp.chg⟩
 refine Pt ?_
 have hed:=take_all htkd (by omega) (by omega)
 exact ⟨_, rfl, congrArg Value.bool (by unfold SameL; simp [hec, hep, hed, hg12, hg13]), hp.chg⟩
 refine Pt ?_
 have hed:=take_all htkd (by omega) (by omega)
 exact ⟨_, rfl, congrArg Value.bool (by unfold SameL; simp [hec, hep, hed, hg12]), hp.chg⟩
set_option maxHeartbeats 40000000 in
theorem nBatchMay_ok {Al : Option Addr} {cl : Nat} {l : List Wsh} {Sl : Nat → Prop} {csn : List Value} {n : Nte} {Sn : Nat → Prop} (hl : GS wishR Sl w Al cl l) (hn : noteR.rd Sn w csn n) : Ret prog 100 #[.slice Al l.length cl, .agg csn.toArray] w (fun v w' => v = .bool (decide (BatchMay l n.group n.epoch)) ∧ Ext w w') := by
 have qhn:=hn
 obtain ⟨hIn, An0, cn0, An1, cn1, An2, cn2, An3, cn3, An4, cn4, An5, cn5, An6, cn6, An7, cn7, An8, cn8, An9, cn9, An10, cn10, rfl, hn0, hn1, hn2, hn3, hn4, hn5, hn6, hn7, hn8, hn9, hn10⟩ := hn
 refine ret_of_wk func100 rfl ntmps100 leB_ ?_
 have hp:=HP.begin_ w
 refine so ?_
 refine Bx hp (h := fun gs3 w1 hp hE1 => so ?_)
 refine Gs 8 ?_ ?_<;>intro hg1<;>refine so ?_
 have hblk:=hp.blkAt (i := 0) rfl
 have hatb : AtF (fun _ => True) _ _ _ := ⟨hblk.at0, trivial, hblk.lt⟩
 have hrdb : noteR.rd (fun b => b < w.heap.size) _ _ n := (rdTn qhn (w' := w1))
 refine Cx hp (fWCon_ok (fid := 135) (first := []) (cap := [pt gs3 0]) (p0 := fun x => ¬ BM n.group n.epoch x) hl.tn cl135 (fun w1 cs x hE hr => batchMay1_ok hr (hatb.ext hE) (noteR.keep hE (fun _ _ _ x => x) hrdb))) fun w7 hp hE7 => so ?_
 refine Pt ?_
 exact ⟨_, rfl, congrArg Value.bool (decide_eq_decide.2 (by unfold BatchMay; first | omega | (simp_all; try omega))), hp.chg⟩
 refine Pt ?_
 exact ⟨_, rfl, bool_f (by unfold BatchMay; first | omega | (simp_all; try omega)), hp.chg⟩
theorem t0_rNewMay_ok {p : Prop} (h : p := by exact wl_re (k := 81) (v := .bool true) rfl (congrArg Value.bool (decide_eq_true (by first | exact hs10 | omega | simpa using hs10))) qy) : p := h
theorem t1_rNewMay_ok {p : Prop} (h : p := by exact wl_re (k := 85) (v := .bool true) rfl (congrArg Value.bool (decide_eq_true (by first | exact hs11 | omega | simpa using hs11))) qy) : p := h
theorem t2_rNewMay_ok {p : Prop} (h : p := by exact Hx_ ([iv n.kind, iv n.from_, iv n.group, iv n.epoch, iv n.view, iv n.seq] ++ (digC n.dig ++ ([.slice An0 n.batch.length cn0, iv n.ans.err, .slice An1 n.ans.data.length cn1, iv n.ans.epoch, .slice An2 n.ans.nodes.length cn2, iv n.stamp, iv n.node, iv n.change.node, iv n.change.view, iv n.change.low, .slice An3 n.change.marks.length cn3, .slice An4 n.change.p.length cn4, .slice An5 n.change.q.length cn5, .slice An6 n.changes.length cn6, .slice An7 n.picks.length cn7, iv n.level, iv n.place, .slice An8 n.digs.length cn8, .slice An9 n.data.length cn9, .slice An10 n.nodes.length cn10]))) 1 ag38 e1 (hp.ext hER) rfl rfl rfl qz) : p := h
set_option maxHeartbeats 40000000 in
theorem rNewMay_ok {csn : List Value} {n : Nte} {Sn : Nat → Prop} (hn : noteR.rd Sn w csn n) : Ret prog 91 #[.agg csn.toArray] w (fun v w' => v = .bool (decide (NewMay n)) ∧ Ext w w') := by
 obtain ⟨hIn, An0, cn0, An1, cn1, An2, cn2, An3, cn3, An4, cn4, An5, cn5, An6, cn6, An7, cn7, An8, cn8, An9, cn9, An10, cn10, rfl, hn0, hn1, hn2, hn3, hn4, hn5, hn6, hn7, hn8, hn9, hn10⟩ := hn
 have mhn0:=hn0.mx
 have mhn1:=hn1.mx
 have mhn2:=hn2.mx
 have mhn3:=hn3.mx
 have mhn4:=hn4.mx
 have mhn5:=hn5.mx
 have mhn6:=hn6.mx
 have mhn7:=hn7.mx
 have mhn8:=hn8.mx
 have mhn9:=hn9.mx
 have mhn10:=hn10.mx
 refine ret_of_wk func91 rfl ntmps91 leB_ ?_
 have hp:=HP.begin_ w
 replace hn0:=hn0.now
 replace hn1:=hn1.now
 replace hn2:=hn2.now
 replace hn3:=hn3.now
 replace hn4:=hn4.now
 replace hn5:=hn5.now
 replace hn6:=hn6.now
 replace hn7:=hn7.now
 replace hn8:=hn8.now
 replace hn9:=hn9.now
 replace hn10:=hn10.now
 refine go ?_
 refine wl_hbox (by decide) rfl hp ?_
 rintro gs1 w1 hp1 hE1
 have q0:=hE1
 replace hp:=hp1
 refine go ?_
 refine Fd_ 51 fld38_12 rfl rfl ?_
 refine Hl_ 0 sc34 rfl hp rfl rfl ?_
 refine Ln_ underlying34 rfl ?_
 refine Cl_ cl52 rfl (r12_within) ?_
 rintro _ _ ⟨rfl, rfl⟩
 first | refine Nd_ rfl ?_ | refine Nn_ rfl ?_
 refine go ?_
 refine Gs 11 (fun hg1 => ?_) fun hg1 => ?_
 refine go ?_
 refine wc_cond_t rfl (go ?_)
 refine P1 results91 ?_
 exact ⟨_, rfl, bool_f (by unfold NewMay; omega), hp.chg⟩
 refine go ?_
 refine Fd_ 52 fld38_13 rfl rfl (go ?_)
 refine Hl_ 0 sc35 rfl hp rfl rfl (go ?_)
 refine Ln_ underlying35 rfl (go ?_)
 refine Gt_ rfl rfl (go ?_)
 refine Gs 17 (fun hg2 => ?_) fun hg2 => ?_
 refine go ?_
 refine wc_cond_t rfl (go ?_)
 refine P1 results91 ?_
 exact ⟨_, rfl, bool_f (by unfold NewMay; omega), hp.chg⟩
 refine go ?_
 refine Fd_ 4 fld38_4 rfl rfl (go ?_)
 refine Hl_ 0 sc3 rfl hp rfl rfl (go ?_)
 refine Ls_ rfl rfl (go ?_)
 refine Cd (fun hc3 => ?_) fun hc3 => ?_
 refine go ?_
 refine P1 results91 ?_
 exact ⟨_, rfl, bool_f (by unfold NewMay; omega), hp.chg⟩
 refine go ?_
 refine wc_loop (fun L' w' mes => ∃ (k : Nat), L' = [(1, pt gs1 0), (3, iv (k : Int))] ∧ (k ≤ n.changes.length) ∧ (∀ i, i < k → ChAt n.changes n.view i) ∧ (1 ≤ n.changes.length ∧ n.changes.length ≤ 7 ∧ n.picks.length ≤ 8 ∧ 1 ≤ n.view) ∧ (GS wishR (fun b => b < w.heap.size) w' An0 cn0 n.batch) ∧ (GS byteR (fun b => b < w.heap.size) w' An1 cn1 n.ans.data) ∧ (GS intR (fun b => b < w.heap.size) w' An2 cn2 n.ans.nodes) ∧ (GS markR (fun b => b < w.heap.size) w' An3 cn3 n.change.marks) ∧ (GS standR (fun b => b < w.heap.size) w' An4 cn4 n.change.p) ∧ (GS standR (fun b => b < w.heap.size) w' An5 cn5 n.change.q) ∧ (GS changeR (fun b => b < w.heap.size) w' An6 cn6 n.changes) ∧ (GS pickR (fun b => b < w.heap.size) w' An7 cn7 n.picks) ∧ (GS digR (fun b => b < w.heap.size) w' An8 cn8 n.digs) ∧ (GS byteR (fun b => b < w.heap.size) w' An9 cn9 n.data) ∧ (GS intR (fun b => b < w.heap.size) w' An10 cn10 n.nodes) ∧ (HP w (fun _ => False) (fun b => b < w.heap.size) w' (itB gs1 38 ([iv n.kind, iv n.from_, iv n.group, iv n.epoch, iv n.view, iv n.seq] ++ (digC n.dig ++ ([.slice An0 n.batch.length cn0, iv n.ans.err, .slice An1 n.ans.data.length cn1, iv n.ans.epoch, .slice An2 n.ans.nodes.length cn2, iv n.stamp, iv n.node, iv n.change.node, iv n.change.view, iv n.change.low, .slice An3 n.change.marks.length cn3, .slice An4 n.change.p.length cn4, .slice An5 n.change.q.length cn5, .slice An6 n.changes.length cn6, .slice An7 n.picks.length cn7, iv n.level, iv n.place, .slice An8 n.digs.length cn8, .slice An9 n.data.length cn9, .slice An10 n.nodes.length cn10]))) :: [])) ∧ n.changes.length - k = mes) [(1, pt gs1 0), (3, iv (0 : Int))] (n.changes.length - 0) (by
     refine ⟨0, rfl, ?_, ?_, ?_, ?_, ?_, ?_, ?_, ?_, ?_, ?_, ?_, ?_, ?_, ?_, ?_, rfl⟩
     · omega
     · intro i hi; omega
     · omega
     · exact (hn0.ext q0)
     · exact (hn1.ext q0)
     · exact (hn2.ext q0)
     · exact (hn3.ext q0)
     · exact (hn4.ext q0)
     · exact (hn5.ext q0)
     · exact (hn6.ext q0)
     · exact (hn7.ext q0)
     · exact (hn8.ext q0)
     · exact (hn9.ext q0)
     · exact (hn10.ext q0)
     · exact hp) ⟨rfl, rfl, trivial⟩ ?_
 rintro _ wr _ ⟨k, rfl, hk, hcs, hpre, hn0, hn1, hn2, hn3, hn4, hn5, hn6, hn7, hn8, hn9, hn10, hp, rfl⟩ KL1 hKL1
 refine go ?_
 refine Fd_ 51 fld38_12 rfl rfl ?_
 refine Hl_ 0 sc34 rfl hp rfl rfl ?_
 refine Ln_ underlying34 rfl ?_
 refine Ls_ rfl rfl (go ?_)
 refine Cd (fun hc4 => ?_) fun hc4 => ?_
 refine go ?_
 by_cases hs5 : ChangeMay (n.changes.getD k change0)
 by_cases hs6 : (n.changes.getD k change0).view ≠ n.view
 obtain ⟨aw3, pw3_0, qw3_0, pw3_1, qw3_1, pw3_2, qw3_2, hAw3, hatw3, hIw3, hw3_0, hw3_1, hw3_2⟩ := changeR_el hn6 k (by omega)
 obtain ⟨aw11, pw11_0, qw11_0, pw11_1, qw11_1, pw11_2, qw11_2, hAw11, hatw11, hIw11, hw11_0, hw11_1, hw11_2⟩ := changeR_el hn6 k (by omega)
 apply wdL [SP.eq _, SP.eq _, SP.eq _, SP.eq _, SP.eq _, SP.eq (.bool true), SP.eq (.bool false), SP.eq (.bool false), SP.eq _, SP.eq _, SP.eq _, SP.eq _, SP.eq _, SP.eq _, SP.eq _, SP.eq _, SP.eq (.bool true), SP.eq (.bool true), SP.eq (.bool true), SP.eq undef, SP.eq undef, SP.eq undef, SP.eq undef, SP.eq undef, SP.eq undef, SP.eq undef, SP.eq undef, SP.eq undef, SP.eq undef, SP.eq undef, SP.eq undef, SP.eq undef, SP.eq undef, SP.eq undef, SP.eq undef, SP.eq undef, SP.eq undef, SP.eq (.bool true)]
 refine ⟨?_,?_,?_,?_,?_,?_,?_,?_,?_,?_,?_,?_,?_,?_,?_,?_,?_,?_,?_,?_,?_,?_,?_,?_,?_,?_,?_,?_,?_,?_,?_,?_,?_,?_,?_,?_,?_,?_,trivial⟩<;>intro F wF hER hk
 exact Fd_ 51 fld38_12 (hk.pi 1) rfl qz
 exact Hl_ 0 sc34 (hk.pe 0) (hp.ext hER) rfl rfl qz
 exact dm (hk.pi 3)
 have e30:=hk.pe 1
 have e31:=hk.pe 2
 exact wl_idx0 (by decide) sl34 e30 e31 hAw3 k rfl (by omega) qz
 exact wl_loadA (by decide) ag33 (hk.pe 3) (hatw3.ext hER).at_ rfl qz
 have e33:=hk.pe 4
 have hcl:=rChangeMay_ok ⟨hIw3, _, _, _, _, _, _, rfl, (hw3_0.ext hER), (hw3_1.ext hER), (hw3_2.ext hER)⟩
 refine Cl_ cl58 (by simp only [evs, ev, e33]; first | done | rfl) hcl ?_
 clear hcl
 rintro _ w7 ⟨rfl, hE7⟩
 refine wl_re (k := 34) (v := .bool true) rfl (congrArg Value.bool (decide_eq_true (by first | exact hs5 | omega | simpa using hs5))) ?_
 exact qy ⟨hE7, rfl⟩
 have e34:=hk.pe 5
 first | exact Nd_ e34 qz | exact Nn_ e34 qz
 exact dm (hk.pe 6)
 have e1:=hk.pi 1
 have e36:=hk.pe 7
 refine wl_gyes rfl e36 ?_
 exact Fd_ 51 fld38_12 e1 rfl qz
 have e37:=hk.pe 8
 have e36:=hk.pe 7
 refine wl_gyes rfl e36 ?_
 exact Hl_ 0 sc34 e37 (hp.ext hER) rfl rfl qz
 have e3:=hk.pi 3
 have e36:=hk.pe 7
 refine wl_gyes rfl e36 ?_
 exact Mv_ e3 qz
 have e38:=hk.pe 9
 have e39:=hk.pe 10
 have e36:=hk.pe 7
 refine wl_gyes rfl e36 ?_
 exact wl_idx0 (by decide) sl34 e38 e39 hAw11 k rfl (by omega) qz
 have e40:=hk.pe 11
 have e36:=hk.pe 7
 refine wl_gyes rfl e36 ?_
 exact Fe_ fld33_1 e40 qz
 have e41:=hk.pe 12
 have e36:=hk.pe 7
 refine wl_gyes rfl e36 ?_
 exact Ld_ sc3 e41 ((hatw11.ext hER).get rfl) qz
 have e1:=hk.pi 1
 have e36:=hk.pe 7
 refine wl_gyes rfl e36 ?_
 exact Fd_ 4 fld38_4 e1 rfl qz
 have e43:=hk.pe 14
 have e36:=hk.pe 7
 refine wl_gyes rfl e36 ?_
 exact Hl_ 0 sc3 e43 (hp.ext hER) rfl rfl qz
 have e42:=hk.pe 13
 have e44:=hk.pe 15
 have e36:=hk.pe 7
 refine wl_gyes rfl e36 ?_
 refine Ne_ e42 e44 ?_
 exact wl_re (k := 45) (v := .bool true) rfl (congrArg Value.bool (decide_eq_true (by first | exact hs6 | omega | simpa using hs6))) qy
 have e36:=hk.pe 7
 have e45:=hk.pe 16
 exact Pk_ e36 e45 qz
 exact dm (hk.pe 17)
 exact dn (hk.pe 18)
 exact dn (hk.pe 18)
 exact dn (hk.pe 18)
 exact dn (hk.pe 21)
 exact dn (hk.pe 21)
 exact dn (hk.pe 21)
 exact dn (hk.pe 21)
 exact dn (hk.pe 21)
 exact dn (hk.pe 21)
 exact dn (hk.pe 21)
 exact dn (hk.pe 21)
 exact dn (hk.pe 21)
 exact dn (hk.pe 21)
 exact dn (hk.pe 21)
 exact dn (hk.pe 21)
 exact dn (hk.pe 21)
 exact dn (hk.pe 21)
 exact dn (hk.pe 18)
 have e47:=hk.pe 18
 have e65:=hk.pe 36
 exact Pk_ e47 rfl qz
 intro F wD hED hini hdo
 refine wk_drop [(1, _), (3, _), (66, _)] ⟨di hini 1, di hini 3, dq hdo 37, trivial⟩ ?_
 clear hini hdo
 replace hp:=hp.ext hED
 refine go ?_
 refine wc_cond_t rfl (go ?_)
 refine P1 results91 ?_
 exact ⟨_, rfl, bool_f (fun h => by have := h.2.2.2.2.1 k (by omega); unfold ChAt at this; first | omega | simp_all | (simp_all; omega)), hp.chg⟩
 by_cases hs7 : (k : Int) > 0
 obtain ⟨aw3, pw3_0, qw3_0, pw3_1, qw3_1, pw3_2, qw3_2, hAw3, hatw3, hIw3, hw3_0, hw3_1, hw3_2⟩ := changeR_el hn6 k (by omega)
 obtain ⟨aw11, pw11_0, qw11_0, pw11_1, qw11_1, pw11_2, qw11_2, hAw11, hatw11, hIw11, hw11_0, hw11_1, hw11_2⟩ := changeR_el hn6 k (by omega)
 obtain ⟨aw25, pw25_0, qw25_0, pw25_1, qw25_1, pw25_2, qw25_2, hAw25, hatw25, hIw25, hw25_0, hw25_1, hw25_2⟩ := changeR_el hn6 k (by omega)
 obtain ⟨aw32, pw32_0, qw32_0, pw32_1, qw32_1, pw32_2, qw32_2, hAw32, hatw32, hIw32, hw32_0, hw32_1, hw32_2⟩ := changeR_el hn6 (k - 1) (by omega)
 apply wdL [SP.eq _, SP.eq _, SP.eq _, SP.eq _, SP.eq _, SP.eq (.bool true), SP.eq (.bool false), SP.eq (.bool false), SP.eq _, SP.eq _, SP.eq _, SP.eq _, SP.eq _, SP.eq _, SP.eq _, SP.eq _, SP.eq (.bool false), SP.eq (.bool false), SP.eq (.bool false), SP.eq _, SP.eq (.bool true), SP.eq (.bool true), SP.eq _, SP.eq _, SP.eq _, SP.eq _, SP.eq _, SP.eq _, SP.eq _, SP.eq _, SP.eq _, SP.eq _, SP.eq _, SP.eq _, SP.eq _, SP.eq _, SP.eq _, SP.eq _]
 refine ⟨?_,?_,?_,?_,?_,?_,?_,?_,?_,?_,?_,?_,?_,?_,?_,?_,?_,?_,?_,?_,?_,?_,?_,?_,?_,?_,?_,?_,?_,?_,?_,?_,?_,?_,?_,?_,?_,?_,trivial⟩<;>intro F wF hER hk
 exact Fd_ 51 fld38_12 (hk.pi 1) rfl qz
 exact Hl_ 0 sc34 (hk.pe 0) (hp.ext hER) rfl rfl qz
 exact dm (hk.pi 3)
 have e30:=hk.pe 1
 have e31:=hk.pe 2
 exact wl_idx0 (by decide) sl34 e30 e31 hAw3 k rfl (by omega) qz
 exact wl_loadA (by decide) ag33 (hk.pe 3) (hatw3.ext hER).at_ rfl qz
 have e33:=hk.pe 4
 have hcl:=rChangeMay_ok ⟨hIw3, _, _, _, _, _, _, rfl, (hw3_0.ext hER), (hw3_1.ext hER), (hw3_2.ext hER)⟩
 refine Cl_ cl58 (by simp only [evs, ev, e33]; first | done | rfl) hcl ?_
 clear hcl
 rintro _ w7 ⟨rfl, hE7⟩
 refine wl_re (k := 34) (v := .bool true) rfl (congrArg Value.bool (decide_eq_true (by first | exact hs5 | omega | simpa using hs5))) ?_
 exact qy ⟨hE7, rfl⟩
 have e34:=hk.pe 5
 first | exact Nd_ e34 qz | exact Nn_ e34 qz
 exact dm (hk.pe 6)
 have e1:=hk.pi 1
 have e36:=hk.pe 7
 refine wl_gyes rfl e36 ?_
 exact Fd_ 51 fld38_12 e1 rfl qz
 have e37:=hk.pe 8
 have e36:=hk.pe 7
 refine wl_gyes rfl e36 ?_
 exact Hl_ 0 sc34 e37 (hp.ext hER) rfl rfl qz
 have e3:=hk.pi 3
 have e36:=hk.pe 7
 refine wl_gyes rfl e36 ?_
 exact Mv_ e3 qz
 have e38:=hk.pe 9
 have e39:=hk.pe 10
 have e36:=hk.pe 7
 refine wl_gyes rfl e36 ?_
 exact wl_idx0 (by decide) sl34 e38 e39 hAw11 k rfl (by omega) qz
 have e40:=hk.pe 11
 have e36:=hk.pe 7
 refine wl_gyes rfl e36 ?_
 exact Fe_ fld33_1 e40 qz
 have e41:=hk.pe 12
 have e36:=hk.pe 7
 refine wl_gyes rfl e36 ?_
 exact Ld_ sc3 e41 ((hatw11.ext hER).get rfl) qz
 have e1:=hk.pi 1
 have e36:=hk.pe 7
 refine wl_gyes rfl e36 ?_
 exact Fd_ 4 fld38_4 e1 rfl qz
 have e43:=hk.pe 14
 have e36:=hk.pe 7
 refine wl_gyes rfl e36 ?_
 exact Hl_ 0 sc3 e43 (hp.ext hER) rfl rfl qz
 have e42:=hk.pe 13
 have e44:=hk.pe 15
 have e36:=hk.pe 7
 refine wl_gyes rfl e36 ?_
 refine Ne_ e42 e44 ?_
 exact wl_re (k := 45) (v := .bool false) rfl (congrArg Value.bool (decide_eq_false (by first | exact hs6 | omega | simpa using hs6))) qy
 have e36:=hk.pe 7
 have e45:=hk.pe 16
 exact Pk_ e36 e45 qz
 exact dm (hk.pe 17)
 have e3:=hk.pi 3
 have e47:=hk.pe 18
 refine wl_gyes rfl e47 ?_
 exact Mv_ e3 qz
 have e48:=hk.pe 19
 have e47:=hk.pe 18
 refine wl_gyes rfl e47 ?_
 refine Gt_ e48 rfl ?_
 exact wl_re (k := 49) (v := .bool true) rfl (congrArg Value.bool (decide_eq_true (by first | exact hs7 | omega | simpa using hs7))) qy
 have e49:=hk.pe 20
 have e47:=hk.pe 18
 refine wl_gyes rfl e47 ?_
 exact Mv_ e49 qz
 have e1:=hk.pi 1
 have e50:=hk.pe 21
 refine wl_gyes rfl e50 ?_
 exact Fd_ 51 fld38_12 e1 rfl qz
 have e51:=hk.pe 22
 have e50:=hk.pe 21
 refine wl_gyes rfl e50 ?_
 exact Hl_ 0 sc34 e51 (hp.ext hER) rfl rfl qz
 have e3:=hk.pi 3
 have e50:=hk.pe 21
 refine wl_gyes rfl e50 ?_
 exact Mv_ e3 qz
 have e52:=hk.pe 23
 have e53:=hk.pe 24
 have e50:=hk.pe 21
 refine wl_gyes rfl e50 ?_
 exact wl_idx0 (by decide) sl34 e52 e53 hAw25 k rfl (by omega) qz
 have e54:=hk.pe 25
 have e50:=hk.pe 21
 refine wl_gyes rfl e50 ?_
 exact Fe_ fld33_0 e54 qz
 have e55:=hk.pe 26
 have e50:=hk.pe 21
 refine wl_gyes rfl e50 ?_
 exact Ld_ sc3 e55 ((hatw25.ext hER).get rfl) qz
 have e1:=hk.pi 1
 have e50:=hk.pe 21
 refine wl_gyes rfl e50 ?_
 exact Fd_ 51 fld38_12 e1 rfl qz
 have e57:=hk.pe 28
 have e50:=hk.pe 21
 refine wl_gyes rfl e50 ?_
 exact Hl_ 0 sc34 e57 (hp.ext hER) rfl rfl qz
 have e3:=hk.pi 3
 have e50:=hk.pe 21
 refine wl_gyes rfl e50 ?_
 exact Mv_ e3 qz
 have e59:=hk.pe 30
 have e50:=hk.pe 21
 refine wl_gyes rfl e50 ?_
 exact wl_sub (by decide) e59 rfl (w64 (by omega) (by omega)) qz
 have e58:=hk.pe 29
 have e60:=hk.pe 31
 have e50:=hk.pe 21
 refine wl_gyes rfl e50 ?_
 exact wl_idx0 (by decide) sl34 e58 e60 hAw32 (k - 1) (by omega) (by omega) qz
 have e61:=hk.pe 32
 have e50:=hk.pe 21
 refine wl_gyes rfl e50 ?_
 exact Fe_ fld33_0 e61 qz
 have e62:=hk.pe 33
 have e50:=hk.pe 21
 refine wl_gyes rfl e50 ?_
 exact Ld_ sc3 e62 ((hatw32.ext hER).get rfl) qz
 have e56:=hk.pe 27
 have e63:=hk.pe 34
 have e50:=hk.pe 21
 refine wl_gyes rfl e50 ?_
 exact Lq_ e56 e63 qz
 have e50:=hk.pe 21
 have e64:=hk.pe 35
 have e47:=hk.pe 18
 refine wl_gyes rfl e47 ?_
 exact Pk_ e50 e64 qz
 have e47:=hk.pe 18
 have e65:=hk.pe 36
 exact Pk_ e47 e65 qz
 intro F wD hED hini hdo
 refine wk_drop [(1, _), (3, _), (66, _)] ⟨di hini 1, di hini 3, dq hdo 37, trivial⟩ ?_
 clear hini hdo
 have q1:=hED
 replace hp:=hp.ext hED
 refine go ?_
 refine Cd (fun hc8 => ?_) fun hc8 => ?_
 refine go ?_
 refine P1 results91 ?_
 exact ⟨_, rfl, bool_f (fun h => by have := h.2.2.2.2.1 k (by omega); unfold ChAt at this; first | omega | simp_all | (simp_all; omega)), hp.chg⟩
 refine go ?_
 refine wl_add (by decide) rfl rfl (w64 (by omega) (by omega)) (gl ?_)
 refine wk_drop [(1, pt gs1 0), (3, iv ((k + 1) : Int))] ⟨rfl, rfl, trivial⟩ (hKL1 _ _ (m2 := n.changes.length - (k + 1)) ?_ ?_)
 refine ⟨(k + 1), rfl, ?_, ?_, ?_, ?_, ?_, ?_, ?_, ?_, ?_, ?_, ?_, ?_, ?_, ?_, ?_, rfl⟩
 omega
 refine upto hcs ⟨by simp_all, by omega, fun _ => by omega⟩
 exact hpre
 exact (hn0.ext q1)
 exact (hn1.ext q1)
 exact (hn2.ext q1)
 exact (hn3.ext q1)
 exact (hn4.ext q1)
 exact (hn5.ext q1)
 exact (hn6.ext q1)
 exact (hn7.ext q1)
 exact (hn8.ext q1)
 exact (hn9.ext q1)
 exact (hn10.ext q1)
 exact hp
 omega
 obtain ⟨aw3, pw3_0, qw3_0, pw3_1, qw3_1, pw3_2, qw3_2, hAw3, hatw3, hIw3, hw3_0, hw3_1, hw3_2⟩ := changeR_el hn6 k (by omega)
 obtain ⟨aw11, pw11_0, qw11_0, pw11_1, qw11_1, pw11_2, qw11_2, hAw11, hatw11, hIw11, hw11_0, hw11_1, hw11_2⟩ := changeR_el hn6 k (by omega)
 apply wdL [SP.eq _, SP.eq _, SP.eq _, SP.eq _, SP.eq _, SP.eq (.bool true), SP.eq (.bool false), SP.eq (.bool false), SP.eq _, SP.eq _, SP.eq _, SP.eq _, SP.eq _, SP.eq _, SP.eq _, SP.eq _, SP.eq (.bool false), SP.eq (.bool false), SP.eq (.bool false), SP.eq _, SP.eq (.bool false), SP.eq (.bool false), SP.eq undef, SP.eq undef, SP.eq undef, SP.eq undef, SP.eq undef, SP.eq undef, SP.eq undef, SP.eq undef, SP.eq undef, SP.eq undef, SP.eq undef, SP.eq undef, SP.eq undef, SP.eq undef, SP.eq (.bool false), SP.eq (.bool false)]
 refine ⟨?_,?_,?_,?_,?_,?_,?_,?_,?_,?_,?_,?_,?_,?_,?_,?_,?_,?_,?_,?_,?_,?_,?_,?_,?_,?_,?_,?_,?_,?_,?_,?_,?_,?_,?_,?_,?_,?_,trivial⟩<;>intro F wF hER hk
 exact Fd_ 51 fld38_12 (hk.pi 1) rfl qz
 exact Hl_ 0 sc34 (hk.pe 0) (hp.ext hER) rfl rfl qz
 exact dm (hk.pi 3)
 have e30:=hk.pe 1
 have e31:=hk.pe 2
 exact wl_idx0 (by decide) sl34 e30 e31 hAw3 k rfl (by omega) qz
 exact wl_loadA (by decide) ag33 (hk.pe 3) (hatw3.ext hER).at_ rfl qz
 have e33:=hk.pe 4
 have hcl:=rChangeMay_ok ⟨hIw3, _, _, _, _, _, _, rfl, (hw3_0.ext hER), (hw3_1.ext hER), (hw3_2.ext hER)⟩
 refine Cl_ cl58 (by simp only [evs, ev, e33]; first | done | rfl) hcl ?_
 clear hcl
 rintro _ w7 ⟨rfl, hE7⟩
 refine wl_re (k := 34) (v := .bool true) rfl (congrArg Value.bool (decide_eq_true (by first | exact hs5 | omega | simpa using hs5))) ?_
 exact qy ⟨hE7, rfl⟩
 have e34:=hk.pe 5
 first | exact Nd_ e34 qz | exact Nn_ e34 qz
 exact dm (hk.pe 6)
 have e1:=hk.pi 1
 have e36:=hk.pe 7
 refine wl_gyes rfl e36 ?_
 exact Fd_ 51 fld38_12 e1 rfl qz
 have e37:=hk.pe 8
 have e36:=hk.pe 7
 refine wl_gyes rfl e36 ?_
 exact Hl_ 0 sc34 e37 (hp.ext hER) rfl rfl qz
 have e3:=hk.pi 3
 have e36:=hk.pe 7
 refine wl_gyes rfl e36 ?_
 exact Mv_ e3 qz
 have e38:=hk.pe 9
 have e39:=hk.pe 10
 have e36:=hk.pe 7
 refine wl_gyes rfl e36 ?_
 exact wl_idx0 (by decide) sl34 e38 e39 hAw11 k rfl (by omega) qz
 have e40:=hk.pe 11
 have e36:=hk.pe 7
 refine wl_gyes rfl e36 ?_
 exact Fe_ fld33_1 e40 qz
 have e41:=hk.pe 12
 have e36:=hk.pe 7
 refine wl_gyes rfl e36 ?_
 exact Ld_ sc3 e41 ((hatw11.ext hER).get rfl) qz
 have e1:=hk.pi 1
 have e36:=hk.pe 7
 refine wl_gyes rfl e36 ?_
 exact Fd_ 4 fld38_4 e1 rfl qz
 have e43:=hk.pe 14
 have e36:=hk.pe 7
 refine wl_gyes rfl e36 ?_
 exact Hl_ 0 sc3 e43 (hp.ext hER) rfl rfl qz
 have e42:=hk.pe 13
 have e44:=hk.pe 15
 have e36:=hk.pe 7
 refine wl_gyes rfl e36 ?_
 refine Ne_ e42 e44 ?_
 exact wl_re (k := 45) (v := .bool false) rfl (congrArg Value.bool (decide_eq_false (by first | exact hs6 | omega | simpa using hs6))) qy
 have e36:=hk.pe 7
 have e45:=hk.pe 16
 exact Pk_ e36 e45 qz
 exact dm (hk.pe 17)
 have e3:=hk.pi 3
 have e47:=hk.pe 18
 refine wl_gyes rfl e47 ?_
 exact Mv_ e3 qz
 have e48:=hk.pe 19
 have e47:=hk.pe 18
 refine wl_gyes rfl e47 ?_
 refine Gt_ e48 rfl ?_
 exact wl_re (k := 49) (v := .bool false) rfl (congrArg Value.bool (decide_eq_false (by first | exact hs7 | omega | simpa using hs7))) qy
 have e49:=hk.pe 20
 have e47:=hk.pe 18
 refine wl_gyes rfl e47 ?_
 exact Mv_ e49 qz
 exact dn (hk.pe 21)
 exact dn (hk.pe 21)
 exact dn (hk.pe 21)
 exact dn (hk.pe 21)
 exact dn (hk.pe 21)
 exact dn (hk.pe 21)
 exact dn (hk.pe 21)
 exact dn (hk.pe 21)
 exact dn (hk.pe 21)
 exact dn (hk.pe 21)
 exact dn (hk.pe 21)
 exact dn (hk.pe 21)
 exact dn (hk.pe 21)
 exact dn (hk.pe 21)
 have e50:=hk.pe 21
 have e64:=hk.pe 35
 have e47:=hk.pe 18
 refine wl_gyes rfl e47 ?_
 exact Pk_ e50 rfl qz
 have e47:=hk.pe 18
 have e65:=hk.pe 36
 exact Pk_ e47 e65 qz
 intro F wD hED hini hdo
 refine wk_drop [(1, _), (3, _), (66, _)] ⟨di hini 1, di hini 3, dq hdo 37, trivial⟩ ?_
 clear hini hdo
 have q2:=hED
 replace hp:=hp.ext hED
 refine go ?_
 refine wc_cond_f rfl ?_
 refine go ?_
 refine wl_add (by decide) rfl rfl (w64 (by omega) (by omega)) (gl ?_)
 refine wk_drop [(1, pt gs1 0), (3, iv ((k + 1) : Int))] ⟨rfl, rfl, trivial⟩ (hKL1 _ _ (m2 := n.changes.length - (k + 1)) ?_ ?_)
 refine ⟨(k + 1), rfl, ?_, ?_, ?_, ?_, ?_, ?_, ?_, ?_, ?_, ?_, ?_, ?_, ?_, ?_, ?_, rfl⟩
 omega
 refine upto hcs ⟨by simp_all, by omega, fun _ => by omega⟩
 exact hpre
 exact (hn0.ext q2)
 exact (hn1.ext q2)
 exact (hn2.ext q2)
 exact (hn3.ext q2)
 exact (hn4.ext q2)
 exact (hn5.ext q2)
 exact (hn6.ext q2)
 exact (hn7.ext q2)
 exact (hn8.ext q2)
 exact (hn9.ext q2)
 exact (hn10.ext q2)
 exact hp
 omega
 obtain ⟨aw3, pw3_0, qw3_0, pw3_1, qw3_1, pw3_2, qw3_2, hAw3, hatw3, hIw3, hw3_0, hw3_1, hw3_2⟩ := changeR_el hn6 k (by omega)
 apply wdL [SP.eq _, SP.eq _, SP.eq _, SP.eq _, SP.eq _, SP.eq (.bool false), SP.eq (.bool true), SP.eq (.bool true), SP.eq undef, SP.eq undef, SP.eq undef, SP.eq undef, SP.eq undef, SP.eq undef, SP.eq undef, SP.eq undef, SP.eq undef, SP.eq (.bool true), SP.eq (.bool true), SP.eq undef, SP.eq undef, SP.eq undef, SP.eq undef, SP.eq undef, SP.eq undef, SP.eq undef, SP.eq undef, SP.eq undef, SP.eq undef, SP.eq undef, SP.eq undef, SP.eq undef, SP.eq undef, SP.eq undef, SP.eq undef, SP.eq undef, SP.eq undef, SP.eq (.bool true)]
 refine ⟨?_,?_,?_,?_,?_,?_,?_,?_,?_,?_,?_,?_,?_,?_,?_,?_,?_,?_,?_,?_,?_,?_,?_,?_,?_,?_,?_,?_,?_,?_,?_,?_,?_,?_,?_,?_,?_,?_,trivial⟩<;>intro F wF hER hk
 exact Fd_ 51 fld38_12 (hk.pi 1) rfl qz
 exact Hl_ 0 sc34 (hk.pe 0) (hp.ext hER) rfl rfl qz
 exact dm (hk.pi 3)
 have e30:=hk.pe 1
 have e31:=hk.pe 2
 exact wl_idx0 (by decide) sl34 e30 e31 hAw3 k rfl (by omega) qz
 exact wl_loadA (by decide) ag33 (hk.pe 3) (hatw3.ext hER).at_ rfl qz
 have e33:=hk.pe 4
 have hcl:=rChangeMay_ok ⟨hIw3, _, _, _, _, _, _, rfl, (hw3_0.ext hER), (hw3_1.ext hER), (hw3_2.ext hER)⟩
 refine Cl_ cl58 (by simp only [evs, ev, e33]; first | done | rfl) hcl ?_
 clear hcl
 rintro _ w7 ⟨rfl, hE7⟩
 refine wl_re (k := 34) (v := .bool false) rfl (congrArg Value.bool (decide_eq_false (by first | exact hs5 | omega | simpa using hs5))) ?_
 exact qy ⟨hE7, rfl⟩
 have e34:=hk.pe 5
 first | exact Nd_ e34 qz | exact Nn_ e34 qz
 exact dm (hk.pe 6)
 exact dn (hk.pe 7)
 exact dn (hk.pe 7)
 exact dn (hk.pe 7)
 exact dn (hk.pe 7)
 exact dn (hk.pe 7)
 exact dn (hk.pe 7)
 exact dn (hk.pe 7)
 exact dn (hk.pe 7)
 exact dn (hk.pe 7)
 have e36:=hk.pe 7
 have e45:=hk.pe 16
 exact Pk_ e36 rfl qz
 exact dm (hk.pe 17)
 exact dn (hk.pe 18)
 exact dn (hk.pe 18)
 exact dn (hk.pe 18)
 exact dn (hk.pe 21)
 exact dn (hk.pe 21)
 exact dn (hk.pe 21)
 exact dn (hk.pe 21)
 exact dn (hk.pe 21)
 exact dn (hk.pe 21)
 exact dn (hk.pe 21)
 exact dn (hk.pe 21)
 exact dn (hk.pe 21)
 exact dn (hk.pe 21)
 exact dn (hk.pe 21)
 exact dn (hk.pe 21)
 exact dn (hk.pe 21)
 exact dn (hk.pe 21)
 exact dn (hk.pe 18)
 have e47:=hk.pe 18
 have e65:=hk.pe 36
 exact Pk_ e47 rfl qz
 intro F wD hED hini hdo
 refine wk_drop [(1, _), (3, _), (66, _)] ⟨di hini 1, di hini 3, dq hdo 37, trivial⟩ ?_
 clear hini hdo
 replace hp:=hp.ext hED
 refine go ?_
 refine wc_cond_t rfl (go ?_)
 refine P1 results91 ?_
 exact ⟨_, rfl, bool_f (fun h => by have := h.2.2.2.2.1 k (by omega); unfold ChAt at this; first | omega | simp_all | (simp_all; omega)), hp.chg⟩
 refine go ?_
 refine wc_loop (fun L' w' mes => ∃ (k : Nat), L' = [(1, pt gs1 0), (4, iv (k : Int))] ∧ (k ≤ n.picks.length) ∧ (∀ i, i < k → PkAt n.picks n.group n.epoch i) ∧ (GS wishR (fun b => b < w.heap.size) w' An0 cn0 n.batch) ∧ (GS byteR (fun b => b < w.heap.size) w' An1 cn1 n.ans.data) ∧ (GS intR (fun b => b < w.heap.size) w' An2 cn2 n.ans.nodes) ∧ (GS markR (fun b => b < w.heap.size) w' An3 cn3 n.change.marks) ∧ (GS standR (fun b => b < w.heap.size) w' An4 cn4 n.change.p) ∧ (GS standR (fun b => b < w.heap.size) w' An5 cn5 n.change.q) ∧ (GS changeR (fun b => b < w.heap.size) w' An6 cn6 n.changes) ∧ (GS pickR (fun b => b < w.heap.size) w' An7 cn7 n.picks) ∧ (GS digR (fun b => b < w.heap.size) w' An8 cn8 n.digs) ∧ (GS byteR (fun b => b < w.heap.size) w' An9 cn9 n.data) ∧ (GS intR (fun b => b < w.heap.size) w' An10 cn10 n.nodes) ∧ (HP w (fun _ => False) (fun b => b < w.heap.size) w' (itB gs1 38 ([iv n.kind, iv n.from_, iv n.group, iv n.epoch, iv n.view, iv n.seq] ++ (digC n.dig ++ ([.slice An0 n.batch.length cn0, iv n.ans.err, .slice An1 n.ans.data.length cn1, iv n.ans.epoch, .slice An2 n.ans.nodes.length cn2, iv n.stamp, iv n.node, iv n.change.node, iv n.change.view, iv n.change.low, .slice An3 n.change.marks.length cn3, .slice An4 n.change.p.length cn4, .slice An5 n.change.q.length cn5, .slice An6 n.changes.length cn6, .slice An7 n.picks.length cn7, iv n.level, iv n.place, .slice An8 n.digs.length cn8, .slice An9 n.data.length cn9, .slice An10 n.nodes.length cn10]))) :: [])) ∧ n.picks.length - k = mes) [(1, pt gs1 0), (4, iv (0 : Int))] (n.picks.length - 0) (by
     refine ⟨0, rfl, ?_, ?_, ?_, ?_, ?_, ?_, ?_, ?_, ?_, ?_, ?_, ?_, ?_, ?_, rfl⟩
     · omega
     · intro i hi; omega
     · exact hn0
     · exact hn1
     · exact hn2
     · exact hn3
     · exact hn4
     · exact hn5
     · exact hn6
     · exact hn7
     · exact hn8
     · exact hn9
     · exact hn10
     · exact hp) ⟨rfl, rfl, trivial⟩ ?_
 rintro _ wp _ ⟨k, rfl, hk, hps, hn0, hn1, hn2, hn3, hn4, hn5, hn6, hn7, hn8, hn9, hn10, hp, rfl⟩ KL2 hKL2
 refine go ?_
 refine Fd_ 52 fld38_13 rfl rfl ?_
 refine Hl_ 0 sc35 rfl hp rfl rfl ?_
 refine Ln_ underlying35 rfl ?_
 refine Ls_ rfl rfl (go ?_)
 refine Cd (fun hc9 => ?_) fun hc9 => ?_
 refine go ?_
 refine Fd_ 52 fld38_13 rfl rfl ?_
 refine Hl_ 0 sc35 rfl hp rfl rfl (go ?_)
 obtain ⟨ae3, pe3_0, qe3_0, hAe3, hate3, hIe3, he3_0⟩ := pickR_el hn7 k (by omega)
 refine wl_idx0 (by decide) sl35 rfl rfl hAe3 k rfl (by omega) ?_
 refine wl_loadA (by decide) ag66 rfl hate3.at_ rfl ?_
 refine wl_halloc (e := 66) (z := .agg #[iv 0, .int .u8 0, .int .u8 0, .int .u8 0, .int .u8 0, .int .u8 0, .int .u8 0, .int .u8 0, .int .u8 0, .int .u8 0, .int .u8 0, .int .u8 0, .int .u8 0, .int .u8 0, .int .u8 0, .int .u8 0, .int .u8 0, .int .u8 0, .int .u8 0, .int .u8 0, .int .u8 0, .int .u8 0, .int .u8 0, .int .u8 0, .int .u8 0, .int .u8 0, .int .u8 0, .int .u8 0, .int .u8 0, .int .u8 0, .int .u8 0, .int .u8 0, .int .u8 0, s0]) (by decide) (by kernel_rfl) hp ?_
 rintro gs5 w4 hp4 hE4
 have q3:=hE4
 replace hp:=hp4
 refine wl_hstore (i := 0) rfl rfl hp rfl sz66 leB_ (List.all_eq_true.1 rfl) ?_
 rintro w5 hp5 hC5
 have q4:=hn0.tk.ext q3
 replace q4:=q4.fz hC5
 replace hp:=hp5
 refine go ?_
 by_cases hs10 : 1 ≤ ((n.picks.getD k pick0).seq) ∧ ((n.picks.getD k pick0).seq) ≤ 9007199254740991
 by_cases hs11 : (k : Int) > 0
 by_cases hs12 : ((n.picks.getD k pick0).seq - 1) ≠ (n.picks.getD (k - 1) pick0).seq
 obtain ⟨aw15, pw15_0, qw15_0, hAw15, hatw15, hIw15, hw15_0⟩ := pickR_el (hn7.fr q4) (k - 1) (by omega)
 apply wdL [SP.eq _, SP.eq _, SP.eq (.bool true), SP.eq (.bool false), SP.eq (.bool false), SP.eq _, SP.eq (.bool true), SP.eq (.bool true), SP.eq _, SP.eq _, SP.eq _, SP.eq _, SP.eq _, SP.eq _, SP.eq _, SP.eq _, SP.eq _, SP.eq _, SP.eq (.bool true), SP.eq (.bool true), SP.eq (.bool true), SP.eq (.bool true), SP.eq undef, SP.eq undef, SP.eq undef, SP.eq undef, SP.eq undef, SP.eq (.bool true), SP.eq (.bool true), SP.eq undef, SP.eq undef, SP.eq undef, SP.eq undef, SP.eq undef, SP.eq undef, SP.eq undef, SP.eq undef, SP.eq undef, SP.eq undef, SP.eq (.bool true)]
 refine ⟨?_,?_,?_,?_,?_,?_,?_,?_,?_,?_,?_,?_,?_,?_,?_,?_,?_,?_,?_,?_,?_,?_,?_,?_,?_,?_,?_,?_,?_,?_,?_,?_,?_,?_,?_,?_,?_,?_,?_,?_,trivial⟩<;>intro F wF hER hk
 exact Fd_ 0 fld66_0 (hk.pi 5) rfl qz
 exact Hl_ 0 sc3 (hk.pe 0) (hp.ext hER) rfl rfl qz
 have e80:=hk.pe 1
 refine Cl_ cl52 (by simp only [evs, ev, e80]; first | done | rfl) (r12_within) ?_
 rintro _ _ ⟨rfl, rfl⟩
 exact t0_rNewMay_ok
 have e81:=hk.pe 2
 first | exact Nd_ e81 qz | exact Nn_ e81 qz
 exact dm (hk.pe 3)
 have e4:=hk.pi 4
 have e83:=hk.pe 4
 refine wl_gyes rfl e83 ?_
 exact Mv_ e4 qz
 have e84:=hk.pe 5
 have e83:=hk.pe 4
 refine wl_gyes rfl e83 ?_
 refine Gt_ e84 rfl ?_
 exact t1_rNewMay_ok
 have e85:=hk.pe 6
 have e83:=hk.pe 4
 refine wl_gyes rfl e83 ?_
 exact Mv_ e85 qz
 have e5:=hk.pi 5
 have e86:=hk.pe 7
 refine wl_gyes rfl e86 ?_
 exact Fd_ 0 fld66_0 e5 rfl qz
 have e87:=hk.pe 8
 have e86:=hk.pe 7
 refine wl_gyes rfl e86 ?_
 exact Hl_ 0 sc3 e87 (hp.ext hER) rfl rfl qz
 have e88:=hk.pe 9
 have e86:=hk.pe 7
 refine wl_gyes rfl e86 ?_
 exact wl_sub (by decide) e88 rfl (w64 (by omega) (by omega)) qz
 have e1:=hk.pi 1
 have e86:=hk.pe 7
 refine wl_gyes rfl e86 ?_
 exact Fd_ 52 fld38_13 e1 rfl qz
 have e90:=hk.pe 11
 have e86:=hk.pe 7
 refine wl_gyes rfl e86 ?_
 exact Hl_ 1 sc35 e90 (hp.ext hER) rfl rfl qz
 have e4:=hk.pi 4
 have e86:=hk.pe 7
 refine wl_gyes rfl e86 ?_
 exact Mv_ e4 qz
 have e92:=hk.pe 13
 have e86:=hk.pe 7
 refine wl_gyes rfl e86 ?_
 exact wl_sub (by decide) e92 rfl (w64 (by omega) (by omega)) qz
 have e91:=hk.pe 12
 have e93:=hk.pe 14
 have e86:=hk.pe 7
 refine wl_gyes rfl e86 ?_
 exact wl_idx0 (by decide) sl35 e91 e93 hAw15 (k - 1) (by omega) (by omega) qz
 have e94:=hk.pe 15
 have e86:=hk.pe 7
 refine wl_gyes rfl e86 ?_
 exact Fe_ fld66_0 e94 qz
 have e95:=hk.pe 16
 have e86:=hk.pe 7
 refine wl_gyes rfl e86 ?_
 exact Ld_ sc3 e95 ((hatw15.ext hER).get rfl) qz
 have e89:=hk.pe 10
 have e96:=hk.pe 17
 have e86:=hk.pe 7
 refine wl_gyes rfl e86 ?_
 refine Ne_ e89 e96 ?_
 exact wl_re (k := 97) (v := .bool true) rfl (congrArg Value.bool (decide_eq_true (by first | exact hs12 | omega | simpa using hs12))) qy
 have e86:=hk.pe 7
 have e97:=hk.pe 18
 have e83:=hk.pe 4
 refine wl_gyes rfl e83 ?_
 exact Pk_ e86 e97 qz
 have e83:=hk.pe 4
 have e98:=hk.pe 19
 exact Pk_ e83 e98 qz
 exact dm (hk.pe 20)
 exact dn (hk.pe 21)
 exact dn (hk.pe 21)
 exact dn (hk.pe 21)
 exact dn (hk.pe 21)
 exact dn (hk.pe 21)
 have e100:=hk.pe 21
 have e105:=hk.pe 26
 exact Pk_ e100 rfl qz
 exact dm (hk.pe 27)
 exact dn (hk.pe 28)
 exact dn (hk.pe 28)
 exact dn (hk.pe 28)
 exact dn (hk.pe 28)
 exact dn (hk.pe 28)
 exact dn (hk.pe 33)
 exact dn (hk.pe 33)
 exact dn (hk.pe 33)
 exact dn (hk.pe 33)
 exact dn (hk.pe 28)
 have e107:=hk.pe 28
 have e117:=hk.pe 38
 exact Pk_ e107 rfl qz
 intro F wD hED hini hdo
 refine wk_drop [(1, _), (4, _), (118, _)] ⟨di hini 1, di hini 4, dq hdo 39, trivial⟩ ?_
 clear hini hdo
 replace hp:=hp.ext hED
 refine go ?_
 refine wc_cond_t rfl (go ?_)
 refine P1 results91 ?_
 exact ⟨_, rfl, bool_f (fun h => by have := h.2.2.2.2.2 k (by omega); unfold PkAt at this; first | omega | simp_all | (simp_all; omega)), hp.chg⟩
 by_cases hs13 : BatchMay ((n.picks.getD k pick0).batch) n.group n.epoch
 by_cases hs14 : (n.picks.getD k pick0).dig = dig0
 obtain ⟨aw15, pw15_0, qw15_0, hAw15, hatw15, hIw15, hw15_0⟩ := pickR_el (hn7.fr q4) (k - 1) (by omega)
 apply wdL [SP.eq _, SP.eq _, SP.eq (.bool true), SP.eq (.bool false), SP.eq (.bool false), SP.eq _, SP.eq (.bool true), SP.eq (.bool true), SP.eq _, SP.eq _, SP.eq _, SP.eq _, SP.eq _, SP.eq _, SP.eq _, SP.eq _, SP.eq _, SP.eq _, SP.eq (.bool false), SP.eq (.bool false), SP.eq (.bool false), SP.eq (.bool false), SP.eq _, SP.eq _, SP.eq _, SP.eq (.bool true), SP.eq (.bool false), SP.eq (.bool false), SP.eq (.bool false), SP.eq _, SP.eq _, SP.eq _, SP.eq (.bool true), SP.eq (.bool true), SP.eq _, SP.eq _, SP.eq _, SP.eq _, SP.eq _, SP.eq _]
 refine ⟨?_,?_,?_,?_,?_,?_,?_,?_,?_,?_,?_,?_,?_,?_,?_,?_,?_,?_,?_,?_,?_,?_,?_,?_,?_,?_,?_,?_,?_,?_,?_,?_,?_,?_,?_,?_,?_,?_,?_,?_,trivial⟩<;>intro F wF hER hk
 exact Fd_ 0 fld66_0 (hk.pi 5) rfl qz
 exact Hl_ 0 sc3 (hk.pe 0) (hp.ext hER) rfl rfl qz
 have e80:=hk.pe 1
 refine Cl_ cl52 (by simp only [evs, ev, e80]; first | done | rfl) (r12_within) ?_
 rintro _ _ ⟨rfl, rfl⟩
 exact t0_rNewMay_ok
 have e81:=hk.pe 2
 first | exact Nd_ e81 qz | exact Nn_ e81 qz
 exact dm (hk.pe 3)
 have e4:=hk.pi 4
 have e83:=hk.pe 4
 refine wl_gyes rfl e83 ?_
 exact Mv_ e4 qz
 have e84:=hk.pe 5
 have e83:=hk.pe 4
 refine wl_gyes rfl e83 ?_
 refine Gt_ e84 rfl ?_
 exact t1_rNewMay_ok
 have e85:=hk.pe 6
 have e83:=hk.pe 4
 refine wl_gyes rfl e83 ?_
 exact Mv_ e85 qz
 have e5:=hk.pi 5
 have e86:=hk.pe 7
 refine wl_gyes rfl e86 ?_
 exact Fd_ 0 fld66_0 e5 rfl qz
 have e87:=hk.pe 8
 have e86:=hk.pe 7
 refine wl_gyes rfl e86 ?_
 exact Hl_ 0 sc3 e87 (hp.ext hER) rfl rfl qz
 have e88:=hk.pe 9
 have e86:=hk.pe 7
 refine wl_gyes rfl e86 ?_
 exact wl_sub (by decide) e88 rfl (w64 (by omega) (by omega)) qz
 have e1:=hk.pi 1
 have e86:=hk.pe 7
 refine wl_gyes rfl e86 ?_
 exact Fd_ 52 fld38_13 e1 rfl qz
 have e90:=hk.pe 11
 have e86:=hk.pe 7
 refine wl_gyes rfl e86 ?_
 exact Hl_ 1 sc35 e90 (hp.ext hER) rfl rfl qz
 have e4:=hk.pi 4
 have e86:=hk.pe 7
 refine wl_gyes rfl e86 ?_
 exact Mv_ e4 qz
 have e92:=hk.pe 13
 have e86:=hk.pe 7
 refine wl_gyes rfl e86 ?_
 exact wl_sub (by decide) e92 rfl (w64 (by omega) (by omega)) qz
 have e91:=hk.pe 12
 have e93:=hk.pe 14
 have e86:=hk.pe 7
 refine wl_gyes rfl e86 ?_
 exact wl_idx0 (by decide) sl35 e91 e93 hAw15 (k - 1) (by omega) (by omega) qz
 have e94:=hk.pe 15
 have e86:=hk.pe 7
 refine wl_gyes rfl e86 ?_
 exact Fe_ fld66_0 e94 qz
 have e95:=hk.pe 16
 have e86:=hk.pe 7
 refine wl_gyes rfl e86 ?_
 exact Ld_ sc3 e95 ((hatw15.ext hER).get rfl) qz
 have e89:=hk.pe 10
 have e96:=hk.pe 17
 have e86:=hk.pe 7
 refine wl_gyes rfl e86 ?_
 refine Ne_ e89 e96 ?_
 exact wl_re (k := 97) (v := .bool false) rfl (congrArg Value.bool (decide_eq_false (by first | exact hs12 | omega | simpa using hs12))) qy
 have e86:=hk.pe 7
 have e97:=hk.pe 18
 have e83:=hk.pe 4
 refine wl_gyes rfl e83 ?_
 exact Pk_ e86 e97 qz
 have e83:=hk.pe 4
 have e98:=hk.pe 19
 exact Pk_ e83 e98 qz
 exact dm (hk.pe 20)
 have e5:=hk.pi 5
 have e100:=hk.pe 21
 refine wl_gyes rfl e100 ?_
 exact Fd_ 33 fld66_2 e5 rfl qz
 have e101:=hk.pe 22
 have e100:=hk.pe 21
 refine wl_gyes rfl e100 ?_
 exact Hl_ 0 sc24 e101 (hp.ext hER) rfl rfl qz
 have e1:=hk.pi 1
 have e100:=hk.pe 21
 refine wl_gyes rfl e100 ?_
 exact t2_rNewMay_ok
 have e102:=hk.pe 23
 have e103:=hk.pe 24
 have e100:=hk.pe 21
 refine wl_gyes rfl e100 ?_
 have hcl:=rBatchMay_ok ((he3_0.fr q4).ext hER) ⟨hIn, _, _, _, _, _, _, _, _, _, _, _, _, _, _, _, _, _, _, _, _, _, _, rfl, ((hn0.fr q4).ext hER), ((hn1.fr q4).ext hER), ((hn2.fr q4).ext hER), ((hn3.fr q4).ext hER), ((hn4.fr q4).ext hER), ((hn5.fr q4).ext hER), ((hn6.fr q4).ext hER), ((hn7.fr q4).ext hER), ((hn8.fr q4).ext hER), ((hn9.fr q4).ext hER), ((hn10.fr q4).ext hER)⟩
 refine Cl_ cl90 (by simp only [evs, ev, e102, e103]; first | done | rfl) hcl ?_
 clear hcl
 rintro _ w7 ⟨rfl, hE7⟩
 refine wl_re (k := 104) (v := .bool true) rfl (congrArg Value.bool (decide_eq_true (by first | exact hs13 | omega | simpa using hs13))) ?_
 exact qy ⟨hE7, rfl⟩
 have e104:=hk.pe 25
 have e100:=hk.pe 21
 refine wl_gyes rfl e100 ?_
 first | exact Nd_ e104 qz | exact Nn_ e104 qz
 have e100:=hk.pe 21
 have e105:=hk.pe 26
 exact Pk_ e100 e105 qz
 exact dm (hk.pe 27)
 have e5:=hk.pi 5
 have e107:=hk.pe 28
 refine wl_gyes rfl e107 ?_
 exact Fd_ 1 fld66_1 e5 rfl qz
 have e108:=hk.pe 29
 have e107:=hk.pe 28
 refine wl_gyes rfl e107 ?_
 exact Hx_ (digC ((n.picks.getD k pick0).dig)) 0 ag23 e108 (hp.ext hER) rfl rfl rfl qz
 have e107:=hk.pe 28
 refine wl_gyes rfl e107 ?_
 exact wl_builtS (cells := digC dig0) (ps := []) (by decide) bld23 (by simp only [evp]; first | done | rfl) rfl qz
 have e109:=hk.pe 30
 have e110:=hk.pe 31
 have e107:=hk.pe 28
 refine wl_gyes rfl e107 ?_
 refine wl_eqlK (m := 6) ((n.picks.getD k pick0).dig = dig0) (by decide) key23 eg23 e109 e110 (digC_fit _) (digC_fit _) digC_inj ?_
 exact wl_re (k := 111) (v := .bool true) rfl (congrArg Value.bool (decide_eq_true (by first | exact hs14 | omega | simpa using hs14))) qy
 have e111:=hk.pe 32
 have e107:=hk.pe 28
 refine wl_gyes rfl e107 ?_
 exact Mv_ e111 qz
 have e5:=hk.pi 5
 have e112:=hk.pe 33
 refine wl_gyes rfl e112 ?_
 exact Fd_ 33 fld66_2 e5 rfl qz
 have e113:=hk.pe 34
 have e112:=hk.pe 33
 refine wl_gyes rfl e112 ?_
 exact Hl_ 0 sc24 e113 (hp.ext hER) rfl rfl qz
 have e114:=hk.pe 35
 have e112:=hk.pe 33
 refine wl_gyes rfl e112 ?_
 exact Ln_ underlying24 e114 qz
 have e115:=hk.pe 36
 have e112:=hk.pe 33
 refine wl_gyes rfl e112 ?_
 exact Gt_ e115 rfl qz
 have e112:=hk.pe 33
 have e116:=hk.pe 37
 have e107:=hk.pe 28
 refine wl_gyes rfl e107 ?_
 exact Pk_ e112 e116 qz
 have e107:=hk.pe 28
 have e117:=hk.pe 38
 exact Pk_ e107 e117 qz
 intro F wD hED hini hdo
 refine wk_drop [(1, _), (4, _), (118, _)] ⟨di hini 1, di hini 4, dq hdo 39, trivial⟩ ?_
 clear hini hdo
 replace q4:=q4.ext hED
 replace hp:=hp.ext hED
 refine go ?_
 refine Cd (fun hc15 => ?_) fun hc15 => ?_
 refine go ?_
 refine P1 results91 ?_
 exact ⟨_, rfl, bool_f (fun h => by have := h.2.2.2.2.2 k (by omega); unfold PkAt at this; first | omega | simp_all | (simp_all; omega)), hp.chg⟩
 refine go ?_
 refine wl_add (by decide) rfl rfl (w64 (by omega) (by omega)) (gl ?_)
 refine wk_drop [(1, pt gs1 0), (4, iv ((k + 1) : Int))] ⟨rfl, rfl, trivial⟩ (hKL2 _ _ (m2 := n.picks.length - (k + 1)) ?_ ?_)
 refine ⟨(k + 1), rfl, ?_, ?_, ?_, ?_, ?_, ?_, ?_, ?_, ?_, ?_, ?_, ?_, ?_, ?_, rfl⟩
 omega
 refine upto hps ⟨by omega, by omega, fun _ => by omega, by simp_all, by simp_all⟩
 exact (hn0.fr q4)
 exact (hn1.fr q4)
 exact (hn2.fr q4)
 exact (hn3.fr q4)
 exact (hn4.fr q4)
 exact (hn5.fr q4)
 exact (hn6.fr q4)
 exact (hn7.fr q4)
 exact (hn8.fr q4)
 exact (hn9.fr q4)
 exact (hn10.fr q4)
 exact hp.tail
 omega
 obtain ⟨aw15, pw15_0, qw15_0, hAw15, hatw15, hIw15, hw15_0⟩ := pickR_el (hn7.fr q4) (k - 1) (by omega)
 apply wdL [SP.eq _, SP.eq _, SP.eq (.bool true), SP.eq (.bool false), SP.eq (.bool false), SP.eq _, SP.eq (.bool true), SP.eq (.bool true), SP.eq _, SP.eq _, SP.eq _, SP.eq _, SP.eq _, SP.eq _, SP.eq _, SP.eq _, SP.eq _, SP.eq _, SP.eq (.bool false), SP.eq (.bool false), SP.eq (.bool false), SP.eq (.bool false), SP.eq _, SP.eq _, SP.eq _, SP.eq (.bool true), SP.eq (.bool false), SP.eq (.bool false), SP.eq (.bool false), SP.eq _, SP.eq _, SP.eq _, SP.eq (.bool false), SP.eq (.bool false), SP.eq undef, SP.eq undef, SP.eq undef, SP.eq undef, SP.eq (.bool false), SP.eq (.bool false)]
 refine ⟨?_,?_,?_,?_,?_,?_,?_,?_,?_,?_,?_,?_,?_,?_,?_,?_,?_,?_,?_,?_,?_,?_,?_,?_,?_,?_,?_,?_,?_,?_,?_,?_,?_,?_,?_,?_,?_,?_,?_,?_,trivial⟩<;>intro F wF hER hk
 exact Fd_ 0 fld66_0 (hk.pi 5) rfl qz
 exact Hl_ 0 sc3 (hk.pe 0) (hp.ext hER) rfl rfl qz
 have e80:=hk.pe 1
 refine Cl_ cl52 (by simp only [evs, ev, e80]; first | done | rfl) (r12_within) ?_
 rintro _ _ ⟨rfl, rfl⟩
 exact t0_rNewMay_ok
 have e81:=hk.pe 2
 first | exact Nd_ e81 qz | exact Nn_ e81 qz
 exact dm (hk.pe 3)
 have e4:=hk.pi 4
 have e83:=hk.pe 4
 refine wl_gyes rfl e83 ?_
 exact Mv_ e4 qz
 have e84:=hk.pe 5
 have e83:=hk.pe 4
 refine wl_gyes rfl e83 ?_
 refine Gt_ e84 rfl ?_
 exact t1_rNewMay_ok
 have e85:=hk.pe 6
 have e83:=hk.pe 4
 refine wl_gyes rfl e83 ?_
 exact Mv_ e85 qz
 have e5:=hk.pi 5
 have e86:=hk.pe 7
 refine wl_gyes rfl e86 ?_
 exact Fd_ 0 fld66_0 e5 rfl qz
 have e87:=hk.pe 8
 have e86:=hk.pe 7
 refine wl_gyes rfl e86 ?_
 exact Hl_ 0 sc3 e87 (hp.ext hER) rfl rfl qz
 have e88:=hk.pe 9
 have e86:=hk.pe 7
 refine wl_gyes rfl e86 ?_
 exact wl_sub (by decide) e88 rfl (w64 (by omega) (by omega)) qz
 have e1:=hk.pi 1
 have e86:=hk.pe 7
 refine wl_gyes rfl e86 ?_
 exact Fd_ 52 fld38_13 e1 rfl qz
 have e90:=hk.pe 11
 have e86:=hk.pe 7
 refine wl_gyes rfl e86 ?_
 exact Hl_ 1 sc35 e90 (hp.ext hER) rfl rfl qz
 have e4:=hk.pi 4
 have e86:=hk.pe 7
 refine wl_gyes rfl e86 ?_
 exact Mv_ e4 qz
 have e92:=hk.pe 13
 have e86:=hk.pe 7
 refine wl_gyes rfl e86 ?_
 exact wl_sub (by decide) e92 rfl (w64 (by omega) (by omega)) qz
 have e91:=hk.pe 12
 have e93:=hk.pe 14
 have e86:=hk.pe 7
 refine wl_gyes rfl e86 ?_
 exact wl_idx0 (by decide) sl35 e91 e93 hAw15 (k - 1) (by omega) (by omega) qz
 have e94:=hk.pe 15
 have e86:=hk.pe 7
 refine wl_gyes rfl e86 ?_
 exact Fe_ fld66_0 e94 qz
 have e95:=hk.pe 16
 have e86:=hk.pe 7
 refine wl_gyes rfl e86 ?_
 exact Ld_ sc3 e95 ((hatw15.ext hER).get rfl) qz
 have e89:=hk.pe 10
 have e96:=hk.pe 17
 have e86:=hk.pe 7
 refine wl_gyes rfl e86 ?_
 refine Ne_ e89 e96 ?_
 exact wl_re (k := 97) (v := .bool false) rfl (congrArg Value.bool (decide_eq_false (by first | exact hs12 | omega | simpa using hs12))) qy
 have e86:=hk.pe 7
 have e97:=hk.pe 18
 have e83:=hk.pe 4
 refine wl_gyes rfl e83 ?_
 exact Pk_ e86 e97 qz
 have e83:=hk.pe 4
 have e98:=hk.pe 19
 exact Pk_ e83 e98 qz
 exact dm (hk.pe 20)
 have e5:=hk.pi 5
 have e100:=hk.pe 21
 refine wl_gyes rfl e100 ?_
 exact Fd_ 33 fld66_2 e5 rfl qz
 have e101:=hk.pe 22
 have e100:=hk.pe 21
 refine wl_gyes rfl e100 ?_
 exact Hl_ 0 sc24 e101 (hp.ext hER) rfl rfl qz
 have e1:=hk.pi 1
 have e100:=hk.pe 21
 refine wl_gyes rfl e100 ?_
 exact t2_rNewMay_ok
 have e102:=hk.pe 23
 have e103:=hk.pe 24
 have e100:=hk.pe 21
 refine wl_gyes rfl e100 ?_
 have hcl:=rBatchMay_ok ((he3_0.fr q4).ext hER) ⟨hIn, _, _, _, _, _, _, _, _, _, _, _, _, _, _, _, _, _, _, _, _, _, _, rfl, ((hn0.fr q4).ext hER), ((hn1.fr q4).ext hER), ((hn2.fr q4).ext hER), ((hn3.fr q4).ext hER), ((hn4.fr q4).ext hER), ((hn5.fr q4).ext hER), ((hn6.fr q4).ext hER), ((hn7.fr q4).ext hER), ((hn8.fr q4).ext hER), ((hn9.fr q4).ext hER), ((hn10.fr q4).ext hER)⟩
 refine Cl_ cl90 (by simp only [evs, ev, e102, e103]; first | done | rfl) hcl ?_
 clear hcl
 rintro _ w7 ⟨rfl, hE7⟩
 refine wl_re (k := 104) (v := .bool true) rfl (congrArg Value.bool (decide_eq_true (by first | exact hs13 | omega | simpa using hs13))) ?_
 exact qy ⟨hE7, rfl⟩
 have e104:=hk.pe 25
 have e100:=hk.pe 21
 refine wl_gyes rfl e100 ?_
 first | exact Nd_ e104 qz | exact Nn_ e104 qz
 have e100:=hk.pe 21
 have e105:=hk.pe 26
 exact Pk_ e100 e105 qz
 exact dm (hk.pe 27)
 have e5:=hk.pi 5
 have e107:=hk.pe 28
 refine wl_gyes rfl e107 ?_
 exact Fd_ 1 fld66_1 e5 rfl qz
 have e108:=hk.pe 29
 have e107:=hk.pe 28
 refine wl_gyes rfl e107 ?_
 exact Hx_ (digC ((n.picks.getD k pick0).dig)) 0 ag23 e108 (hp.ext hER) rfl rfl rfl qz
 have e107:=hk.pe 28
 refine wl_gyes rfl e107 ?_
 exact wl_builtS (cells := digC dig0) (ps := []) (by decide) bld23 (by simp only [evp]; first | done | rfl) rfl qz
 have e109:=hk.pe 30
 have e110:=hk.pe 31
 have e107:=hk.pe 28
 refine wl_gyes rfl e107 ?_
 refine wl_eqlK (m := 6) ((n.picks.getD k pick0).dig = dig0) (by decide) key23 eg23 e109 e110 (digC_fit _) (digC_fit _) digC_inj ?_
 exact wl_re (k := 111) (v := .bool false) rfl (congrArg Value.bool (decide_eq_false (by first | exact hs14 | omega | simpa using hs14))) qy
 have e111:=hk.pe 32
 have e107:=hk.pe 28
 refine wl_gyes rfl e107 ?_
 exact Mv_ e111 qz
 exact dn (hk.pe 33)
 exact dn (hk.pe 33)
 exact dn (hk.pe 33)
 exact dn (hk.pe 33)
 have e112:=hk.pe 33
 have e116:=hk.pe 37
 have e107:=hk.pe 28
 refine wl_gyes rfl e107 ?_
 exact Pk_ e112 rfl qz
 have e107:=hk.pe 28
 have e117:=hk.pe 38
 exact Pk_ e107 e117 qz
 intro F wD hED hini hdo
 refine wk_drop [(1, _), (4, _), (118, _)] ⟨di hini 1, di hini 4, dq hdo 39, trivial⟩ ?_
 clear hini hdo
 replace q4:=q4.ext hED
 replace hp:=hp.ext hED
 refine go ?_
 refine wc_cond_f rfl ?_
 refine go ?_
 refine wl_add (by decide) rfl rfl (w64 (by omega) (by omega)) (gl ?_)
 refine wk_drop [(1, pt gs1 0), (4, iv ((k + 1) : Int))] ⟨rfl, rfl, trivial⟩ (hKL2 _ _ (m2 := n.picks.length - (k + 1)) ?_ ?_)
 refine ⟨(k + 1), rfl, ?_, ?_, ?_, ?_, ?_, ?_, ?_, ?_, ?_, ?_, ?_, ?_, ?_, ?_, rfl⟩
 omega
 refine upto hps ⟨by omega, by omega, fun _ => by omega, by simp_all, by simp_all⟩
 exact (hn0.fr q4)
 exact (hn1.fr q4)
 exact (hn2.fr q4)
 exact (hn3.fr q4)
 exact (hn4.fr q4)
 exact (hn5.fr q4)
 exact (hn6.fr q4)
 exact (hn7.fr q4)
 exact (hn8.fr q4)
 exact (hn9.fr q4)
 exact (hn10.fr q4)
 exact hp.tail
 omega
 obtain ⟨aw15, pw15_0, qw15_0, hAw15, hatw15, hIw15, hw15_0⟩ := pickR_el (hn7.fr q4) (k - 1) (by omega)
 apply wdL [SP.eq _, SP.eq _, SP.eq (.bool true), SP.eq (.bool false), SP.eq (.bool false), SP.eq _, SP.eq (.bool true), SP.eq (.bool true), SP.eq _, SP.eq _, SP.eq _, SP.eq _, SP.eq _, SP.eq _, SP.eq _, SP.eq _, SP.eq _, SP.eq _, SP.eq (.bool false), SP.eq (.bool false), SP.eq (.bool false), SP.eq (.bool false), SP.eq _, SP.eq _, SP.eq _, SP.eq (.bool false), SP.eq (.bool true), SP.eq (.bool true), SP.eq (.bool true), SP.eq undef, SP.eq undef, SP.eq undef, SP.eq undef, SP.eq undef, SP.eq undef, SP.eq undef, SP.eq undef, SP.eq undef, SP.eq undef, SP.eq (.bool true)]
 refine ⟨?_,?_,?_,?_,?_,?_,?_,?_,?_,?_,?_,?_,?_,?_,?_,?_,?_,?_,?_,?_,?_,?_,?_,?_,?_,?_,?_,?_,?_,?_,?_,?_,?_,?_,?_,?_,?_,?_,?_,?_,trivial⟩<;>intro F wF hER hk
 exact Fd_ 0 fld66_0 (hk.pi 5) rfl qz
 exact Hl_ 0 sc3 (hk.pe 0) (hp.ext hER) rfl rfl qz
 have e80:=hk.pe 1
 refine Cl_ cl52 (by simp only [evs, ev, e80]; first | done | rfl) (r12_within) ?_
 rintro _ _ ⟨rfl, rfl⟩
 exact t0_rNewMay_ok
 have e81:=hk.pe 2
 first | exact Nd_ e81 qz | exact Nn_ e81 qz
 exact dm (hk.pe 3)
 have e4:=hk.pi 4
 have e83:=hk.pe 4
 refine wl_gyes rfl e83 ?_
 exact Mv_ e4 qz
 have e84:=hk.pe 5
 have e83:=hk.pe 4
 refine wl_gyes rfl e83 ?_
 refine Gt_ e84 rfl ?_
 exact t1_rNewMay_ok
 have e85:=hk.pe 6
 have e83:=hk.pe 4
 refine wl_gyes rfl e83 ?_
 exact Mv_ e85 qz
 have e5:=hk.pi 5
 have e86:=hk.pe 7
 refine wl_gyes rfl e86 ?_
 exact Fd_ 0 fld66_0 e5 rfl qz
 have e87:=hk.pe 8
 have e86:=hk.pe 7
 refine wl_gyes rfl e86 ?_
 exact Hl_ 0 sc3 e87 (hp.ext hER) rfl rfl qz
 have e88:=hk.pe 9
 have e86:=hk.pe 7
 refine wl_gyes rfl e86 ?_
 exact wl_sub (by decide) e88 rfl (w64 (by omega) (by omega)) qz
 have e1:=hk.pi 1
 have e86:=hk.pe 7
 refine wl_gyes rfl e86 ?_
 exact Fd_ 52 fld38_13 e1 rfl qz
 have e90:=hk.pe 11
 have e86:=hk.pe 7
 refine wl_gyes rfl e86 ?_
 exact Hl_ 1 sc35 e90 (hp.ext hER) rfl rfl qz
 have e4:=hk.pi 4
 have e86:=hk.pe 7
 refine wl_gyes rfl e86 ?_
 exact Mv_ e4 qz
 have e92:=hk.pe 13
 have e86:=hk.pe 7
 refine wl_gyes rfl e86 ?_
 exact wl_sub (by decide) e92 rfl (w64 (by omega) (by omega)) qz
 have e91:=hk.pe 12
 have e93:=hk.pe 14
 have e86:=hk.pe 7
 refine wl_gyes rfl e86 ?_
 exact wl_idx0 (by decide) sl35 e91 e93 hAw15 (k - 1) (by omega) (by omega) qz
 have e94:=hk.pe 15
 have e86:=hk.pe 7
 refine wl_gyes rfl e86 ?_
 exact Fe_ fld66_0 e94 qz
 have e95:=hk.pe 16
 have e86:=hk.pe 7
 refine wl_gyes rfl e86 ?_
 exact Ld_ sc3 e95 ((hatw15.ext hER).get rfl) qz
 have e89:=hk.pe 10
 have e96:=hk.pe 17
 have e86:=hk.pe 7
 refine wl_gyes rfl e86 ?_
 refine Ne_ e89 e96 ?_
 exact wl_re (k := 97) (v := .bool false) rfl (congrArg Value.bool (decide_eq_false (by first | exact hs12 | omega | simpa using hs12))) qy
 have e86:=hk.pe 7
 have e97:=hk.pe 18
 have e83:=hk.pe 4
 refine wl_gyes rfl e83 ?_
 exact Pk_ e86 e97 qz
 have e83:=hk.pe 4
 have e98:=hk.pe 19
 exact Pk_ e83 e98 qz
 exact dm (hk.pe 20)
 have e5:=hk.pi 5
 have e100:=hk.pe 21
 refine wl_gyes rfl e100 ?_
 exact Fd_ 33 fld66_2 e5 rfl qz
 have e101:=hk.pe 22
 have e100:=hk.pe 21
 refine wl_gyes rfl e100 ?_
 exact Hl_ 0 sc24 e101 (hp.ext hER) rfl rfl qz
 have e1:=hk.pi 1
 have e100:=hk.pe 21
 refine wl_gyes rfl e100 ?_
 exact t2_rNewMay_ok
 have e102:=hk.pe 23
 have e103:=hk.pe 24
 have e100:=hk.pe 21
 refine wl_gyes rfl e100 ?_
 have hcl:=rBatchMay_ok ((he3_0.fr q4).ext hER) ⟨hIn, _, _, _, _, _, _, _, _, _, _, _, _, _, _, _, _, _, _, _, _, _, _, rfl, ((hn0.fr q4).ext hER), ((hn1.fr q4).ext hER), ((hn2.fr q4).ext hER), ((hn3.fr q4).ext hER), ((hn4.fr q4).ext hER), ((hn5.fr q4).ext hER), ((hn6.fr q4).ext hER), ((hn7.fr q4).ext hER), ((hn8.fr q4).ext hER), ((hn9.fr q4).ext hER), ((hn10.fr q4).ext hER)⟩
 refine Cl_ cl90 (by simp only [evs, ev, e102, e103]; first | done | rfl) hcl ?_
 clear hcl
 rintro _ w7 ⟨rfl, hE7⟩
 refine wl_re (k := 104) (v := .bool false) rfl (congrArg Value.bool (decide_eq_false (by first | exact hs13 | omega | simpa using hs13))) ?_
 exact qy ⟨hE7, rfl⟩
 have e104:=hk.pe 25
 have e100:=hk.pe 21
 refine wl_gyes rfl e100 ?_
 first | exact Nd_ e104 qz | exact Nn_ e104 qz
 have e100:=hk.pe 21
 have e105:=hk.pe 26
 exact Pk_ e100 e105 qz
 exact dm (hk.pe 27)
 exact dn (hk.pe 28)
 exact dn (hk.pe 28)
 exact dn (hk.pe 28)
 exact dn (hk.pe 28)
 exact dn (hk.pe 28)
 exact dn (hk.pe 33)
 exact dn (hk.pe 33)
 exact dn (hk.pe 33)
 exact dn (hk.pe 33)
 exact dn (hk.pe 28)
 have e107:=hk.pe 28
 have e117:=hk.pe 38
 exact Pk_ e107 rfl qz
 intro F wD hED hini hdo
 refine wk_drop [(1, _), (4, _), (118, _)] ⟨di hini 1, di hini 4, dq hdo 39, trivial⟩ ?_
 clear hini hdo
 replace hp:=hp.ext hED
 refine go ?_
 refine wc_cond_t rfl (go ?_)
 refine P1 results91 ?_
 exact ⟨_, rfl, bool_f (fun h => by have := h.2.2.2.2.2 k (by omega); unfold PkAt at this; first | omega | simp_all | (simp_all; omega)), hp.chg⟩
 by_cases hs16 : BatchMay ((n.picks.getD k pick0).batch) n.group n.epoch
 by_cases hs17 : (n.picks.getD k pick0).dig = dig0
 apply wdL [SP.eq _, SP.eq _, SP.eq (.bool true), SP.eq (.bool false), SP.eq (.bool false), SP.eq _, SP.eq (.bool false), SP.eq (.bool false), SP.eq undef, SP.eq undef, SP.eq undef, SP.eq undef, SP.eq undef, SP.eq undef, SP.eq undef, SP.eq undef, SP.eq undef, SP.eq undef, SP.eq undef, SP.eq (.bool false), SP.eq (.bool false), SP.eq (.bool false), SP.eq _, SP.eq _, SP.eq _, SP.eq (.bool true), SP.eq (.bool false), SP.eq (.bool false), SP.eq (.bool false), SP.eq _, SP.eq _, SP.eq _, SP.eq (.bool true), SP.eq (.bool true), SP.eq _, SP.eq _, SP.eq _, SP.eq _, SP.eq _, SP.eq _]
 refine ⟨?_,?_,?_,?_,?_,?_,?_,?_,?_,?_,?_,?_,?_,?_,?_,?_,?_,?_,?_,?_,?_,?_,?_,?_,?_,?_,?_,?_,?_,?_,?_,?_,?_,?_,?_,?_,?_,?_,?_,?_,trivial⟩<;>intro F wF hER hk
 exact Fd_ 0 fld66_0 (hk.pi 5) rfl qz
 exact Hl_ 0 sc3 (hk.pe 0) (hp.ext hER) rfl rfl qz
 have e80:=hk.pe 1
 refine Cl_ cl52 (by simp only [evs, ev, e80]; first | done | rfl) (r12_within) ?_
 rintro _ _ ⟨rfl, rfl⟩
 exact t0_rNewMay_ok
 have e81:=hk.pe 2
 first | exact Nd_ e81 qz | exact Nn_ e81 qz
 exact dm (hk.pe 3)
 have e4:=hk.pi 4
 have e83:=hk.pe 4
 refine wl_gyes rfl e83 ?_
 exact Mv_ e4 qz
 have e84:=hk.pe 5
 have e83:=hk.pe 4
 refine wl_gyes rfl e83 ?_
 refine Gt_ e84 rfl ?_
 exact wl_re (k := 85) (v := .bool false) rfl (congrArg Value.bool (decide_eq_false (by first | exact hs11 | omega | simpa using hs11))) qy
 have e85:=hk.pe 6
 have e83:=hk.pe 4
 refine wl_gyes rfl e83 ?_
 exact Mv_ e85 qz
 exact dn (hk.pe 7)
 exact dn (hk.pe 7)
 exact dn (hk.pe 7)
 exact dn (hk.pe 7)
 exact dn (hk.pe 7)
 exact dn (hk.pe 7)
 exact dn (hk.pe 7)
 exact dn (hk.pe 7)
 exact dn (hk.pe 7)
 exact dn (hk.pe 7)
 exact dn (hk.pe 7)
 have e86:=hk.pe 7
 have e97:=hk.pe 18
 have e83:=hk.pe 4
 refine wl_gyes rfl e83 ?_
 exact Pk_ e86 rfl qz
 have e83:=hk.pe 4
 have e98:=hk.pe 19
 exact Pk_ e83 e98 qz
 exact dm (hk.pe 20)
 have e5:=hk.pi 5
 have e100:=hk.pe 21
 refine wl_gyes rfl e100 ?_
 exact Fd_ 33 fld66_2 e5 rfl qz
 have e101:=hk.pe 22
 have e100:=hk.pe 21
 refine wl_gyes rfl e100 ?_
 exact Hl_ 0 sc24 e101 (hp.ext hER) rfl rfl qz
 have e1:=hk.pi 1
 have e100:=hk.pe 21
 refine wl_gyes rfl e100 ?_
 exact t2_rNewMay_ok
 have e102:=hk.pe 23
 have e103:=hk.pe 24
 have e100:=hk.pe 21
 refine wl_gyes rfl e100 ?_
 have hcl:=rBatchMay_ok ((he3_0.fr q4).ext hER) ⟨hIn, _, _, _, _, _, _, _, _, _, _, _, _, _, _, _, _, _, _, _, _, _, _, rfl, ((hn0.fr q4).ext hER), ((hn1.fr q4).ext hER), ((hn2.fr q4).ext hER), ((hn3.fr q4).ext hER), ((hn4.fr q4).ext hER), ((hn5.fr q4).ext hER), ((hn6.fr q4).ext hER), ((hn7.fr q4).ext hER), ((hn8.fr q4).ext hER), ((hn9.fr q4).ext hER), ((hn10.fr q4).ext hER)⟩
 refine Cl_ cl90 (by simp only [evs, ev, e102, e103]; first | done | rfl) hcl ?_
 clear hcl
 rintro _ w7 ⟨rfl, hE7⟩
 refine wl_re (k := 104) (v := .bool true) rfl (congrArg Value.bool (decide_eq_true (by first | exact hs16 | omega | simpa using hs16))) ?_
 exact qy ⟨hE7, rfl⟩
 have e104:=hk.pe 25
 have e100:=hk.pe 21
 refine wl_gyes rfl e100 ?_
 first | exact Nd_ e104 qz | exact Nn_ e104 qz
 have e100:=hk.pe 21
 have e105:=hk.pe 26
 exact Pk_ e100 e105 qz
 exact dm (hk.pe 27)
 have e5:=hk.pi 5
 have e107:=hk.pe 28
 refine wl_gyes rfl e107 ?_
 exact Fd_ 1 fld66_1 e5 rfl qz
 have e108:=hk.pe 29
 have e107:=hk.pe 28
 refine wl_gyes rfl e107 ?_
 exact Hx_ (digC ((n.picks.getD k pick0).dig)) 0 ag23 e108 (hp.ext hER) rfl rfl rfl qz
 have e107:=hk.pe 28
 refine wl_gyes rfl e107 ?_
 exact wl_builtS (cells := digC dig0) (ps := []) (by decide) bld23 (by simp only [evp]; first | done | rfl) rfl qz
 have e109:=hk.pe 30
 have e110:=hk.pe 31
 have e107:=hk.pe 28
 refine wl_gyes rfl e107 ?_
 refine wl_eqlK (m := 6) ((n.picks.getD k pick0).dig = dig0) (by decide) key23 eg23 e109 e110 (digC_fit _) (digC_fit _) digC_inj ?_
 exact wl_re (k := 111) (v := .bool true) rfl (congrArg Value.bool (decide_eq_true (by first | exact hs17 | omega | simpa using hs17))) qy
 have e111:=hk.pe 32
 have e107:=hk.pe 28
 refine wl_gyes rfl e107 ?_
 exact Mv_ e111 qz
 have e5:=hk.pi 5
 have e112:=hk.pe 33
 refine wl_gyes rfl e112 ?_
 exact Fd_ 33 fld66_2 e5 rfl qz
 have e113:=hk.pe 34
 have e112:=hk.pe 33
 refine wl_gyes rfl e112 ?_
 exact Hl_ 0 sc24 e113 (hp.ext hER) rfl rfl qz
 have e114:=hk.pe 35
 have e112:=hk.pe 33
 refine wl_gyes rfl e112 ?_
 exact Ln_ underlying24 e114 qz
 have e115:=hk.pe 36
 have e112:=hk.pe 33
 refine wl_gyes rfl e112 ?_
 exact Gt_ e115 rfl qz
 have e112:=hk.pe 33
 have e116:=hk.pe 37
 have e107:=hk.pe 28
 refine wl_gyes rfl e107 ?_
 exact Pk_ e112 e116 qz
 have e107:=hk.pe 28
 have e117:=hk.pe 38
 exact Pk_ e107 e117 qz
 intro F wD hED hini hdo
 refine wk_drop [(1, _), (4, _), (118, _)] ⟨di hini 1, di hini 4, dq hdo 39, trivial⟩ ?_
 clear hini hdo
 replace q4:=q4.ext hED
 replace hp:=hp.ext hED
 refine go ?_
 refine Cd (fun hc18 => ?_) fun hc18 => ?_
 refine go ?_
 refine P1 results91 ?_
 exact ⟨_, rfl, bool_f (fun h => by have := h.2.2.2.2.2 k (by omega); unfold PkAt at this; first | omega | simp_all | (simp_all; omega)), hp.chg⟩
 refine go ?_
 refine wl_add (by decide) rfl rfl (w64 (by omega) (by omega)) (gl ?_)
 refine wk_drop [(1, pt gs1 0), (4, iv ((k + 1) : Int))] ⟨rfl, rfl, trivial⟩ (hKL2 _ _ (m2 := n.picks.length - (k + 1)) ?_ ?_)
 refine ⟨(k + 1), rfl, ?_, ?_, ?_, ?_, ?_, ?_, ?_, ?_, ?_, ?_, ?_, ?_, ?_, ?_, rfl⟩
 omega
 refine upto hps ⟨by omega, by omega, fun _ => by omega, by simp_all, by simp_all⟩
 exact (hn0.fr q4)
 exact (hn1.fr q4)
 exact (hn2.fr q4)
 exact (hn3.fr q4)
 exact (hn4.fr q4)
 exact (hn5.fr q4)
 exact (hn6.fr q4)
 exact (hn7.fr q4)
 exact (hn8.fr q4)
 exact (hn9.fr q4)
 exact (hn10.fr q4)
 exact hp.tail
 omega
 apply wdL [SP.eq _, SP.eq _, SP.eq (.bool true), SP.eq (.bool false), SP.eq (.bool false), SP.eq _, SP.eq (.bool false), SP.eq (.bool false), SP.eq undef, SP.eq undef, SP.eq undef, SP.eq undef, SP.eq undef, SP.eq undef, SP.eq undef, SP.eq undef, SP.eq undef, SP.eq undef, SP.eq undef, SP.eq (.bool false), SP.eq (.bool false), SP.eq (.bool false), SP.eq _, SP.eq _, SP.eq _, SP.eq (.bool true), SP.eq (.bool false), SP.eq (.bool false), SP.eq (.bool false), SP.eq _, SP.eq _, SP.eq _, SP.eq (.bool false), SP.eq (.bool false), SP.eq undef, SP.eq undef, SP.eq undef, SP.eq undef, SP.eq (.bool false), SP.eq (.bool false)]
 refine ⟨?_,?_,?_,?_,?_,?_,?_,?_,?_,?_,?_,?_,?_,?_,?_,?_,?_,?_,?_,?_,?_,?_,?_,?_,?_,?_,?_,?_,?_,?_,?_,?_,?_,?_,?_,?_,?_,?_,?_,?_,trivial⟩<;>intro F wF hER hk
 exact Fd_ 0 fld66_0 (hk.pi 5) rfl qz
 exact Hl_ 0 sc3 (hk.pe 0) (hp.ext hER) rfl rfl qz
 have e80:=hk.pe 1
 refine Cl_ cl52 (by simp only [evs, ev, e80]; first | done | rfl) (r12_within) ?_
 rintro _ _ ⟨rfl, rfl⟩
 exact t0_rNewMay_ok
 have e81:=hk.pe 2
 first | exact Nd_ e81 qz | exact Nn_ e81 qz
 exact dm (hk.pe 3)
 have e4:=hk.pi 4
 have e83:=hk.pe 4
 refine wl_gyes rfl e83 ?_
 exact Mv_ e4 qz
 have e84:=hk.pe 5
 have e83:=hk.pe 4
 refine wl_gyes rfl e83 ?_
 refine Gt_ e84 rfl ?_
 exact wl_re (k := 85) (v := .bool false) rfl (congrArg Value.bool (decide_eq_false (by first | exact hs11 | omega | simpa using hs11))) qy
 have e85:=hk.pe 6
 have e83:=hk.pe 4
 refine wl_gyes rfl e83 ?_
 exact Mv_ e85 qz
 exact dn (hk.pe 7)
 exact dn (hk.pe 7)
 exact dn (hk.pe 7)
 exact dn (hk.pe 7)
 exact dn (hk.pe 7)
 exact dn (hk.pe 7)
 exact dn (hk.pe 7)
 exact dn (hk.pe 7)
 exact dn (hk.pe 7)
 exact dn (hk.pe 7)
 exact dn (hk.pe 7)
 have e86:=hk.pe 7
 have e97:=hk.pe 18
 have e83:=hk.pe 4
 refine wl_gyes rfl e83 ?_
 exact Pk_ e86 rfl qz
 have e83:=hk.pe 4
 have e98:=hk.pe 19
 exact Pk_ e83 e98 qz
 exact dm (hk.pe 20)
 have e5:=hk.pi 5
 have e100:=hk.pe 21
 refine wl_gyes rfl e100 ?_
 exact Fd_ 33 fld66_2 e5 rfl qz
 have e101:=hk.pe 22
 have e100:=hk.pe 21
 refine wl_gyes rfl e100 ?_
 exact Hl_ 0 sc24 e101 (hp.ext hER) rfl rfl qz
 have e1:=hk.pi 1
 have e100:=hk.pe 21
 refine wl_gyes rfl e100 ?_
 exact t2_rNewMay_ok
 have e102:=hk.pe 23
 have e103:=hk.pe 24
 have e100:=hk.pe 21
 refine wl_gyes rfl e100 ?_
 have hcl:=rBatchMay_ok ((he3_0.fr q4).ext hER) ⟨hIn, _, _, _, _, _, _, _, _, _, _, _, _, _, _, _, _, _, _, _, _, _, _, rfl, ((hn0.fr q4).ext hER), ((hn1.fr q4).ext hER), ((hn2.fr q4).ext hER), ((hn3.fr q4).ext hER), ((hn4.fr q4).ext hER), ((hn5.fr q4).ext hER), ((hn6.fr q4).ext hER), ((hn7.fr q4).ext hER), ((hn8.fr q4).ext hER), ((hn9.fr q4).ext hER), ((hn10.fr q4).ext hER)⟩
 refine Cl_ cl90 (by simp only [evs, ev, e102, e103]; first | done | rfl) hcl ?_
 clear hcl
 rintro _ w7 ⟨rfl, hE7⟩
 refine wl_re (k := 104) (v := .bool true) rfl (congrArg Value.bool (decide_eq_true (by first | exact hs16 | omega | simpa using hs16))) ?_
 exact qy ⟨hE7, rfl⟩
 have e104:=hk.pe 25
 have e100:=hk.pe 21
 refine wl_gyes rfl e100 ?_
 first | exact Nd_ e104 qz | exact Nn_ e104 qz
 have e100:=hk.pe 21
 have e105:=hk.pe 26
 exact Pk_ e100 e105 qz
 exact dm (hk.pe 27)
 have e5:=hk.pi 5
 have e107:=hk.pe 28
 refine wl_gyes rfl e107 ?_
 exact Fd_ 1 fld66_1 e5 rfl qz
 have e108:=hk.pe 29
 have e107:=hk.pe 28
 refine wl_gyes rfl e107 ?_
 exact Hx_ (digC ((n.picks.getD k pick0).dig)) 0 ag23 e108 (hp.ext hER) rfl rfl rfl qz
 have e107:=hk.pe 28
 refine wl_gyes rfl e107 ?_
 exact wl_builtS (cells := digC dig0) (ps := []) (by decide) bld23 (by simp only [evp]; first | done | rfl) rfl qz
 have e109:=hk.pe 30
 have e110:=hk.pe 31
 have e107:=hk.pe 28
 refine wl_gyes rfl e107 ?_
 refine wl_eqlK (m := 6) ((n.picks.getD k pick0).dig = dig0) (by decide) key23 eg23 e109 e110 (digC_fit _) (digC_fit _) digC_inj ?_
 exact wl_re (k := 111) (v := .bool false) rfl (congrArg Value.bool (decide_eq_false (by first | exact hs17 | omega | simpa using hs17))) qy
 have e111:=hk.pe 32
 have e107:=hk.pe 28
 refine wl_gyes rfl e107 ?_
 exact Mv_ e111 qz
 exact dn (hk.pe 33)
 exact dn (hk.pe 33)
 exact dn (hk.pe 33)
 exact dn (hk.pe 33)
 have e112:=hk.pe 33
 have e116:=hk.pe 37
 have e107:=hk.pe 28
 refine wl_gyes rfl e107 ?_
 exact Pk_ e112 rfl qz
 have e107:=hk.pe 28
 have e117:=hk.pe 38
 exact Pk_ e107 e117 qz
 intro F wD hED hini hdo
 refine wk_drop [(1, _), (4, _), (118, _)] ⟨di hini 1, di hini 4, dq hdo 39, trivial⟩ ?_
 clear hini hdo
 replace q4:=q4.ext hED
 replace hp:=hp.ext hED
 refine go ?_
 refine wc_cond_f rfl ?_
 refine go ?_
 refine wl_add (by decide) rfl rfl (w64 (by omega) (by omega)) (gl ?_)
 refine wk_drop [(1, pt gs1 0), (4, iv ((k + 1) : Int))] ⟨rfl, rfl, trivial⟩ (hKL2 _ _ (m2 := n.picks.length - (k + 1)) ?_ ?_)
 refine ⟨(k + 1), rfl, ?_, ?_, ?_, ?_, ?_, ?_, ?_, ?_, ?_, ?_, ?_, ?_, ?_, ?_, rfl⟩
 omega
 refine upto hps ⟨by omega, by omega, fun _ => by omega, by simp_all, by simp_all⟩
 exact (hn0.fr q4)
 exact (hn1.fr q4)
 exact (hn2.fr q4)
 exact (hn3.fr q4)
 exact (hn4.fr q4)
 exact (hn5.fr q4)
 exact (hn6.fr q4)
 exact (hn7.fr q4)
 exact (hn8.fr q4)
 exact (hn9.fr q4)
 exact (hn10.fr q4)
 exact hp.tail
 omega
 apply wdL [SP.eq _, SP.eq _, SP.eq (.bool true), SP.eq (.bool false), SP.eq (.bool false), SP.eq _, SP.eq (.bool false), SP.eq (.bool false), SP.eq undef, SP.eq undef, SP.eq undef, SP.eq undef, SP.eq undef, SP.eq undef, SP.eq undef, SP.eq undef, SP.eq undef, SP.eq undef, SP.eq undef, SP.eq (.bool false), SP.eq (.bool false), SP.eq (.bool false), SP.eq _, SP.eq _, SP.eq _, SP.eq (.bool false), SP.eq (.bool true), SP.eq (.bool true), SP.eq (.bool true), SP.eq undef, SP.eq undef, SP.eq undef, SP.eq undef, SP.eq undef, SP.eq undef, SP.eq undef, SP.eq undef, SP.eq undef, SP.eq undef, SP.eq (.bool true)]
 refine ⟨?_,?_,?_,?_,?_,?_,?_,?_,?_,?_,?_,?_,?_,?_,?_,?_,?_,?_,?_,?_,?_,?_,?_,?_,?_,?_,?_,?_,?_,?_,?_,?_,?_,?_,?_,?_,?_,?_,?_,?_,trivial⟩<;>intro F wF hER hk
 exact Fd_ 0 fld66_0 (hk.pi 5) rfl qz
 exact Hl_ 0 sc3 (hk.pe 0) (hp.ext hER) rfl rfl qz
 have e80:=hk.pe 1
 refine Cl_ cl52 (by simp only [evs, ev, e80]; first | done | rfl) (r12_within) ?_
 rintro _ _ ⟨rfl, rfl⟩
 exact t0_rNewMay_ok
 have e81:=hk.pe 2
 first | exact Nd_ e81 qz | exact Nn_ e81 qz
 exact dm (hk.pe 3)
 have e4:=hk.pi 4
 have e83:=hk.pe 4
 refine wl_gyes rfl e83 ?_
 exact Mv_ e4 qz
 have e84:=hk.pe 5
 have e83:=hk.pe 4
 refine wl_gyes rfl e83 ?_
 refine Gt_ e84 rfl ?_
 exact wl_re (k := 85) (v := .bool false) rfl (congrArg Value.bool (decide_eq_false (by first | exact hs11 | omega | simpa using hs11))) qy
 have e85:=hk.pe 6
 have e83:=hk.pe 4
 refine wl_gyes rfl e83 ?_
 exact Mv_ e85 qz
 exact dn (hk.pe 7)
 exact dn (hk.pe 7)
 exact dn (hk.pe 7)
 exact dn (hk.pe 7)
 exact dn (hk.pe 7)
 exact dn (hk.pe 7)
 exact dn (hk.pe 7)
 exact dn (hk.pe 7)
 exact dn (hk.pe 7)
 exact dn (hk.pe 7)
 exact dn (hk.pe 7)
 have e86:=hk.pe 7
 have e97:=hk.pe 18
 have e83:=hk.pe 4
 refine wl_gyes rfl e83 ?_
 exact Pk_ e86 rfl qz
 have e83:=hk.pe 4
 have e98:=hk.pe 19
 exact Pk_ e83 e98 qz
 exact dm (hk.pe 20)
 have e5:=hk.pi 5
 have e100:=hk.pe 21
 refine wl_gyes rfl e100 ?_
 exact Fd_ 33 fld66_2 e5 rfl qz
 have e101:=hk.pe 22
 have e100:=hk.pe 21
 refine wl_gyes rfl e100 ?_
 exact Hl_ 0 sc24 e101 (hp.ext hER) rfl rfl qz
 have e1:=hk.pi 1
 have e100:=hk.pe 21
 refine wl_gyes rfl e100 ?_
 exact t2_rNewMay_ok
 have e102:=hk.pe 23
 have e103:=hk.pe 24
 have e100:=hk.pe 21
 refine wl_gyes rfl e100 ?_
 have hcl:=rBatchMay_ok ((he3_0.fr q4).ext hER) ⟨hIn, _, _, _, _, _, _, _, _, _, _, _, _, _, _, _, _, _, _, _, _, _, _, rfl, ((hn0.fr q4).ext hER), ((hn1.fr q4).ext hER), ((hn2.fr q4).ext hER), ((hn3.fr q4).ext hER), ((hn4.fr q4).ext hER), ((hn5.fr q4).ext hER), ((hn6.fr q4).ext hER), ((hn7.fr q4).ext hER), ((hn8.fr q4).ext hER), ((hn9.fr q4).ext hER), ((hn10.fr q4).ext hER)⟩
 refine Cl_ cl90 (by simp only [evs, ev, e102, e103]; first | done | rfl) hcl ?_
 clear hcl
 rintro _ w7 ⟨rfl, hE7⟩
 refine wl_re (k := 104) (v := .bool false) rfl (congrArg Value.bool (decide_eq_false (by first | exact hs16 | omega | simpa using hs16))) ?_
 exact qy ⟨hE7, rfl⟩
 have e104:=hk.pe 25
 have e100:=hk.pe 21
 refine wl_gyes rfl e100 ?_
 first | exact Nd_ e104 qz | exact Nn_ e104 qz
 have e100:=hk.pe 21
 have e105:=hk.pe 26
 exact Pk_ e100 e105 qz
 exact dm (hk.pe 27)
 exact dn (hk.pe 28)
 exact dn (hk.pe 28)
 exact dn (hk.pe 28)
 exact dn (hk.pe 28)
 exact dn (hk.pe 28)
 exact dn (hk.pe 33)
 exact dn (hk.pe 33)
 exact dn (hk.pe 33)
 exact dn (hk.pe 33)
 exact dn (hk.pe 28)
 have e107:=hk.pe 28
 have e117:=hk.pe 38
 exact Pk_ e107 rfl qz
 intro F wD hED hini hdo
 refine wk_drop [(1, _), (4, _), (118, _)] ⟨di hini 1, di hini 4, dq hdo 39, trivial⟩ ?_
 clear hini hdo
 replace hp:=hp.ext hED
 refine go ?_
 refine wc_cond_t rfl (go ?_)
 refine P1 results91 ?_
 exact ⟨_, rfl, bool_f (fun h => by have := h.2.2.2.2.2 k (by omega); unfold PkAt at this; first | omega | simp_all | (simp_all; omega)), hp.chg⟩
 apply wdL [SP.eq _, SP.eq _, SP.eq (.bool false), SP.eq (.bool true), SP.eq (.bool true), SP.eq undef, SP.eq undef, SP.eq undef, SP.eq undef, SP.eq undef, SP.eq undef, SP.eq undef, SP.eq undef, SP.eq undef, SP.eq undef, SP.eq undef, SP.eq undef, SP.eq undef, SP.eq undef, SP.eq undef, SP.eq (.bool true), SP.eq (.bool true), SP.eq undef, SP.eq undef, SP.eq undef, SP.eq undef, SP.eq undef, SP.eq (.bool true), SP.eq (.bool true), SP.eq undef, SP.eq undef, SP.eq undef, SP.eq undef, SP.eq undef, SP.eq undef, SP.eq undef, SP.eq undef, SP.eq undef, SP.eq undef, SP.eq (.bool true)]
 refine ⟨?_,?_,?_,?_,?_,?_,?_,?_,?_,?_,?_,?_,?_,?_,?_,?_,?_,?_,?_,?_,?_,?_,?_,?_,?_,?_,?_,?_,?_,?_,?_,?_,?_,?_,?_,?_,?_,?_,?_,?_,trivial⟩<;>intro F wF hER hk
 exact Fd_ 0 fld66_0 (hk.pi 5) rfl qz
 exact Hl_ 0 sc3 (hk.pe 0) (hp.ext hER) rfl rfl qz
 have e80:=hk.pe 1
 refine Cl_ cl52 (by simp only [evs, ev, e80]; first | done | rfl) (r12_within) ?_
 rintro _ _ ⟨rfl, rfl⟩
 exact wl_re (k := 81) (v := .bool false) rfl (congrArg Value.bool (decide_eq_false (by first | exact hs10 | omega | simpa using hs10))) qy
 have e81:=hk.pe 2
 first | exact Nd_ e81 qz | exact Nn_ e81 qz
 exact dm (hk.pe 3)
 exact dn (hk.pe 4)
 exact dn (hk.pe 4)
 exact dn (hk.pe 4)
 exact dn (hk.pe 7)
 exact dn (hk.pe 7)
 exact dn (hk.pe 7)
 exact dn (hk.pe 7)
 exact dn (hk.pe 7)
 exact dn (hk.pe 7)
 exact dn (hk.pe 7)
 exact dn (hk.pe 7)
 exact dn (hk.pe 7)
 exact dn (hk.pe 7)
 exact dn (hk.pe 7)
 exact dn (hk.pe 4)
 have e83:=hk.pe 4
 have e98:=hk.pe 19
 exact Pk_ e83 rfl qz
 exact dm (hk.pe 20)
 exact dn (hk.pe 21)
 exact dn (hk.pe 21)
 exact dn (hk.pe 21)
 exact dn (hk.pe 21)
 exact dn (hk.pe 21)
 have e100:=hk.pe 21
 have e105:=hk.pe 26
 exact Pk_ e100 rfl qz
 exact dm (hk.pe 27)
 exact dn (hk.pe 28)
 exact dn (hk.pe 28)
 exact dn (hk.pe 28)
 exact dn (hk.pe 28)
 exact dn (hk.pe 28)
 exact dn (hk.pe 33)
 exact dn (hk.pe 33)
 exact dn (hk.pe 33)
 exact dn (hk.pe 33)
 exact dn (hk.pe 28)
 have e107:=hk.pe 28
 have e117:=hk.pe 38
 exact Pk_ e107 rfl qz
 intro F wD hED hini hdo
 refine wk_drop [(1, _), (4, _), (118, _)] ⟨di hini 1, di hini 4, dq hdo 39, trivial⟩ ?_
 clear hini hdo
 replace hp:=hp.ext hED
 refine go ?_
 refine wc_cond_t rfl (go ?_)
 refine P1 results91 ?_
 exact ⟨_, rfl, bool_f (fun h => by have := h.2.2.2.2.2 k (by omega); unfold PkAt at this; first | omega | simp_all | (simp_all; omega)), hp.chg⟩
 refine go ?_
 refine P1 results91 ?_
 exact ⟨_, rfl, bool_t ⟨hpre.1, hpre.2.1, hpre.2.2.1, hpre.2.2.2, fun i hi => hcs i (by omega), fun i hi => hps i (by omega)⟩, hp.chg⟩
set_option maxHeartbeats 40000000 in
theorem rChange_ok {gr : Nat} {l : List UInt8} {bad : Bool} {X : List Value → It} {pX : Addr} (hp : HP w0 M0 Fz w (itB gr 103 [.slice A l.length c, .bool bad] :: X ([.int .i64 0, .int .i64 0, .int .i64 0, .slice none 0 0, .slice none 0 0, .slice none 0 0]) :: H)) (hS : Slot X pX 6) (hl : GS byteR Fz w A c l) : Ret prog 57 #[.iface 101 (.pointer (some ⟨gr, 0, none⟩)), .pointer (some pX)] w (RdP 103 gr w0 M0 Fz w H X changeR changeP bad l) := by
 refine ret_of_wk func57 rfl ntmps57 leB_ ?_
 refine so ?_
 refine Bx hp (h := fun gs2 wc1 hpc1 hEc1 => ?_)
 replace hp:=hpc1
 obtain ⟨Fzc, hpc2, hsc2, hcap⟩ := (hp.as_ (H' := itB gs2 123 [.iface 101 (pt gr 0)] :: _) rfl).frzBlk
 replace hp:=hpc2
 refine so ?_
 apply wdT 7 [.eq _,.eq _,.eq _,.eq _,.eq _,.eq _,.eq _]
 refine ⟨?_,?_,?_,?_,?_,?_,?_,trivial⟩<;>intro F wF hER hk
 exact Ld_ sc123 (hk.qi 2) (hcap.ext hER).head qz
 exact dm (hk.qi 1)
 exact Nc_ (hk.qe 1) qz
 have e6:=hk.qe 2
 refine Fe_ fld33_0 e6 ?_
 rw [add_zero']
 exact qz
 have e4:=hk.qe 0
 exact wl_makeFunc (first := [.tmp 4]) (cap := []) (by decide) (by simp only [evs, ev, e4]; rfl) rfl qz
 exact wl_nilCheckM (t := 101) (by decide) mt188 (hk.qe 4) qz
 exact dm (hk.qe 0)
 intro F wD hED hini hdo
 refine wl_drop [(1, _), (2, _), (7, _), (10, _)] ⟨di hini 1, di hini 2, dr hdo 3, dr hdo 6, trivial⟩ ?_
 clear hini hdo
 replace hp:=hp.ext hED
 refine Ci rfl (nNum_ok (X := (fun cs => X (([]) ++ (cs ++ ([iv 0, iv 0, s0, s0, s0]))))) (pX := pX) (v0 := 0) hp (hS.sub ([]) ([iv 0, iv 0, s0, s0, s0]) rfl) hl.to (by unfold i64; omega)) ?_
 rintro _ w1 ⟨F1, A1, c1, l1, b1, cs1, x1, hp, hF1, hl1, hrd1, hst1⟩
 obtain ⟨hI1, rfl⟩ := hrd1
 refine so ?_
 refine wP 7 hp (h := fun wD hp hED => ?_)
 refine Ci rfl (nNum_ok (X := (fun cs => X (([iv x1]) ++ (cs ++ ([iv 0, s0, s0, s0]))))) (pX := (pX.add 1)) (v0 := 0) hp (hS.sub ([iv x1]) ([iv 0, s0, s0, s0]) rfl) hl1.to (by unfold i64; omega)) ?_
 rintro _ w2 ⟨F2, A2, c2, l2, b2, cs2, x2, hp, hF2, hl2, hrd2, hst2⟩
 obtain ⟨hI2, rfl⟩ := hrd2
 refine so ?_
 refine wP 7 hp (h := fun wD hp hED => ?_)
 refine Ci rfl (nNum_ok (X := (fun cs => X (([iv x1, iv x2]) ++ (cs ++ ([s0, s0, s0]))))) (pX := (pX.add 2)) (v0 := 0) hp (hS.sub ([iv x1, iv x2]) ([s0, s0, s0]) rfl) hl2.to (by unfold i64; omega)) ?_
 rintro _ w3 ⟨F3, A3, c3, l3, b3, cs3, x3, hp, hF3, hl3, hrd3, hst3⟩
 obtain ⟨hI3, rfl⟩ := hrd3
 refine so ?_
 refine wP 5 hp (h := fun wD hp hED => ?_)
 refine Ce (rListM_ok (X := (fun cs => X (([iv x1, iv x2, iv x3]) ++ (cs ++ ([s0, s0]))))) (pX := (pX.add 3)) (p := markP) (most := 5) (FV := .func (.func 96) ([] : List Value).toArray [Value.pointer (some ⟨gs2, 0, none⟩)].toArray) hp (hS.sub ([iv x1, iv x2, iv x3]) ([s0, s0]) rfl) hl3.to (fun w1 F1 H1 X pa A c l bad hF hp hS hl => RetV.func (first := []) (cap := [pt gs2 0]) (vs := [.pointer (some pa)]) cl96 (rMark_ok hp hS hl (hcap.to.frz hF))) (by decide)) ?_
 rintro _ w4 ⟨F4, A4, c4, l4, b4, cs4, x4, hp, hF4, hl4, hrd4, hst4⟩
 obtain ⟨B4, d4, rfl, hg4⟩ := hrd4
 refine so ?_
 apply wdT 6 [.eq _,.eq _,.eq _,.eq _,.eq _,SP.clo _ 123 132 [.iface 101 (pt gr 0)]]
 refine ⟨?_,?_,?_,?_,?_,?_,trivial⟩<;>intro F wF hER hk
 exact Ld_ sc123 (hk.qi 2) hcap.to.head qz
 exact dm (hk.qi 1)
 exact Nc_ (hk.qe 1) qz
 exact Fe_ fld33_4 (hk.qe 2) qz
 exact Ld_ sc123 (hk.qi 2) hcap.to.head qz
 have e38:=hk.qe 4
 have hcl:=nStand_ok (w := wF) (t := 101) (v0 := pt gr 0)
 refine Cl_ cl98 (by simp only [evs, ev, e38]; first | done | rfl) hcl ?_
 clear hcl
 rintro _ w7 ⟨g7, rfl, hg7, hb7, hE7⟩
 exact qz ⟨hE7, g7, rfl, Nat.le_trans hER.size hg7, hb7⟩
 intro F wD hED hini hdo
 have e1:=di hini 1
 have e2:=di hini 2
 have e34:=dr hdo 0
 have e37:=dr hdo 3
 obtain ⟨u39, e39, h39⟩ := hdo 5 39 (Nat.lt_of_lt_of_eq (by decide) rfl) rfl
 obtain ⟨g39, rfl, hge39, hb39⟩ := h39
 refine wl_drop [(1, _), (2, _), (34, _), (37, _), (39, _)] ⟨e1, e2, e34, e37, e39, trivial⟩ ?_
 clear e1 e2 e34 e37 e39 hini hdo
 obtain ⟨Fz5, hp5, hsub5, hnew5, hup5⟩ := hp.frz hED
 replace hp:=hp5
 have hBq39 : Blk wD g39 123 [.iface 101 (pt gr 0)] := hb39
 have hcq39 : AtF Fz5 wD ⟨g39, 0, none⟩ [.iface 101 (pt gr 0)] := ⟨hBq39.at0, hnew5 _ hge39 hBq39.lt, hBq39.lt⟩
 refine Ce (rListS_ok (X := (fun cs => X (([iv x1, iv x2, iv x3, .slice B4 x4.length d4]) ++ (cs ++ ([s0]))))) (pX := (pX.add 4)) (p := standP) (most := 8) (FV := .func (.func 132) ([] : List Value).toArray [Value.pointer (some ⟨g39, 0, none⟩)].toArray) hp (hS.sub ([iv x1, iv x2, iv x3, .slice B4 x4.length d4]) ([s0]) rfl) hl4.to (fun w1 F1 H1 X pa A c l bad hF hp hS hl => RetV.func (first := []) (cap := [pt g39 0]) (vs := [.pointer (some pa)]) cl132 (rStand_ok hp hS hl (hcq39.frz hF))) (by decide)) ?_
 rintro _ w6 ⟨F6, A6, c6, l6, b6, cs6, x6, hp, hF6, hl6, hrd6, hst6⟩
 obtain ⟨B6, d6, rfl, hg6⟩ := hrd6
 refine so ?_
 apply wdT 6 [.eq _,.eq _,.eq _,.eq _,.eq _,SP.clo _ 123 132 [.iface 101 (pt gr 0)]]
 refine ⟨?_,?_,?_,?_,?_,?_,trivial⟩<;>intro F wF hER hk
 exact Ld_ sc123 (hk.qi 2) hcap.to.head qz
 exact dm (hk.qi 1)
 exact Nc_ (hk.qe 1) qz
 exact Fe_ fld33_5 (hk.qe 2) qz
 exact Ld_ sc123 (hk.qi 2) hcap.to.head qz
 have e45:=hk.qe 4
 have hcl:=nStand_ok (w := wF) (t := 101) (v0 := pt gr 0)
 refine Cl_ cl98 (by simp only [evs, ev, e45]; first | done | rfl) hcl ?_
 clear hcl
 rintro _ w7 ⟨g7, rfl, hg7, hb7, hE7⟩
 exact qz ⟨hE7, g7, rfl, Nat.le_trans hER.size hg7, hb7⟩
 intro F wD hED hini hdo
 have e41:=dr hdo 0
 have e44:=dr hdo 3
 obtain ⟨u46, e46, h46⟩ := hdo 5 46 (Nat.lt_of_lt_of_eq (by decide) rfl) rfl
 obtain ⟨g46, rfl, hge46, hb46⟩ := h46
 refine wl_drop [(41, _), (44, _), (46, _)] ⟨e41, e44, e46, trivial⟩ ?_
 clear e41 e44 e46 hini hdo
 obtain ⟨Fz7, hp7, hsub7, hnew7, hup7⟩ := hp.frz hED
 replace hp:=hp7
 have hBq46 : Blk wD g46 123 [.iface 101 (pt gr 0)] := hb46
 have hcq46 : AtF Fz7 wD ⟨g46, 0, none⟩ [.iface 101 (pt gr 0)] := ⟨hBq46.at0, hnew7 _ hge46 hBq46.lt, hBq46.lt⟩
 refine Ce (rListS_ok (X := (fun cs => X (([iv x1, iv x2, iv x3, .slice B4 x4.length d4, .slice B6 x6.length d6]) ++ (cs ++ ([]))))) (pX := (pX.add 5)) (p := standP) (most := 32) (FV := .func (.func 132) ([] : List Value).toArray [Value.pointer (some ⟨g46, 0, none⟩)].toArray) hp (hS.sub ([iv x1, iv x2, iv x3, .slice B4 x4.length d4, .slice B6 x6.length d6]) ([]) rfl) hl6.to (fun w1 F1 H1 X pa A c l bad hF hp hS hl => RetV.func (first := []) (cap := [pt g46 0]) (vs := [.pointer (some pa)]) cl132 (rStand_ok hp hS hl (hcq46.frz hF))) (by decide)) ?_
 rintro _ w8 ⟨F8, A8, c8, l8, b8, cs8, x8, hp, hF8, hl8, hrd8, hst8⟩
 obtain ⟨B8, d8, rfl, hg8⟩ := hrd8
 refine so ?_
 refine wk_post0 (.inr rfl) results57  ?_
 exact ⟨_, rfl, _, A8, c8, l8, b8, _, ({ node := x1, view := x2, low := x3, marks := x4, p := x6, q := x8 } : Chn), ((hp.up 1 rfl).up 1 rfl), mv, hl8, ⟨⟨hI1, hI2, hI3⟩, _, _, _, _, _, _, rfl, hg4.to, hg6.to, hg8⟩, StepP.bind hst1 (StepP.bind hst2 (StepP.bind hst3 (StepP.bind hst4 (StepP.bind hst6 (StepP.bind hst8 (StepP.pure _ _))))))⟩
set_option maxHeartbeats 40000000 in
theorem rAnswer_ok {gr : Nat} {l : List UInt8} {bad : Bool} {X : List Value → It} {pX : Addr} (hp : HP w0 M0 Fz w (itB gr 103 [.slice A l.length c, .bool bad] :: X ([.int .i64 0, .slice none 0 0, .int .i64 0, .slice none 0 0]) :: H)) (hS : Slot X pX 4) (hl : GS byteR Fz w A c l) : Ret prog 108 #[.iface 101 (.pointer (some ⟨gr, 0, none⟩)), .pointer (some pX)] w (RdP 103 gr w0 M0 Fz w H X ansR ansP bad l) := by
 refine ret_of_wk func108 rfl ntmps108 leB_ ?_
 refine so ?_
 rw [add_zero']
 refine Ld_ sc25 rfl (hp.slotAt (i := 1) hS rfl rfl).head ?_
 refine Alo hp (h := fun gs4 w1 hp hE1 => ?_)
 refine H1 0 hp (h := fun w2 hp hC2 => so ?_)
 replace hp:=((hp.up 0 rfl).up 1 rfl).as_ (H' := itB gr 103 [.slice A l.length c, .bool bad] :: itB gs4 3 ([iv 0]) :: X ([iv 0, s0, iv 0, s0]) :: H) rfl
 refine Ci rfl (nNum_ok (X := (fun cs => itB gs4 3 (([]) ++ (cs ++ ([]))))) (pX := ⟨gs4, 0, none⟩) (v0 := 0) hp (Slot.blk ([]) ([])) hl.to (by unfold i64; omega)) ?_
 rintro _ w3 ⟨F3, A3, c3, l3, b3, cs3, x3, hp, hF3, hl3, hrd3, hst3⟩
 obtain ⟨hI3, rfl⟩ := hrd3
 refine so ?_
 rw [add_zero']
 refine wl_sstore1 0 (i := 2) hS (by rw [add_zero']; rfl) rfl hp rfl rfl sz25 (by decide) rfl ?_
 rintro w4 hp hC4
 refine so ?_
 refine wP 7 hp (h := fun wD hp hED => ?_)
 replace hp:=((hp.up 2 rfl).up 1 rfl).as_ (H' := itB gr 103 ([.slice A3 l3.length c3, .bool b3]) :: X ([iv x3, s0, iv 0, s0]) :: itB gs4 3 ([iv x3]) :: H) rfl
 refine Ci rfl (nStr_ok (X := (fun cs => X (([iv x3]) ++ (cs ++ ([iv 0, s0]))))) (pX := (pX.add 1)) (most := 16) hp (hS.sub ([iv x3]) ([iv 0, s0]) rfl) hl3.to) ?_
 rintro _ w5 ⟨F5, A5, c5, l5, b5, cs5, x5, hp, hF5, hl5, hrd5, hst5⟩
 obtain ⟨B5, d5, rfl, hg5⟩ := hrd5
 refine so ?_
 refine wP 7 hp (h := fun wD hp hED => ?_)
 refine Ci rfl (nNum_ok (X := (fun cs => X (([iv x3, .slice B5 x5.length d5]) ++ (cs ++ ([s0]))))) (pX := (pX.add 2)) (v0 := 0) hp (hS.sub ([iv x3, .slice B5 x5.length d5]) ([s0]) rfl) hl5.to (by unfold i64; omega)) ?_
 rintro _ w6 ⟨F6, A6, c6, l6, b6, cs6, x6, hp, hF6, hl6, hrd6, hst6⟩
 obtain ⟨hI6, rfl⟩ := hrd6
 refine so ?_
 refine wdP 7 hp (fun wD hp hED => by refine pm ?_; exact .op rfl (wl_nilCheckI (by decide) rfl (wl_nil qp)) pl) fun wD hp hED => ?_
 refine Ce (rListI_ok (X := (fun cs => X (([iv x3, .slice B5 x5.length d5, iv x6]) ++ (cs ++ ([]))))) (pX := (pX.add 3)) (p := numP) (most := 7) (FV := .func (.method "bastide/note.num") [Value.iface 101 (pt gr 0)].toArray ([] : List Value).toArray) hp (hS.sub ([iv x3, .slice B5 x5.length d5, iv x6]) ([]) rfl) hl6.to (fun w1 F1 H1 X pa A c l bad hF hp hS hl => RetV.meth (vs := [.pointer (some pa)]) mt188 (nNum_ok (v0 := 0) hp hS hl (by unfold i64; omega))) (by decide)) ?_
 rintro _ w7 ⟨F7, A7, c7, l7, b7, cs7, x7, hp, hF7, hl7, hrd7, hst7⟩
 obtain ⟨B7, d7, rfl, hg7⟩ := hrd7
 replace hg7:=hg7.ints
 refine so ?_
 refine wk_post0 (.inr rfl) results108  ?_
 exact ⟨_, rfl, _, A7, c7, l7, b7, _, ({ err := x3, data := x5, epoch := x6, nodes := x7 } : Ans), (((hp.up 2 rfl).tail.up 1 rfl).up 1 rfl), mv, hl7, ⟨⟨hI3, hI6⟩, _, _, _, _, rfl, hg5.to, hg7⟩, StepP.bind hst3 (StepP.bind hst5 (StepP.bind hst6 (StepP.bind hst7 (StepP.pure _ _))))⟩
theorem chapL_succ (k : Nat) : chapL (k + 1) = chapL k ++ [chapN ((k : Int) + 1)] := by simp [chapL, List.range_succ]
theorem chapL_len (k : Nat) : (chapL k).length = k := by simp [chapL]
theorem chapL_get {k i : Nat} (h : i < k) : (chapL k)[i]? = some (chapN ((i : Int) + 1)) := by simp [chapL, h]
theorem aw_len : (packS ((chapL 16).getD 3 note0)).1.length = 43 := by decide +kernel
end Go.Proofs.YtkdoomglflikkaaGreat
