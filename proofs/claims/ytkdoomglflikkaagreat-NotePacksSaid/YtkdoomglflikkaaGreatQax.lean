/- What each of these functions computes, for every argument that its theorem names; a part of what the proof of NotePacks stands on. -/
import Derived.Test.YtkdoomglflikkaaGreatQac
import Derived.Test.YtkdoomglflikkaaGreatQad
import Derived.Test.YtkdoomglflikkaaGreatQae
import Derived.Test.YtkdoomglflikkaaGreatQag
import Derived.Test.YtkdoomglflikkaaGreatQah
import Derived.Test.YtkdoomglflikkaaGreatQaj
import Derived.Test.YtkdoomglflikkaaGreatQak
import Derived.Test.YtkdoomglflikkaaGreatQan
import Derived.Test.YtkdoomglflikkaaGreatQap
import Derived.Test.YtkdoomglflikkaaGreatQat
import Derived.Test.YtkdoomglflikkaaGreatQau
namespace Go.Proofs.YtkdoomglflikkaaGreat
open Go.RowKit Go.Eng Go.Eng _root_.Go.Proofs.Tryz
set_option maxRecDepth 100000
variable {w0 w : World} {M0 Fz : Nat → Prop} {H : List It} {A : Option Addr} {c : Nat}
set_option maxHeartbeats 40000000 in
theorem rSameLists_ok {csa : List Value} {a : Nte} {Sa : Nat → Prop} {csb : List Value} {b : Nte} {Sb : Nat → Prop} (ha : noteR.rd Sa w csa a) (hb : noteR.rd Sb w csb b) : Ret prog 50 #[.agg csa.toArray, .agg csb.toArray] w (fun v w' => v = .bool (decide (SameL a b)) ∧ Ext w w') := by
 obtain ⟨hIa, Aa0, ca0, Aa1, ca1, Aa2, ca2, Aa3, ca3, Aa4, ca4, Aa5, ca5, Aa6, ca6, Aa7, ca7, Aa8, ca8, Aa9, ca9, Aa10, ca10, rfl, ha0, ha1, ha2, ha3, ha4, ha5, ha6, ha7, ha8, ha9, ha10⟩ := ha
 obtain ⟨hIb, Ab0, cb0, Ab1, cb1, Ab2, cb2, Ab3, cb3, Ab4, cb4, Ab5, cb5, Ab6, cb6, Ab7, cb7, Ab8, cb8, Ab9, cb9, Ab10, cb10, rfl, hb0, hb1, hb2, hb3, hb4, hb5, hb6, hb7, hb8, hb9, hb10⟩ := hb
 have mha0:=ha0.mx
 have mha1:=ha1.mx
 have mha2:=ha2.mx
 have mha3:=ha3.mx
 have mha4:=ha4.mx
 have mha5:=ha5.mx
 have mha6:=ha6.mx
 have mha7:=ha7.mx
 have mha8:=ha8.mx
 have mha9:=ha9.mx
 have mha10:=ha10.mx
 have mhb0:=hb0.mx
 have mhb1:=hb1.mx
 have mhb2:=hb2.mx
 have mhb3:=hb3.mx
 have mhb4:=hb4.mx
 have mhb5:=hb5.mx
 have mhb6:=hb6.mx
 have mhb7:=hb7.mx
 have mhb8:=hb8.mx
 have mhb9:=hb9.mx
 have mhb10:=hb10.mx
 refine ret_of_wk func50 rfl ntmps50 leB_ ?_
 have hp:=HP.begin_ w
 refine so ?_
 refine Bx hp (h := fun gs2 w1 hp hE1 => ?_)
 refine Bx hp (h := fun gs3 w2 hp hE2 => so ?_)
 refine Gs 17 ?_ ?_<;>intro hg1<;>refine so ?_
 refine aT (so ?_)
 refine Pt ?_
 exact ⟨_, rfl, bool_f (fun h => by have := h.lens; omega), hp.chg⟩
 refine Gs 26 ?_ ?_<;>intro hg2<;>refine so ?_
 refine aT (so ?_)
 refine Pt ?_
 exact ⟨_, rfl, bool_f (fun h => by have := h.lens; omega), hp.chg⟩
 refine Cd ?_ ?_<;>intro hc3<;>refine so ?_
 refine Pt ?_
 exact ⟨_, rfl, bool_f (fun h => by have := h.lens; omega), hp.chg⟩
 refine Lp [2, 3, 5] (fun L' w' mes => ∃ (k : Nat), L' = [(2, pt gs2 0), (3, pt gs3 0), (5, iv (k : Int))] ∧ (k ≤ a.changes.length) ∧ (a.changes.take k = b.changes.take k) ∧ (a.changes.length = b.changes.length ∧ a.picks.length = b.picks.length ∧ a.digs.length = b.digs.length) ∧ (GS wishR (fun b => b < w.heap.size) w' Aa0 ca0 a.batch) ∧ (GS byteR (fun b => b < w.heap.size) w' Aa1 ca1 a.ans.data) ∧ (GS intR (fun b => b < w.heap.size) w' Aa2 ca2 a.ans.nodes) ∧ (GS markR (fun b => b < w.heap.size) w' Aa3 ca3 a.change.marks) ∧ (GS standR (fun b => b < w.heap.size) w' Aa4 ca4 a.change.p) ∧ (GS standR (fun b => b < w.heap.size) w' Aa5 ca5 a.change.q) ∧ (GS changeR (fun b => b < w.heap.size) w' Aa6 ca6 a.changes) ∧ (GS pickR (fun b => b < w.heap.size) w' Aa7 ca7 a.picks) ∧ (GS digR (fun b => b < w.heap.size) w' Aa8 ca8 a.digs) ∧ (GS byteR (fun b => b < w.heap.size) w' Aa9 ca9 a.data) ∧ (GS intR (fun b => b < w.heap.size) w' Aa10 ca10 a.nodes) ∧ (GS wishR (fun b => b < w.heap.size) w' Ab0 cb0 b.batch) ∧ (GS byteR (fun b => b < w.heap.size) w' Ab1 cb1 b.ans.data) ∧ (GS intR (fun b => b < w.heap.size) w' Ab2 cb2 b.ans.nodes) ∧ (GS markR (fun b => b < w.heap.size) w' Ab3 cb3 b.change.marks) ∧ (GS standR (fun b => b < w.heap.size) w' Ab4 cb4 b.change.p) ∧ (GS standR (fun b => b < w.heap.size) w' Ab5 cb5 b.change.q) ∧ (GS changeR (fun b => b < w.heap.size) w' Ab6 cb6 b.changes) ∧ (GS pickR (fun b => b < w.heap.size) w' Ab7 cb7 b.picks) ∧ (GS digR (fun b => b < w.heap.size) w' Ab8 cb8 b.digs) ∧ (GS byteR (fun b => b < w.heap.size) w' Ab9 cb9 b.data) ∧ (GS intR (fun b => b < w.heap.size) w' Ab10 cb10 b.nodes) ∧ (HP w (fun _ => False) (fun b => b < w.heap.size) w' (itB gs3 38 ([iv b.kind, iv b.from_, iv b.group, iv b.epoch, iv b.view, iv b.seq] ++ (digC b.dig ++ ([.slice Ab0 b.batch.length cb0, iv b.ans.err, .slice Ab1 b.ans.data.length cb1, iv b.ans.epoch, .slice Ab2 b.ans.nodes.length cb2, iv b.stamp, iv b.node, iv b.change.node, iv b.change.view, iv b.change.low, .slice Ab3 b.change.marks.length cb3, .slice Ab4 b.change.p.length cb4, .slice Ab5 b.change.q.length cb5, .slice Ab6 b.changes.length cb6, .slice Ab7 b.picks.length cb7, iv b.level, iv b.place, .slice Ab8 b.digs.length cb8, .slice Ab9 b.data.length cb9, .slice Ab10 b.nodes.length cb10]))) :: itB gs2 38 ([iv a.kind, iv a.from_, iv a.group, iv a.epoch, iv a.view, iv a.seq] ++ (digC a.dig ++ ([.slice Aa0 a.batch.length ca0, iv a.ans.err, .slice Aa1 a.ans.data.length ca1, iv a.ans.epoch, .slice Aa2 a.ans.nodes.length ca2, iv a.stamp, iv a.node, iv a.change.node, iv a.change.view, iv a.change.low, .slice Aa3 a.change.marks.length ca3, .slice Aa4 a.change.p.length ca4, .slice Aa5 a.change.q.length ca5, .slice Aa6 a.changes.length ca6, .slice Aa7 a.picks.length ca7, iv a.level, iv a.place, .slice Aa8 a.digs.length ca8, .slice Aa9 a.data.length ca9, .slice Aa10 a.nodes.length ca10]))) :: [])) ∧ a.changes.length - k = mes) (a.changes.length - 0) ⟨0, rfl, by omega, by simp, by omega, ha0.tn, ha1.tn, ha2.tn, ha3.tn, ha4.tn, ha5.tn, ha6.tn, ha7.tn, ha8.tn, ha9.tn, ha10.tn, hb0.tn, hb1.tn, hb2.tn, hb3.tn, hb4.tn, hb5.tn, hb6.tn, hb7.tn, hb8.tn, hb9.tn, hb10.tn, hp, rfl⟩ ?_
 rintro _ wc _ ⟨k, rfl, hk, htkc, hll, ha0, ha1, ha2, ha3, ha4, ha5, ha6, ha7, ha8, ha9, ha10, hb0, hb1, hb2, hb3, hb4, hb5, hb6, hb7, hb8, hb9, hb10, hp, rfl⟩ KL1 hKL1
 refine so ?_
 refine Cd ?_ ?_<;>intro hc4<;>refine so ?_
 obtain ⟨aw3, pw3_0, qw3_0, pw3_1, qw3_1, pw3_2, qw3_2, hAw3, hatw3, hIw3, hw3_0, hw3_1, hw3_2⟩ := changeR_el ha6 k (by omega)
 obtain ⟨aw8, pw8_0, qw8_0, pw8_1, qw8_1, pw8_2, qw8_2, hAw8, hatw8, hIw8, hw8_0, hw8_1, hw8_2⟩ := changeR_el hb6 k (by omega)
 refine wdP 12 hp (fun wD hp hED => by refine pm ?_; exact PLe (r12SameChange_ok ⟨hIw3, _, _, _, _, _, _, rfl, hw3_0.to, hw3_1.to, hw3_2.to⟩ ⟨hIw8, _, _, _, _, _, _, rfl, hw8_0.to, hw8_1.to, hw8_2.to⟩) (h := pl)) fun wD hp hED => ?_
 refine so ?_
 refine Cd ?_ ?_<;>intro hc5<;>refine so ?_
 refine Pt ?_
 exact ⟨_, rfl, bool_f (fun h => by obtain ⟨h1, h2, h3, _⟩ := h; simp [h1] at hg1 hg2 hc3 hc4 hc5), hp.chg⟩
 refine Kl [2, 3, 5] hKL1 (a.changes.length - (k + 1)) ⟨(k + 1), rfl, by omega, ?_, hll, ha0.to, ha1.to, ha2.to, ha3.to, ha4.to, ha5.to, ha6.to, ha7.to, ha8.to, ha9.to, ha10.to, hb0.to, hb1.to, hb2.to, hb3.to, hb4.to, hb5.to, hb6.to, hb7.to, hb8.to, hb9.to, hb10.to, hp, rfl⟩ (by omega)
 rw [take_snoc change0 (by omega : k < a.changes.length), take_snoc change0 (by omega : k < b.changes.length), htkc]; (try simp only [Decidable.not_not, ne_eq] at hg1 hg2 hc3 hc4 hc5); simp only [hc5]
 refine Lp [2, 3, 6] (fun L' w' mes => ∃ (k : Nat), L' = [(2, pt gs2 0), (3, pt gs3 0), (6, iv (k : Int))] ∧ (k ≤ a.picks.length) ∧ (a.picks.take k = b.picks.take k) ∧ (a.changes = b.changes) ∧ (GS wishR (fun b => b < w.heap.size) w' Aa0 ca0 a.batch) ∧ (GS byteR (fun b => b < w.heap.size) w' Aa1 ca1 a.ans.data) ∧ (GS intR (fun b => b < w.heap.size) w' Aa2 ca2 a.ans.nodes) ∧ (GS markR (fun b => b < w.heap.size) w' Aa3 ca3 a.change.marks) ∧ (GS standR (fun b => b < w.heap.size) w' Aa4 ca4 a.change.p) ∧ (GS standR (fun b => b < w.heap.size) w' Aa5 ca5 a.change.q) ∧ (GS changeR (fun b => b < w.heap.size) w' Aa6 ca6 a.changes) ∧ (GS pickR (fun b => b < w.heap.size) w' Aa7 ca7 a.picks) ∧ (GS digR (fun b => b < w.heap.size) w' Aa8 ca8 a.digs) ∧ (GS byteR (fun b => b < w.heap.size) w' Aa9 ca9 a.data) ∧ (GS intR (fun b => b < w.heap.size) w' Aa10 ca10 a.nodes) ∧ (GS wishR (fun b => b < w.heap.size) w' Ab0 cb0 b.batch) ∧ (GS byteR (fun b => b < w.heap.size) w' Ab1 cb1 b.ans.data) ∧ (GS intR (fun b => b < w.heap.size) w' Ab2 cb2 b.ans.nodes) ∧ (GS markR (fun b => b < w.heap.size) w' Ab3 cb3 b.change.marks) ∧ (GS standR (fun b => b < w.heap.size) w' Ab4 cb4 b.change.p) ∧ (GS standR (fun b => b < w.heap.size) w' Ab5 cb5 b.change.q) ∧ (GS changeR (fun b => b < w.heap.size) w' Ab6 cb6 b.changes) ∧ (GS pickR (fun b => b < w.heap.size) w' Ab7 cb7 b.picks) ∧ (GS digR (fun b => b < w.heap.size) w' Ab8 cb8 b.digs) ∧ (GS byteR (fun b => b < w.heap.size) w' Ab9 cb9 b.data) ∧ (GS intR (fun b => b < w.heap.size) w' Ab10 cb10 b.nodes) ∧ (HP w (fun _ => False) (fun b => b < w.heap.size) w' (itB gs3 38 ([iv b.kind, iv b.from_, iv b.group, iv b.epoch, iv b.view, iv b.seq] ++ (digC b.dig ++ ([.slice Ab0 b.batch.length cb0, iv b.ans.err, .slice Ab1 b.ans.data.length cb1, iv b.ans.epoch, .slice Ab2 b.ans.nodes.length cb2, iv b.stamp, iv b.node, iv b.change.node, iv b.change.view, iv b.change.low, .slice Ab3 b.change.marks.length cb3, .slice Ab4 b.change.p.length cb4, .slice Ab5 b.change.q.length cb5, .slice Ab6 b.changes.length cb6, .slice Ab7 b.picks.length cb7, iv b.level, iv b.place, .slice Ab8 b.digs.length cb8, .slice Ab9 b.data.length cb9, .slice Ab10 b.nodes.length cb10]))) :: itB gs2 38 ([iv a.kind, iv a.from_, iv a.group, iv a.epoch, iv a.view, iv a.seq] ++ (digC a.dig ++ ([.slice Aa0 a.batch.length ca0, iv a.ans.err, .slice Aa1 a.ans.data.length ca1, iv a.ans.epoch, .slice Aa2 a.ans.nodes.length ca2, iv a.stamp, iv a.node, iv a.change.node, iv a.change.view, iv a.change.low, .slice Aa3 a.change.marks.length ca3, .slice Aa4 a.change.p.length ca4, .slice Aa5 a.change.q.length ca5, .slice Aa6 a.changes.length ca6, .slice Aa7 a.picks.length ca7, iv a.level, iv a.place, .slice Aa8 a.digs.length ca8, .slice Aa9 a.data.length ca9, .slice Aa10 a.nodes.length ca10]))) :: [])) ∧ a.picks.length - k = mes) (a.picks.length - 0) ⟨0, rfl, by omega, by simp, take_all htkc (by omega) (by omega), ha0, ha1, ha2, ha3, ha4, ha5, ha6, ha7, ha8, ha9, ha10, hb0, hb1, hb2, hb3, hb4, hb5, hb6, hb7, hb8, hb9, hb10, hp, rfl⟩ ?_
 rintro _ wp _ ⟨k, rfl, hk, htkp, hec, ha0, ha1, ha2, ha3, ha4, ha5, ha6, ha7, ha8, ha9, ha10, hb0, hb1, hb2, hb3, hb4, hb5, hb6, hb7, hb8, hb9, hb10, hp, rfl⟩ KL2 hKL2
 refine so ?_
 refine Cd ?_ ?_<;>intro hc6<;>refine so ?_
 obtain ⟨aw3, pw3_0, qw3_0, hAw3, hatw3, hIw3, hw3_0⟩ := pickR_el ha7 k (by omega)
 obtain ⟨aw8, pw8_0, qw8_0, hAw8, hatw8, hIw8, hw8_0⟩ := pickR_el hb7 k (by omega)
 apply wc_drawW 13 10 11 12 7 8 66 (.agg #[iv 0, .int .u8 0, .int .u8 0, .int .u8 0, .int .u8 0, .int .u8 0, .int .u8 0, .int .u8 0, .int .u8 0, .int .u8 0, .int .u8 0, .int .u8 0, .int .u8 0, .int .u8 0, .int .u8 0, .int .u8 0, .int .u8 0, .int .u8 0, .int .u8 0, .int .u8 0, .int .u8 0, .int .u8 0, .int .u8 0, .int .u8 0, .int .u8 0, .int .u8 0, .int .u8 0, .int .u8 0, .int .u8 0, .int .u8 0, .int .u8 0, .int .u8 0, .int .u8 0, s0] : Value).cells.toList ([iv ((a.picks.getD k pick0).seq)] ++ (digC ((a.picks.getD k pick0).dig) ++ ([.slice pw3_0 ((a.picks.getD k pick0).batch).length qw3_0]))) [SP.eq _, SP.eq _, SP.eq _, SP.eq _, SP.eq _, SP.eq _, SP.eq _, SP.eq _, SP.eq _, SP.eq _, SP.any, SP.any, SP.any] (by kernel_rfl) (by kernel_rfl) (by kernel_rfl) (by kernel_rfl) ⟨.inr (fun _ _ _ _ h => h), .inr (fun _ _ _ _ h => h), .inr (fun _ _ _ _ h => h), .inr (fun _ _ _ _ h => h), .inr (fun _ _ _ _ h => h), .inr (fun _ _ _ _ h => h), .inr (fun _ _ _ _ h => h), .inr (fun _ _ _ _ h => h), .inr (fun _ _ _ _ h => h), .inr (fun _ _ _ _ h => h), .inr (fun _ _ _ _ _ => trivial), .inr (fun _ _ _ _ _ => trivial), .inr (fun _ _ _ _ _ => trivial), trivial⟩ leB_
 refine ⟨?_,?_,?_,?_,?_,?_,?_,?_,?_,?_,?_,?_,?_,trivial⟩<;>intro F wF hER hk hEE
 have e2:=hk.qi 2
 refine Fd_ 52 fld38_13 e2 rfl ?_
 exact qz ⟨RlW.o (by decide) (by decide) (by decide) (Chg.refl _ _), rfl⟩
 have e61:=hk.qe 0
 refine Hl_ 1 sc35 e61 (hp.ext hER) rfl rfl ?_
 exact qz ⟨RlW.o (by decide) (by decide) (by decide) (Chg.refl _ _), rfl⟩
 have e6:=hk.qi 6
 refine Mv_ e6 ?_
 exact qz ⟨RlW.o (by decide) (by decide) (by decide) (Chg.refl _ _), rfl⟩
 have e62:=hk.qe 1
 have e63:=hk.qe 2
 refine wl_idx0 (by decide) sl35 e62 e63 hAw3 k rfl (by omega) ?_
 exact qz ⟨RlW.o (by decide) (by decide) (by decide) (Chg.refl _ _), rfl⟩
 have e64:=hk.qe 3
 refine wl_loadA (by decide) ag66 e64 (hatw3.ext hER).at_ rfl ?_
 exact qz ⟨RlW.o (by decide) (by decide) (by decide) (Chg.refl _ _), rfl⟩
 have e3:=hk.qi 3
 refine Fd_ 52 fld38_13 e3 rfl ?_
 exact qz ⟨RlW.o (by decide) (by decide) (by decide) (Chg.refl _ _), rfl⟩
 have e66:=hk.qe 5
 refine Hl_ 0 sc35 e66 (hp.ext hER) rfl rfl ?_
 exact qz ⟨RlW.o (by decide) (by decide) (by decide) (Chg.refl _ _), rfl⟩
 have e6:=hk.qi 6
 refine Mv_ e6 ?_
 exact qz ⟨RlW.o (by decide) (by decide) (by decide) (Chg.refl _ _), rfl⟩
 have e67:=hk.qe 6
 have e68:=hk.qe 7
 refine wl_idx0 (by decide) sl35 e67 e68 hAw8 k rfl (by omega) ?_
 exact qz ⟨RlW.o (by decide) (by decide) (by decide) (Chg.refl _ _), rfl⟩
 have e69:=hk.qe 8
 refine wl_loadA (by decide) ag66 e69 (hatw8.ext hER).at_ rfl ?_
 exact qz ⟨RlW.o (by decide) (by decide) (by decide) (Chg.refl _ _), rfl⟩
 refine wl_alloc (z := .agg #[iv 0, .int .u8 0, .int .u8 0, .int .u8 0, .int .u8 0, .int .u8 0, .int .u8 0, .int .u8 0, .int .u8 0, .int .u8 0, .int .u8 0, .int .u8 0, .int .u8 0, .int .u8 0, .int .u8 0, .int .u8 0, .int .u8 0, .int .u8 0, .int .u8 0, .int .u8 0, .int .u8 0, .int .u8 0, .int .u8 0, .int .u8 0, .int .u8 0, .int .u8 0, .int .u8 0, .int .u8 0, .int .u8 0, .int .u8 0, .int .u8 0, .int .u8 0, .int .u8 0, s0]) (by decide) (by kernel_rfl) ?_
 rintro g7 w7 hg7 hb7 hE7
 subst hg7
 exact qz ⟨RlW.a (.inl rfl) (by decide) hb7 hE7, trivial⟩
 refine wl_alloc (z := .agg #[iv 0, .int .u8 0, .int .u8 0, .int .u8 0, .int .u8 0, .int .u8 0, .int .u8 0, .int .u8 0, .int .u8 0, .int .u8 0, .int .u8 0, .int .u8 0, .int .u8 0, .int .u8 0, .int .u8 0, .int .u8 0, .int .u8 0, .int .u8 0, .int .u8 0, .int .u8 0, .int .u8 0, .int .u8 0, .int .u8 0, .int .u8 0, .int .u8 0, .int .u8 0, .int .u8 0, .int .u8 0, .int .u8 0, .int .u8 0, .int .u8 0, .int .u8 0, .int .u8 0, s0]) (by decide) (by kernel_rfl) ?_
 rintro g7 w7 hg7 hb7 hE7
 subst hg7
 exact qz ⟨RlW.a (.inr rfl) (by decide) hb7 hE7, trivial⟩
 have e65:=hk.qe 4
 obtain ⟨g7, hg7, hb7⟩ := hEE rfl
 refine wl_storeB2 hg7 e65 hb7 sz66 leB_ (List.all_eq_true.1 rfl) ?_
 intro w7 hb8 hC7
 exact wl_nil (qr_none ⟨RlW.f hg7 hC7 hb8, trivial⟩)
 intro F wD hED hini hdo hWW
 obtain ⟨gs7, gs8, hWn, hWA, hWB, e7, e8, hbA, hbB⟩ := hWW
 refine wl_drop [(2, _), (3, _), (6, _), (7, _), (8, _), (70, _)] ⟨di hini 2, di hini 3, di hini 6, e7, e8, dr hdo 9, trivial⟩ ?_
 clear e7 e8 hini hdo
 replace hp:=hp.add2 hED hbA hbB hWn hWA hWB
 refine Hs 1 hp (h := fun w3 hp hC3 => so ?_)
 refine Gs 76 ?_ ?_<;>intro hg7<;>refine so ?_
 refine aT (so ?_)
 refine Pt ?_
 exact ⟨_, rfl, bool_f (fun h => by obtain ⟨h1, h2, h3, _⟩ := h; simp [h2] at hg1 hg2 hc3 hc4 hc6 hg7), hp.chg⟩
 refine wl_neqK (m := 6) ((a.picks.getD k pick0).dig = (b.picks.getD k pick0).dig) (by decide) key23 eg23 rfl rfl (digC_fit _) (digC_fit _) digC_inj ?_
 refine so ?_
 refine Gs 83 ?_ ?_<;>intro hg8<;>refine so ?_
 refine aT (so ?_)
 refine Pt ?_
 exact ⟨_, rfl, bool_f (fun h => by obtain ⟨h1, h2, h3, _⟩ := h; simp [h2] at hg1 hg2 hc3 hc4 hc6 hg7 hg8), hp.chg⟩
 refine Cx hp (alike_ok hw3_0.to hw8_0.to) fun w4 hp hE4 => so ?_
 refine Cd ?_ ?_<;>intro hc9<;>refine so ?_
 refine Pt ?_
 exact ⟨_, rfl, bool_f (fun h => by obtain ⟨h1, h2, h3, _⟩ := h; simp [h2] at hg1 hg2 hc3 hc4 hc6 hg7 hg8 hc9), hp.chg⟩
 refine Kl [2, 3, 6] hKL2 (a.picks.length - (k + 1)) ⟨(k + 1), rfl, by omega, ?_, hec, ha0.to, ha1.to, ha2.to, ha3.to, ha4.to, ha5.to, ha6.to, ha7.to, ha8.to, ha9.to, ha10.to, hb0.to, hb1.to, hb2.to, hb3.to, hb4.to, hb5.to, hb6.to, hb7.to, hb8.to, hb9.to, hb10.to, hp.tail.tail, rfl⟩ (by omega)
 rw [take_snoc pick0 (by omega : k < a.picks.length), take_snoc pick0 (by omega : k < b.picks.length), htkp]; (try simp only [Decidable.not_not, ne_eq] at hg1 hg2 hc3 hc4 hc6 hg7 hg8 hc9); rw [show (a.picks.getD k pick0) = (b.picks.getD k pick0) from Pck_eq.2 ⟨by simp only [hg7], by simp only [hg8], by simp only [hc9]⟩]
 refine Lp [2, 3, 9] (fun L' w' mes => ∃ (k : Nat), L' = [(2, pt gs2 0), (3, pt gs3 0), (9, iv (k : Int))] ∧ (k ≤ a.digs.length) ∧ (a.digs.take k = b.digs.take k) ∧ (a.picks = b.picks) ∧ Ext wp w' ∧ a.digs.length - k = mes) (a.digs.length - 0) (by
     refine ⟨0, rfl, ?_, ?_, ?_, me, rfl⟩
     omega
     simp
     exact take_all htkp (by omega) (by omega)) ?_
 rintro _ wd _ ⟨k, rfl, hk, htkd, hep, hEq0, rfl⟩ KL3 hKL3
 replace hp:=hp.ext hEq0
 refine so ?_
 refine Cd ?_ ?_<;>intro hc10<;>refine so ?_
 obtain ⟨aw3, hAw3, hatw3⟩ := GS.elD (ha8.to (w' := wd)) k (by omega)
 obtain ⟨aw8, hAw8, hatw8⟩ := GS.elD (hb8.to (w' := wd)) k (by omega)
 refine wdP 11 hp (fun wD hp hED => by refine pm ?_; exact .op rfl (wl_neqK (m := 6) ((a.digs.getD k dig0) = (b.digs.getD k dig0)) (by decide) key23 eg23 rfl rfl (digC_fit _) (digC_fit _) digC_inj (wl_nil qp)) pl) fun wD hp hED => ?_
 refine so ?_
 refine Cd ?_ ?_<;>intro hc11<;>refine so ?_
 refine Pt ?_
 exact ⟨_, rfl, bool_f (fun h => by obtain ⟨h1, h2, h3, _⟩ := h; simp [h3] at hg1 hg2 hc3 hc4 hc6 hc10 hc11), hp.chg⟩
 refine Kl [2, 3, 9] hKL3 (a.digs.length - (k + 1)) ⟨(k + 1), rfl, by omega, ?_, hep, me, rfl⟩ (by omega)
 rw [take_snoc dig0 (by omega : k < a.digs.length), take_snoc dig0 (by omega : k < b.digs.length), htkd]; (try simp only [Decidable.not_not, ne_eq] at hg1 hg2 hc3 hc4 hc6 hc10 hc11); simp only [hc11]
 refine Cx hp (alike_ok ha0.to hb0.to) fun w5 hp hE5 => so ?_
 refine Gs 114 ?_ ?_<;>intro hg12<;>refine so ?_
 refine Cx hp (eqBytes_ok ha9.to hb9.to) fun w6 hp hE6 => so ?_
 refine Gs 121 ?_ ?_<;>intro hg13<;>refine so ?_
 refine Cx hp (eqInts_ok ha10.to hb10.to) fun w7 hp hE7 => so ?_
 refine Pt ?_
 have hed:=take_all htkd (by omega) (by omega)
 exact ⟨_, rfl, congrArg Value.bool (by unfold SameL; simp [hec, hep, hed, hg12, hg13]), hp.chg⟩
 refine Pt ?_
 have hed:=take_all htkd (by omega) (by omega)
 exact ⟨_, rfl, congrArg Value.bool (by unfold SameL; simp [hec, hep, hed, hg12, hg13]), hp.chg⟩
 refine Pt ?_
 have hed:=take_all htkd (by omega) (by omega)
 exact ⟨_, rfl, congrArg Value.bool (by unfold SameL; simp [hec, hep, hed, hg12]), hp.chg⟩
set_option maxHeartbeats 40000000 in
theorem nBatchMay_ok {Al : Option Addr} {cl : Nat} {l : List Wsh} {Sl : Nat → Prop} {csn : List Value} {n : Nte} {Sn : Nat → Prop} (hl : GS wishR Sl w Al cl l) (hn : noteR.rd Sn w csn n) : Ret prog 100 #[.slice Al l.length cl, .agg csn.toArray] w (fun v w' => v = .bool (decide (BatchMay l n.group n.epoch)) ∧ Ext w w') := by
 have qhn:=hn
 obtain ⟨hIn, An0, cn0, An1, cn1, An2, cn2, An3, cn3, An4, cn4, An5, cn5, An6, cn6, An7, cn7, An8, cn8, An9, cn9, An10, cn10, rfl, hn0, hn1, hn2, hn3, hn4, hn5, hn6, hn7, hn8, hn9, hn10⟩ := hn
 refine ret_of_wk func100 rfl ntmps100 leB_ ?_
 have hp:=HP.begin_ w
 refine so ?_
 refine Bx hp (h := fun gs3 w1 hp hE1 => so ?_)
 refine Gs 8 ?_ ?_<;>intro hg1<;>refine so ?_
 have hblk:=hp.blkAt (i := 0) rfl
 have hatb : AtF (fun _ => True) _ _ _ := ⟨hblk.at0, trivial, hblk.lt⟩
 have hrdb : noteR.rd (fun b => b < w.heap.size) _ _ n := (rdTn qhn (w' := w1))
 refine Cx hp (fWCon_ok (fid := 135) (first := []) (cap := [pt gs3 0]) (p0 := fun x => ¬ BM n.group n.epoch x) hl.tn cl135 (fun w1 cs x hE hr => batchMay1_ok hr (hatb.ext hE) (noteR.keep hE (fun _ _ _ x => x) hrdb))) fun w7 hp hE7 => so ?_
 refine Pt ?_
 exact ⟨_, rfl, congrArg Value.bool (decide_eq_decide.2 (by unfold BatchMay; first | omega | (simp_all; try omega))), hp.chg⟩
 refine Pt ?_
 exact ⟨_, rfl, bool_f (by unfold BatchMay; first | omega | (simp_all; try omega)), hp.chg⟩
set_option maxHeartbeats 40000000 in
theorem qStr_ok {out : List UInt8} {s : List UInt8} {B : Option Addr} {d : Nat} (hp : HP w0 M0 Fz w (itR 5 1 A out.length c (out.map bv) :: H)) (hs : GS byteR Fz w B d s) (hn : s.length ≤ 65536) (hlen : out.length + (strE s).length ≤ 1000000) : Ret prog 44 #[.slice A out.length c, .slice B s.length d] w (RwP 5 w0 M0 Fz w H (out ++ strE s)) := by
 have hFr:=Frz.start Fz w
 refine ret_of_wk func44 rfl ntmps44 leB_ ?_
 refine go ?_
 refine Cl_ cl76 rfl (rstr_is hs hn) ?_
 rintro _ w1 ⟨A1, c1, rfl, ho1, hE1⟩
 replace hFr:=hFr.ext hE1
 replace hp:=hp.ext hE1
 refine go ?_
 refine wl_happendB (i := 0) (l2 := (strE s)) (by decide) sl26 rfl rfl hp rfl ho1.bs (by omega) ?_
 rintro A2 c2 w2 hp2 hC2
 replace hFr:=hFr.fz hC2
 replace hp:=(hp2.ay (itR 5 1 A2 ((out ++ (strE s))).length c2 (((out ++ (strE s))).map bv) :: H))
 refine go ?_
 refine P1 results44 ?_
 exact ⟨_, rfl, _, _, rfl, hp.less hFr.sub, hFr.chg, fun _ h => h⟩
theorem chapL_succ (k : Nat) : chapL (k + 1) = chapL k ++ [chapN ((k : Int) + 1)] := by simp [chapL, List.range_succ]
theorem aw_len : (packS ((chapL 16).getD 3 note0)).1.length = 43 := by decide +kernel
end Go.Proofs.YtkdoomglflikkaaGreat
