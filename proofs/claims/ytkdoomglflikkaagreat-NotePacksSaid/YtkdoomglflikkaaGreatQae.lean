/- What each of these functions computes, for every argument that its theorem names; a part of what the proof of NotePacks stands on. -/
import Derived.Test.YtkdoomglflikkaaGreatQac
namespace Go.Proofs.YtkdoomglflikkaaGreat
open Go.RowKit Go.Eng Go.Eng _root_.Go.Proofs.Tryz
set_option maxRecDepth 100000
variable {w0 w : World} {M0 Fz : Nat → Prop} {H : List It} {A : Option Addr} {c : Nat}
def MrkI (x : Mrk) : Prop := i64 x.seq
def ChnI (x : Chn) : Prop := i64 x.node ∧ i64 x.view ∧ i64 x.low
def PckI (x : Pck) : Prop := i64 x.seq
theorem mark_inj {x y : Mrk} : x = y ↔ ([.int .i64 x.seq] ++ (digC x.dig) : List Value) = [.int .i64 y.seq] ++ (digC y.dig) := by
 constructor
 ·rintro rfl; rfl
 ·intro h
  simp only [List.cons_append, List.nil_append, List.cons.injEq, Value.int.injEq, true_and] at h
  cases x; cases y
  simp only [Mrk.mk.injEq]
  exact ⟨h.1, digC_inj.2 h.2⟩
end Go.Proofs.YtkdoomglflikkaaGreat
namespace Go.Proofs.YtkdoomglflikkaaGreat
open Go.ChangeShapes Go.WideShapes Go.ChangeAt Go.RowKit Go.Eng Go.Eng _root_.Go.Proofs.Tryz
set_option maxRecDepth 100000
variable {w0 w : World} {M0 Fz : Nat → Prop} {H : List It} {A : Option Addr} {c : Nat}
theorem Tryz.own : ownKnob Tryz.prog.godebug = none := by kernel_rfl
theorem Tryz.ce3 : Tryz.prog.cellsOf 3 = 1 := by kernel_rfl
theorem Tryz.ce23 : Tryz.prog.cellsOf 23 = 32 := by kernel_rfl
theorem Tryz.ce26 : Tryz.prog.cellsOf 26 = 1 := by kernel_rfl
theorem Tryz.ce27 : Tryz.prog.cellsOf 27 = 1 := by kernel_rfl
theorem Tryz.by68 : Tryz.prog.bytesOf 68 = 112 := by kernel_rfl
theorem Tryz.ce25 : Tryz.prog.cellsOf 25 = 1 := by kernel_rfl
theorem Tryz.ce95 : Tryz.prog.cellsOf 95 = 33 := by kernel_rfl
theorem Tryz.ce30 : Tryz.prog.cellsOf 30 = 1 := by kernel_rfl
theorem Tryz.by97 : Tryz.prog.bytesOf 97 = 48 := by kernel_rfl
theorem Tryz.ce33 : Tryz.prog.cellsOf 33 = 6 := by kernel_rfl
theorem Tryz.ce34 : Tryz.prog.cellsOf 34 = 1 := by kernel_rfl
theorem Tryz.by66 : Tryz.prog.bytesOf 66 = 64 := by kernel_rfl
theorem Tryz.by23 : Tryz.prog.bytesOf 23 = 32 := by kernel_rfl
theorem Tryz.ce38 : Tryz.prog.cellsOf 38 = 58 := by kernel_rfl
end Go.Proofs.YtkdoomglflikkaaGreat
namespace Go.Proofs.YtkdoomglflikkaaGreat
open Go.RowKit Go.Eng Go.Eng _root_.Go.Proofs.Tryz
set_option maxRecDepth 100000
variable {w0 w : World} {M0 Fz : Nat → Prop} {H : List It} {A : Option Addr} {c : Nat}
set_option maxHeartbeats 40000000 in
theorem eqInts_ok {Aa : Option Addr} {ca : Nat} {a : List Int} {Sa : Nat → Prop} {Ab : Option Addr} {cb : Nat} {b : List Int} {Sb : Nat → Prop} (ha : GS intR Sa w Aa ca a) (hb : GS intR Sb w Ab cb b) : Ret prog 49 #[.slice Aa a.length ca, .slice Ab b.length cb] w (fun v w' => v = .bool (decide (a = b)) ∧ Ext w w') := by
 have mha:=ha.mx
 have mhb:=hb.mx
 refine ret_of_wk func49 rfl ntmps49 leB_ ?_
 refine so ?_
 refine Cd ?_ ?_<;>intro hne
 refine so ?_
 refine Pt ?_
 exact ⟨_, rfl, bool_f (fun e => hne (by rw [e])), me⟩
 have hll : a.length = b.length := by omega
 refine so ?_
 refine Lp [0, 1, 5] (fun L' w' mes => ∃ (k : Nat), L' = [(0, .slice Aa a.length ca), (1, .slice Ab b.length cb), (5, iv (k : Int))] ∧ (k ≤ a.length) ∧ (a.take k = b.take k) ∧ Ext w w' ∧ a.length - k = mes) (a.length - 0) (by
     refine ⟨0, rfl, ?_, ?_, me, rfl⟩
     omega
     simp) ?_
 rintro _ wr _ ⟨k, rfl, hk, htk, hEq0, rfl⟩ KL1 hKL1
 refine so ?_
 refine Cd ?_ ?_<;>intro hlt
 refine so ?_
 obtain ⟨aw2, hAw2, hatw2⟩ := GS.elI (ha.to (w' := wr)) k (by omega)
 obtain ⟨aw6, hAw6, hatw6⟩ := GS.elI (hb.to (w' := wr)) k (by omega)
 refine wdE 9 (fun wD hED => pl) fun wD hED => so ?_
 refine Cd ?_ ?_<;>intro hne2<;>refine so ?_
 refine Pt ?_
 exact ⟨_, rfl, bool_f (fun e => hne2 (by rw [e])), me⟩
 refine Kl [0, 1, 5] hKL1 (a.length - (k + 1)) ⟨(k + 1), rfl, by omega, ?_, me, rfl⟩ (by omega)
 rw [take_snoc 0 (by omega : k < a.length), take_snoc 0 (by omega : k < b.length), htk, Decidable.not_not.1 hne2]
 have hkl : k = a.length := by omega
 refine so ?_
 refine Pt ?_
 exact ⟨_, rfl, bool_t (by rw [hkl, List.take_length, hll, List.take_length] at htk; exact htk), me⟩
set_option maxHeartbeats 40000000 in
theorem seqI_ok {Aa : Option Addr} {ca : Nat} {a : List Int} {Sa : Nat → Prop} {Ab : Option Addr} {cb : Nat} {b : List Int} {Sb : Nat → Prop} (ha : GS intR Sa w Aa ca a) (hb : GS intR Sb w Ab cb b) : Ret prog 67 #[.slice Aa a.length ca, .slice Ab b.length cb] w (fun v w' => v = .bool (decide (a = b)) ∧ Ext w w') := by
 have mha:=ha.mx
 have mhb:=hb.mx
 refine ret_of_wk func67 rfl ntmps67 leB_ ?_
 refine so ?_
 refine Cd ?_ ?_<;>intro hne
 refine so ?_
 refine Pt ?_
 exact ⟨_, rfl, bool_f (fun e => hne (by rw [e])), me⟩
 have hll : a.length = b.length := by omega
 refine so ?_
 refine Lp [0, 1, 12, 13] (fun L' w' mes => ∃ (k : Nat), L' = [(0, .slice Aa a.length ca), (1, .slice Ab b.length cb), (12, iv (a.length : Int)), (13, iv (k : Int))] ∧ (k ≤ a.length) ∧ (a.take k = b.take k) ∧ Ext w w' ∧ a.length - k = mes) (a.length - 0) (by
     refine ⟨0, rfl, ?_, ?_, me, rfl⟩
     omega
     simp) ?_
 rintro _ wr _ ⟨k, rfl, hk, htk, hEq0, rfl⟩ KL1 hKL1
 refine so ?_
 refine Cd ?_ ?_<;>intro hlt
 refine so ?_
 obtain ⟨aw2, hAw2, hatw2⟩ := GS.elI (ha.to (w' := wr)) k (by omega)
 obtain ⟨aw6, hAw6, hatw6⟩ := GS.elI (hb.to (w' := wr)) k (by omega)
 refine wdE 9 (fun wD hED => pl) fun wD hED => so ?_
 refine Cd ?_ ?_<;>intro hne2<;>refine so ?_
 refine Pt ?_
 exact ⟨_, rfl, bool_f (fun e => hne2 (by rw [e])), me⟩
 refine Kl [0, 1, 12, 13] hKL1 (a.length - (k + 1)) ⟨(k + 1), rfl, by omega, ?_, me, rfl⟩ (by omega)
 rw [take_snoc 0 (by omega : k < a.length), take_snoc 0 (by omega : k < b.length), htk, Decidable.not_not.1 hne2]
 have hkl : k = a.length := by omega
 refine so ?_
 refine Pt ?_
 exact ⟨_, rfl, bool_t (by rw [hkl, List.take_length, hll, List.take_length] at htk; exact htk), me⟩
def plain8 (w : Wsh) : List Int := [w.client, w.stamp, w.group, w.epoch, w.kind, w.block, w.old, w.new]
def SameL (a b : Nte) : Prop := a.changes = b.changes ∧ a.picks = b.picks ∧ a.digs = b.digs ∧ a.batch = b.batch ∧ a.data = b.data ∧ a.nodes = b.nodes
instance (a b : Nte) : Decidable (SameL a b) := by unfold SameL; infer_instance
def ownW (w : Wsh) : Wsh := if w.kind = 5 then { wish0 with group := w.group, epoch := w.epoch, kind := w.kind, next := w.next }
 else { wish0 with client := w.client, stamp := w.stamp, group := w.group, epoch := w.epoch, kind := w.kind, block := w.block, data := if w.kind = 2 then w.data else [], old := if w.kind = 4 then w.old else 0, new := if w.kind = 4 then w.new else 0 }
set_option maxHeartbeats 40000000 in
theorem crew_ok {Al : Option Addr} {cl : Nat} {l : List Int} {Sl : Nat → Prop} (hl : GS intR Sl w Al cl l) : Ret prog 157 #[.slice Al l.length cl] w (fun v w' => v = .bool (decide (nextMay l)) ∧ w' = w) := by
 refine ret_of_wk func157 rfl ntmps157 leB_ ?_
 refine so ?_
 refine wl_rem (by decide) rfl rfl (by decide) (Int.tmod_eq_emod_of_nonneg (by omega)) ?_
 refine so ?_
 refine Gs 10 ?_ ?_<;>intro hg1<;>refine so ?_
 refine aT (so ?_)
 refine Pt ?_
 exact ⟨_, rfl, bool_f (fun h => by have := h.1; omega), rfl⟩
 refine Cd ?_ ?_<;>intro hc2<;>refine so ?_
 refine Pt ?_
 exact ⟨_, rfl, bool_f (fun h => by have := h.1; omega), rfl⟩
 refine Lp [3, 15, 16, 17] (fun L' w' mes => ∃ (k : Nat), ∃ (last : Int), L' = [(3, iv last), (15, .slice Al l.length cl), (16, iv (l.length : Int)), (17, iv (k : Int))] ∧ (k ≤ l.length) ∧ (∀ i, i < k → 1 ≤ l.getD i 0 ∧ l.getD i 0 ≤ 28 ∧ (0 < i → l.getD (i - 1) 0 < l.getD i 0)) ∧ (l.length = 1 ∨ l.length = 4 ∨ l.length = 7) ∧ ((k = 0 ∧ last = 0) ∨ (0 < k ∧ last = l.getD (k - 1) 0 ∧ 1 ≤ last)) ∧ (w = w') ∧ l.length - k = mes) (l.length - 0) (by
     refine ⟨0, 0, rfl, by omega, ?_, by omega, .inl ⟨rfl, rfl⟩, ?_, rfl⟩
     intro i hi; omega
     rfl) ?_
 rintro _ wr _ ⟨k, last, rfl, hk, hall, hln, hla, hw_, rfl⟩ KL1 hKL1
 subst hw_
 refine so ?_
 refine Cd ?_ ?_<;>intro hc3<;>refine so ?_
 obtain ⟨ae1, hAe1, hate1⟩ := GS.elI hl k (by omega)
 refine so ?_
 refine Gs 24 ?_ ?_<;>intro hg4<;>refine so ?_
 refine aT (so ?_)
 refine Pt ?_
 exact ⟨_, rfl, bool_f (fun h => by have h1 := h.2 k (by omega); rcases hla with h2 | h2; omega; have := h1.2.2 (by omega); rw [← h2.2.1] at this; omega), rfl⟩
 refine Cd ?_ ?_<;>intro hc5<;>refine so ?_
 refine Pt ?_
 exact ⟨_, rfl, bool_f (fun h => by have h1 := h.2 k (by omega); rcases hla with h2 | h2; omega; have := h1.2.2 (by omega); rw [← h2.2.1] at this; omega), rfl⟩
 refine Kl [3, 15, 16, 17] hKL1 (l.length - (k + 1)) ⟨(k + 1), (l.getD k 0), rfl, by omega, ?_, hln, .inr ⟨by omega, rfl, by omega⟩, ?_, rfl⟩ (by omega)
 exact upto hall ⟨by omega, by omega, fun h0 => by rcases hla with h | h; omega; rw [← h.2.1]; omega⟩
 rfl
 refine Pt ?_
 exact ⟨_, rfl, bool_t ⟨hln, fun i hi => hall i (by omega)⟩, rfl⟩
set_option maxHeartbeats 40000000 in
theorem fIIdx_ok {Al : Option Addr} {cl : Nat} {l : List Int} {Sl : Nat → Prop} {fid : Nat} {first cap : List Value} {p0 : Int → Prop} [DecidablePred p0] (hl : GS intR Sl w Al cl l) (hcl0 : callable prog fid = true) (hf : ∀ w1 x, Ext w w1 → Ret prog fid (first ++ [Value.int .i64 x] ++ cap).toArray w1 fun v w2 => v = Value.bool (decide (p0 x)) ∧ Ext w1 w2) : Ret prog 138 #[.slice Al l.length cl, .func (.func fid) first.toArray cap.toArray] w (fun v w' => ∃ r : Int, v = .int .i64 r ∧ (0 ≤ r ↔ ∃ x ∈ l, p0 x) ∧ Ext w w') := by
 have mhl:=hl.mx
 refine ret_of_wk func138 rfl ntmps138 leB_ ?_
 refine so ?_
 refine Lp [0, 1, 7, 8] (fun L' w' mes => ∃ (k : Nat), L' = [(0, .slice Al l.length cl), (1, .func (.func fid) first.toArray cap.toArray), (7, iv (l.length : Int)), (8, iv (k : Int))] ∧ (k ≤ l.length) ∧ (∀ x ∈ l.take k, ¬ p0 x) ∧ (GS intR Sl w' Al cl l) ∧ (Ext w w') ∧ l.length - k = mes) (l.length - 0) ⟨0, rfl, by omega, by simp, hl, me, rfl⟩ ?_
 rintro _ wr _ ⟨k, rfl, hk, hall, hl, hEc, rfl⟩ KL1 hKL1
 refine so ?_
 refine Cd ?_ ?_<;>intro hc1<;>refine so ?_
 obtain ⟨ae1, hAe1, hate1⟩ := GS.elI hl k (by omega)
 refine so ?_
 have hcl:=hf _ (l.getD k 0) hEc
 refine wl_callv (f := fid) (first := first) (cap := cap) (vs := [_]) (by decide) hcl0 rfl rfl hcl ?_
 clear hcl
 rintro _ w7 ⟨rfl, hE7⟩
 refine so ?_
 refine Cd ?_ ?_<;>intro hq<;>refine so ?_
 refine Pt ?_
 exact ⟨_, rfl, _, rfl, ⟨fun _ => ⟨_, getD_mem (by omega), hq⟩, fun _ => by omega⟩, me⟩
 exact Kl [0, 1, 7, 8] hKL1 (l.length - (k + 1)) ⟨(k + 1), rfl, by omega, forall_take hall (by omega) hq, hl.to, me, rfl⟩ (by omega)
 refine Pt ?_
 exact ⟨_, rfl, _, rfl, ⟨fun h => absurd h (by decide), fun ⟨x, hx, hpx⟩ => absurd hpx (hall x (by rw [show k = l.length by omega, List.take_length]; exact hx))⟩, hEc⟩
def RiseI (l : List Int) : Prop := ∀ i, i < l.length → 0 < i → l.getD (i - 1) 0 < l.getD i 0
instance (l : List Int) : Decidable (RiseI l) := by unfold RiseI; infer_instance
def orI : List Int → Int
 | [] => 0
 | x :: t => if x = 0 then orI t else x
set_option maxHeartbeats 4000000 in
theorem bcompare_ok {Aa : Option Addr} {ca : Nat} {a : List UInt8} {Sa : Nat → Prop} {Ab : Option Addr} {cb : Nat} {b : List UInt8} {Sb : Nat → Prop} {w : World} (ha : GS byteR Sa w Aa ca a) (hb : GS byteR Sb w Ab cb b) : Ret Tryz.prog 150 #[.slice Aa a.length ca, .slice Ab b.length cb] w (fun v w' => v = .int .i64 (Lib.compareBytes a b) ∧ Ext w w') := by
 have mha := ha.mx
 have mhb := hb.mx
 refine ret_of_wk Tryz.func150 rfl Tryz.ntmps150 (Nat.le_of_ble_eq_true rfl) ?_
 have hEc : Ext w w := Chg.refl _ _
 refine wc_seq ?_
 refine wc_region ?_
 refine wl_assign (by decide) rfl ?_
 refine wl_nil ?_
 refine wk_norm ?_
 refine wc_seq ?_
 refine wc_region ?_
 refine wl_move (by decide) rfl ?_
 refine wl_move (by decide) rfl ?_
 refine wl_cmpB (by decide) (by kernel_rfl) rfl ha hb ?_
 refine wl_assign (by decide) rfl ?_
 refine wl_nil ?_
 refine wk_norm ?_
 refine wc_ret ?_
 refine wk_post1 (.inl rfl) Tryz.results150 rfl ?_
 exact ⟨_, rfl, by rfl, hEc⟩
def CntF (f : Value → Option Value) (l : List Stn) : Prop := ∀ s : Int, f (.int .i64 s) = if cntQ l s = 0 then none else some (.int .i64 (cntQ l s : Nat))
theorem cntQ_le (l : List Stn) (s : Int) (k : Nat) (h : k ≤ l.length) : cntQ (l.take k) s ≤ k := by
 unfold cntQ
 have := List.length_filter_le (fun x : Stn => decide (x.seq = s)) (l.take k)
 rw [List.length_take] at this
 omega
theorem cntM_next {l : List Stn} {k : Nat} (h : k < l.length) : cntM (l.take (k + 1)) (l.getD k stand0).seq (l.getD k stand0).dig = cntM (l.take k) (l.getD k stand0).seq (l.getD k stand0).dig + 1 := by
 rw [take_snoc stand0 h, cntM_snoc]; simp
def mseq (cg : Chn) (k : Nat) : List Int := (cg.marks.take k).map (·.seq)
theorem PkAt_iff {l : List Pck} {g e : Int} {j : Nat} : PkAt l g e j ↔ isSeq (l.getD j pick0).seq ∧ (0 < j → IntKind.i64.wrap ((l.getD j pick0).seq - 1) = (l.getD (j - 1) pick0).seq) ∧ BatchMay (l.getD j pick0).batch g e ∧ ¬ ((l.getD j pick0).dig = dig0 ∧ 0 < (l.getD j pick0).batch.length) := by
 unfold PkAt isSeq
 constructor
 ·rintro ⟨a1, a2, a3, a4, a5⟩
  exact ⟨⟨a1, a2⟩, fun h0 => by rw [w64 (by omega) (by omega)]; exact a3 h0, a4, a5⟩
 ·rintro ⟨⟨a1, a2⟩, a3, a4, a5⟩
  exact ⟨a1, a2, fun h0 => by have := a3 h0; rw [w64 (by omega) (by omega)] at this; exact this, a4, a5⟩
theorem t0_nTook_ok {p : Prop} (h : p := by first | exact ⟨_, rfl, _, A, c, l, by simp_all, by simp_all, by simp_all, hp, mv, hl.to⟩ | exact ⟨_, rfl, _, B, d, t, by simp_all, by simp_all, fun _ => rfl, hp, mv, ht.to⟩) : p := h
set_option maxHeartbeats 40000000 in
theorem nTook_ok {gr : Nat} {l : List UInt8} {bad : Bool} {B : Option Addr} {d : Nat} {t : List UInt8} {e : Int} (hp : HP w0 M0 Fz w (itB gr 103 [.slice A l.length c, .bool bad] :: H)) (hl : GS byteR Fz w A c l) (ht : GS byteR Fz w B d t) : Ret prog 192 #[.pointer (some ⟨gr, 0, none⟩), .slice B t.length d, .int .i64 e] w (fun v w2 => ∃ bad' A' c' l', v = .bool (!bad') ∧ bad' = (bad || decide (e ≠ 0)) ∧ (bad' = false → l' = t) ∧ HP w0 M0 Fz w2 (itB gr 103 [.slice A' (l' : List UInt8).length c', .bool bad'] :: H) ∧ Frz Fz Fz w w2 ∧ GS byteR Fz w2 A' c' l') := by
 refine ret_of_wk func192 rfl ntmps192 leB_ ?_
 refine so ?_
 refine Gs 12 ?_ ?_<;>intro hg1<;>refine so ?_
 refine H1 0 hp (h := fun w1 hp hC1 => ?_)
 replace hp:=hp.ay (itB gr 103 ([.slice A l.length c, .bool true]) :: _)
 refine so ?_
 refine aF (so ?_)
 refine Pt ?_
 exact t0_nTook_ok
 refine H1 0 hp (h := fun w2 hp hC2 => ?_)
 replace hp:=hp.ay (itB gr 103 ([.slice A l.length c, .bool (decide (e ≠ 0))]) :: _)
 refine so ?_
 refine Cd ?_ ?_<;>intro hc2<;>refine so ?_
 refine H1 0 hp (h := fun w3 hp hC3 => ?_)
 replace hp:=hp.ay (itB gr 103 ([.slice B t.length d, .bool (decide (e ≠ 0))]) :: _)
 refine so ?_
 refine Pt ?_
 exact t0_nTook_ok
 refine Pt ?_
 exact t0_nTook_ok
theorem fix32 {l : List UInt8} (h : (fixS l 32).2.2 = 0) : (fixS l 32).1.length = 32 := by
 unfold fixS at h ⊢
 rw [if_neg (by omega)] at h ⊢
 by_cases hl : (l.length : Int) < 32
 ·rw [if_pos hl] at h; cases h
 ·rw [if_neg hl]; simp; omega
theorem many_lim {bad bad' : Bool} {l l' : List UInt8} {x most : Int} (h : StepP (manyP most) (rst bad l) (rst bad' l') x) (hb : bad' = false) : (0 ≤ x ∧ x ≤ 9007199254740991) ∧ x ≤ most := by
 subst hb
 cases bad with
 | true => cases h
 | false => exact (many_cod most).back l x l' h |>.2
theorem flat_take_le {α : Type} (E : α → List UInt8) (l : List α) (k : Nat) : (flatE E (l.take k)).length ≤ (flatE E l).length := by
 conv => rhs; rw [← List.take_append_drop k l]
 unfold flatE
 rw [List.map_append, List.flatten_append, List.length_append]
 omega
theorem str_good {s : List UInt8} (h : s.length ≤ 65536) : strS s = (strE s, 0) := by rw [strS, if_neg (by omega)]; rfl
theorem wish_parts (x : Wsh) : [flatE numE [x.kind, x.client, x.stamp, x.group, x.epoch, x.block], strE x.data, flatE numE [x.old, x.new, (x.next.length : Int)], flatE numE x.next].flatten = wishE x := by
 simp only [flatE, List.map_cons, List.map_nil, List.flatten_cons, List.flatten_nil, List.append_nil, wishE, listE, List.append_assoc]
theorem getD_may {l : List Wsh} (h : ∀ x ∈ l, WishMay x) {k : Nat} (hk : k < l.length) : WishMay (l.getD k wish0) := by
 rw [List.getD_eq_getElem?_getD, List.getElem?_eq_getElem hk]
 exact h _ (List.getElem_mem hk)
theorem num_is {n : Int} (hn : isNum n) : numS n = (numE n, 0) := by
 unfold isNum at hn
 rw [numS, if_neg (by omega)]; rfl
set_option maxHeartbeats 4000000 in
theorem nStand_ok {w : World} {t : Nat} {v0 : Value}  : Ret Tryz.prog 98 #[.iface t v0] w (fun v w2 => ∃ g, v = .func (.func 132) ([] : List Value).toArray [Value.pointer (some ⟨g, 0, none⟩)].toArray ∧ w.heap.size ≤ g ∧ w2.heap[g]? = some (.cells [Value.iface t v0].toArray 123 (0, 0)) ∧ Ext w w2) := by
 refine ret_of_wk Tryz.func98 rfl Tryz.ntmps98 (Nat.le_of_ble_eq_true rfl) ?_
 have hEc : Ext w w := Chg.refl _ _
 refine wc_seq ?_
 refine wc_region ?_
 refine wl_box (by decide) rfl ?_
 rintro gs1 w1 hg1 hb1 hE1
 replace hEc := hEc.trans hE1
 refine wl_assign (by decide) rfl ?_
 refine wl_nil ?_
 refine wk_norm ?_
 refine wc_seq ?_
 refine wc_region ?_
 refine wl_makeFunc (first := []) (cap := [.tmp 1]) (by decide) rfl rfl ?_
 refine wl_assign (by decide) rfl ?_
 refine wl_nil ?_
 refine wk_norm ?_
 refine wc_ret ?_
 refine wk_post1 (.inl rfl) Tryz.results98 rfl ?_
 exact ⟨_, rfl, gs1, rfl, by rw [hg1]; exact Nat.le_refl _, hb1, hEc⟩
theorem t0_wEnd_ok {p : Prop} (h : p := by first | rfl | (simp_all; done) | (simp_all; omega) | (simp_all; intros; omega) | (split <;> simp_all)) : p := h
set_option maxHeartbeats 40000000 in
theorem wEnd_ok {gr : Nat} {l : List UInt8} {e : Int} (hp : HP w0 M0 Fz w (itB gr 207 [.slice A l.length c, .int .i64 e] :: H)) (_hl : GS byteR Fz w A c l) : Ret prog 198 #[.pointer (some ⟨gr, 0, none⟩)] w (fun v w2 => ∃ e2 e3, v = .int .i64 e2 ∧ (e2 = if e = 0 ∧ 0 < l.length then 4 else e) ∧ HP w0 M0 Fz w2 (itB gr 207 [.slice A l.length c, .int .i64 e3] :: H) ∧ Frz Fz Fz w w2) := by
 refine ret_of_wk func198 rfl ntmps198 leB_ ?_
 refine so ?_
 refine Gs 8 ?_ ?_<;>intro hg1<;>refine so ?_
 refine Cd ?_ ?_<;>intro hc2<;>refine so ?_
 refine H1 0 hp (h := fun w1 hp hC1 => ?_)
 replace hp:=hp.ay (itB gr 207 ([.slice A l.length c, iv 4]) :: _)
 refine so ?_
 refine Pt ?_
 exact ⟨_, rfl, _, _, rfl, t0_wEnd_ok, (hp.up 0 rfl), mv⟩
 refine Pt ?_
 exact ⟨_, rfl, _, _, rfl, t0_wEnd_ok, (hp.up 0 rfl), mv⟩
 refine aF (so ?_)
 refine Pt ?_
 exact ⟨_, rfl, _, _, rfl, t0_wEnd_ok, (hp.up 0 rfl), mv⟩
def unbS (l : List UInt8) : Option (List Wsh) := match blistP l with
 | some (x, u) => if u = [] then some x else none
 | none => none
theorem changes_few {b t : List UInt8} {n : Nte} (h : noteP b = some (n, t)) : n.changes.length ≤ 7 := by
 obtain ⟨_, hok, ho⟩ := note_back b n t h
 by_cases k9 : n.kind = 9
 ·have h1 := hok.2.2.2.2
  unfold bodyOk at h1
  rw [if_neg (by omega), if_neg (by omega), if_neg (by omega), if_neg (by omega), if_neg (by omega), if_neg (by omega), if_neg (by omega), if_pos k9] at h1
  have h2 := h1.2.1.1
  omega
 ·have h1 : (ownN n).changes = [] := by
   unfold ownN
   simp only [if_neg k9, apply_ite Nte.changes]
   simp [note0]
  rw [ho] at h1
  rw [h1]
  exact Nat.zero_le _
def ChnB (x : Chn) : Prop := x.marks.length * 40 ≤ 140737488355328 ∧ x.p.length * 48 ≤ 140737488355328 ∧ x.q.length * 48 ≤ 140737488355328
end Go.Proofs.YtkdoomglflikkaaGreat
namespace Go.Proofs.YtkdoomglflikkaaGreat
open Go.RowKit Go.Eng _root_.Go.Proofs.Tryz Go.Eng _root_.Go.Proofs.Tryz
set_option maxRecDepth 100000
variable {w0 w : World} {M0 Fz : Nat → Prop} {H : List It} {A : Option Addr} {c : Nat}
def RowW (F : Nat → Prop) (w : World) (rows : List (List Value)) (k : Nat) : Prop := ∀ i, i < k → ∃ cs v B m d, rows[i]? = some cs ∧ cs[5]? = some (iv v) ∧ cs[6]? = some (.slice B m d) ∧ m ≤ 140737488355328 ∧ IntsAt F w .u8 B m 1 0
end Go.Proofs.YtkdoomglflikkaaGreat
namespace Go.Proofs.YtkdoomglflikkaaGreat
open Go.Eng Go.RowKit Go.Eng _root_.Go.Proofs.Tryz
set_option maxRecDepth 100000
variable {w0 w : World} {M0 Fz : Nat → Prop} {H : List It} {A : Option Addr} {c : Nat}
theorem WshAt.keep {S M : Nat → Prop} {w w' : World} {A : Option Addr} {n : Nat} (h : WshAt S w A n) (ch : Chg M w w') (hm : ∀ b, b < w.heap.size → S b → ¬ M b) : WshAt S w' A n := fun i hi => by
 obtain ⟨a, hA, h1, B, m, d, h2, h3, h4⟩ := h i hi
 have h5 := h1.inS
 rw [block_add] at h5
 have h6 := World.block_lt_of_cell? w _ h2
 rw [block_add] at h6
 exact ⟨a, hA, h1.keep ch hm, B, m, d, ch.cell h2 (by rw [block_add]; exact hm _ h6 h5), h3, h4.keep ch hm⟩
def SP.ansN (lo : Nat) (x : Ans) : SP := ⟨fun v w => ∃ A c B d, v = .agg [iv x.err, .slice A x.data.length c, iv x.epoch, .slice B x.nodes.length d].toArray ∧ OwnRow 5 1 lo w A x.data.length c (x.data.map bv) ∧ OwnRow 3 1 lo w B x.nodes.length d (x.nodes.map fun z => .int .i64 z), by
 rintro _ w w' ch ⟨A, c, B, d, rfl, h1, h2⟩
 exact ⟨A, c, B, d, rfl, h1.ext ch, h2.ext ch⟩⟩
end Go.Proofs.YtkdoomglflikkaaGreat
namespace Go.Proofs.YtkdoomglflikkaaGreat
open Go.RowKit Go.Eng Go.Eng _root_.Go.Proofs.Tryz
set_option maxRecDepth 100000
variable {w0 w : World} {M0 Fz : Nat → Prop} {H : List It} {A : Option Addr} {c : Nat}
def dgt (b : UInt8) : Dig := ⟨[b, 1, 2, 0, 0, 0, 0, 0, 0, 0, 0, 0, 0, 0, 0, 0, 0, 0, 0, 0, 0, 0, 0, 0, 0, 0, 0, 0, 0, 0, 0, 0], rfl⟩
def wshB : Wsh := ⟨32, 1, 1, 2, 2, 7, List.replicate 16 0, 0, 0, []⟩
theorem packS_pm {n : Nte} (h : PackMay n) : packS n = (noteE n, 0) := if_pos h
def headE (x : Wsh) : List UInt8 := numE x.kind ++ (numE x.client ++ (numE x.stamp ++ (numE x.group ++ (numE x.epoch ++ numE x.block))))
def pieceE (x : Nte) : List UInt8 := numE x.seq ++ (digE x.dig ++ (numE x.level ++ (numE x.place ++ (if x.kind = 10 then [] else listE digE x.digs ++ strE x.data))))
end Go.Proofs.YtkdoomglflikkaaGreat
