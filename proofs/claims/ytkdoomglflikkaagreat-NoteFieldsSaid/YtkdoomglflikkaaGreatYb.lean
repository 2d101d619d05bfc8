/- Part 2 of 5 of what the proofs of chapter 12 share: the engine, then what each function computes, printed short by a program. -/
import Derived.Test.YtkdoomglflikkaaGreatYa
namespace Go.Eng
def ltD : List UInt8 → List UInt8 → Bool
 | x :: r, y :: t => if x = y then ltD r t else decide (x.toNat < y.toNat)
 | _, _ => false
def mark0 : Mrk := ⟨0, dig0⟩
def stand0 : Stn := ⟨0, dig0, 0⟩
def wish0 : Wsh := ⟨0, 0, 0, 0, 0, 0, [], 0, 0, []⟩
def pick0 : Pck := ⟨0, dig0, []⟩
def OrdLt (x y : Stn) : Prop := x.seq < y.seq ∨ x.seq = y.seq ∧ (x.view < y.view ∨ x.view = y.view ∧ ltD x.dig.l y.dig.l = true)
instance (x y : Stn) : Decidable (OrdLt x y) := by unfold OrdLt; infer_instance
def cntQ (l : List Stn) (s : Int) : Nat := (l.filter fun x => decide (x.seq = s)).length
theorem cntQ_snoc (l : List Stn) (x : Stn) (s : Int) : cntQ (l ++ [x]) s = cntQ l s + (if x.seq = s then 1 else 0) := by
 unfold cntQ
 rw [List.filter_append, List.length_append]
 by_cases h : x.seq = s <;> simp [h]
def StandAt (l : List Stn) (low view : Int) (many : Nat) (i : Nat) : Prop :=
 low < (l.getD i stand0).seq ∧ (l.getD i stand0).seq ≤ low + 8 ∧ 0 ≤ (l.getD i stand0).view ∧ (l.getD i stand0).view < view ∧ (0 < i → OrdLt (l.getD (i - 1) stand0) (l.getD i stand0)) ∧
 cntQ (l.take (i + 1)) (l.getD i stand0).seq ≤ many ∧ (∀ k, k < i → ¬ ((l.getD k stand0).seq = (l.getD i stand0).seq ∧ (l.getD k stand0).dig = (l.getD i stand0).dig))
instance (l : List Stn) (low view : Int) (many i : Nat) : Decidable (StandAt l low view many i) := by unfold StandAt; infer_instance
def StandsMay (l : List Stn) (low view : Int) (many : Nat) : Prop := ∀ i, i < l.length → StandAt l low view many i
instance (l : List Stn) (low view : Int) (many : Nat) : Decidable (StandsMay l low view many) := by unfold StandsMay; infer_instance
def MarksRise (l : List Mrk) : Prop := ∀ i, i < l.length → 0 < i → (l.getD (i - 1) mark0).seq < (l.getD i mark0).seq ∧ (l.getD i mark0).seq ≤ 9007199254740991
instance (l : List Mrk) : Decidable (MarksRise l) := by unfold MarksRise; infer_instance
def ChangeMay (c : Chn) : Prop := 1 ≤ c.node ∧ c.node ≤ 28 ∧ 1 ≤ c.view ∧ c.view ≤ 1048576 ∧ 0 ≤ c.low ∧ c.low ≤ 9007199254740983 ∧ 1 ≤ c.marks.length ∧ c.marks.length ≤ 5 ∧ (c.marks.getD 0 mark0).seq = c.low ∧
 MarksRise c.marks ∧ StandsMay c.p c.low c.view 1 ∧ StandsMay c.q c.low c.view 4
instance (c : Chn) : Decidable (ChangeMay c) := by unfold ChangeMay; infer_instance
def BM (g e : Int) (w : Wsh) : Prop := WishMay w ∧ w.group = g ∧ w.epoch = e
instance (g e : Int) (w : Wsh) : Decidable (BM g e w) := by unfold BM; infer_instance
def BatchMay (l : List Wsh) (g e : Int) : Prop := l.length ≤ 4 ∧ ∀ x ∈ l, BM g e x
instance (l : List Wsh) (g e : Int) : Decidable (BatchMay l g e) := by unfold BatchMay; infer_instance
def AnswerMay (a : Ans) : Prop := 0 ≤ a.err ∧ a.err ≤ 999 ∧ a.data.length ≤ 16 ∧ 0 ≤ a.epoch ∧ a.epoch ≤ 1048576 ∧ a.nodes.length ≤ 7 ∧ ∀ y ∈ a.nodes, 1 ≤ y ∧ y ≤ 28
instance (a : Ans) : Decidable (AnswerMay a) := by unfold AnswerMay; infer_instance
def ChAt (l : List Chn) (v : Int) (i : Nat) : Prop := ChangeMay (l.getD i change0) ∧ (l.getD i change0).view = v ∧ (0 < i → (l.getD (i - 1) change0).node < (l.getD i change0).node)
instance (l : List Chn) (v : Int) (i : Nat) : Decidable (ChAt l v i) := by unfold ChAt; infer_instance
def PkAt (l : List Pck) (g e : Int) (i : Nat) : Prop := 1 ≤ (l.getD i pick0).seq ∧ (l.getD i pick0).seq ≤ 9007199254740991 ∧ (0 < i → (l.getD i pick0).seq - 1 = (l.getD (i - 1) pick0).seq) ∧ BatchMay (l.getD i pick0).batch g e ∧
 ¬ ((l.getD i pick0).dig = dig0 ∧ 0 < (l.getD i pick0).batch.length)
instance (l : List Pck) (g e : Int) (i : Nat) : Decidable (PkAt l g e i) := by unfold PkAt; infer_instance
def NewMay (n : Nte) : Prop := 1 ≤ n.changes.length ∧ n.changes.length ≤ 7 ∧ n.picks.length ≤ 8 ∧ 1 ≤ n.view ∧ (∀ i, i < n.changes.length → ChAt n.changes n.view i) ∧ (∀ i, i < n.picks.length → PkAt n.picks n.group n.epoch i)
instance (n : Nte) : Decidable (NewMay n) := by unfold NewMay; infer_instance
def isView (v : Int) : Prop := 0 ≤ v ∧ v ≤ 1048576
instance (v : Int) : Decidable (isView v) := by unfold isView; infer_instance
def isSeq (v : Int) : Prop := 1 ≤ v ∧ v ≤ 9007199254740991
instance (v : Int) : Decidable (isSeq v) := by unfold isSeq; infer_instance
def WishNote (n : Nte) : Prop := n.batch.length = 1 ∧ BatchMay n.batch n.group n.epoch ∧ 31 ≤ n.from_ ∧ n.from_ ≤ 34 ∧ (n.batch.getD 0 wish0).client = n.from_ ∧ (n.kind = 1 ∨ (n.batch.getD 0 wish0).kind = 1)
instance (n : Nte) : Decidable (WishNote n) := by unfold WishNote; infer_instance
def FitsN (n : Nte) : Prop :=
 if n.kind = 1 ∨ n.kind = 14 then WishNote n
 else if n.kind = 2 then 31 ≤ n.node ∧ n.node ≤ 34 ∧ 0 ≤ n.stamp ∧ n.stamp ≤ 9007199254740991 ∧ AnswerMay n.ans
 else if n.kind = 3 then isView n.view ∧ isSeq n.seq ∧ BatchMay n.batch n.group n.epoch
 else if n.kind = 4 ∨ n.kind = 5 then isView n.view ∧ isSeq n.seq
 else if n.kind = 6 ∨ n.kind = 13 then isSeq n.seq
 else if n.kind = 7 then ChangeMay n.change ∧ n.change.node = n.from_
 else if n.kind = 8 then isView n.view ∧ 0 < n.view ∧ 1 ≤ n.node ∧ n.node ≤ 28 ∧ n.node ≠ n.from_
 else if n.kind = 9 then NewMay n
 else if n.kind = 10 ∨ n.kind = 11 then isSeq n.seq ∧ 0 ≤ n.level ∧ n.level ≤ 9 ∧ 0 ≤ n.place ∧ n.place ≤ 999 ∧ n.digs.length ≤ 8 ∧ n.data.length ≤ 1024
 else if n.kind = 12 then NodesRise n.nodes ∧ 1 ≤ n.nodes.length ∧ n.nodes.length ≤ 7
 else if n.kind = 16 then BatchMay n.batch n.group n.epoch
 else isSeq n.seq ∧ BatchMay n.batch n.group n.epoch
instance (n : Nte) : Decidable (FitsN n) := by unfold FitsN; infer_instance
def MayN (n : Nte) : Prop := 1 ≤ n.kind ∧ n.kind ≤ 16 ∧ 0 ≤ n.group ∧ n.group ≤ 2 ∧ 0 ≤ n.epoch ∧ n.epoch ≤ 1048576 ∧ (n.kind = 1 ∨ n.kind = 14 ∨ (1 ≤ n.from_ ∧ n.from_ ≤ 28)) ∧ FitsN n
instance (n : Nte) : Decidable (MayN n) := by unfold MayN; infer_instance
def PackMay (n : Nte) : Prop := MayN n ∧ ownN n = n
instance (n : Nte) : Decidable (PackMay n) := by unfold PackMay; infer_instance
def packS (n : Nte) : List UInt8 × Int := if PackMay n then (noteE n, 0) else ([], 2)
def unpackS (b : List UInt8) : Nte × Int := match noteP b with
 | some (n, u) => if u = [] ∧ MayN n then (n, 0) else (note0, 4)
 | none => (note0, 4)
theorem filter_split (l : List Stn) (s : Int) (k : Nat) : (l.filter fun x => decide (s < x.seq ∧ x.seq ≤ s + ((k + 1 : Nat) : Int))).length = (l.filter fun x => decide (s < x.seq ∧ x.seq ≤ s + (k : Int))).length + cntQ l (s + ((k + 1 : Nat) : Int)) := by
 unfold cntQ
 induction l with
 | nil => rfl
 | cons x r ih =>
  simp only [List.filter_cons]
  by_cases h1 : x.seq = s + ((k + 1 : Nat) : Int)
  ·have h2 : ¬ (s < x.seq ∧ x.seq ≤ s + (k : Int)) := by omega
   have h3 : s < x.seq ∧ x.seq ≤ s + ((k + 1 : Nat) : Int) := by omega
   simp only [decide_eq_true h1, decide_eq_false h2, decide_eq_true h3, if_true, List.length_cons, ih]
   simp
   omega
  ·by_cases h2 : s < x.seq ∧ x.seq ≤ s + (k : Int)
   ·have h3 : s < x.seq ∧ x.seq ≤ s + ((k + 1 : Nat) : Int) := by omega
    simp only [decide_eq_false h1, decide_eq_true h2, decide_eq_true h3, if_true, List.length_cons, ih]
    simp
    omega
   ·have h3 : ¬ (s < x.seq ∧ x.seq ≤ s + ((k + 1 : Nat) : Int)) := by omega
    simp only [decide_eq_false h1, decide_eq_false h2, decide_eq_false h3, ih, Bool.false_eq_true, if_false]
theorem filter_le (l : List Stn) (s : Int) (m : Nat) (h : ∀ v, cntQ l v ≤ m) : ∀ k : Nat, (l.filter fun x => decide (s < x.seq ∧ x.seq ≤ s + (k : Int))).length ≤ k * m
 | 0 => by
  have : (l.filter fun x => decide (s < x.seq ∧ x.seq ≤ s + ((0 : Nat) : Int))) = [] := List.filter_eq_nil_iff.2 (fun x _ => by simp only [decide_eq_true_eq]; omega)
  rw [this]; simp
 | k + 1 => by
  have ih := filter_le l s m h k
  rw [filter_split, Nat.succ_mul]
  have := h (s + ((k + 1 : Nat) : Int))
  omega
theorem cntQ_take (l : List Stn) (v : Int) (m : Nat) (h : ∀ i, i < l.length → cntQ (l.take (i + 1)) (l.getD i stand0).seq ≤ m) : ∀ k, k ≤ l.length → cntQ (l.take k) v ≤ m
 | 0, _ => by simp [cntQ]
 | k + 1, hk => by
  have ih := cntQ_take l v m h k (by omega)
  have e : l.take (k + 1) = l.take k ++ [l.getD k stand0] := by
   rw [List.getD_eq_getElem?_getD, List.getElem?_eq_getElem (by omega)]
   exact (List.take_append_getElem (by omega)).symm
  by_cases hv : (l.getD k stand0).seq = v
  ·rw [← hv]; exact h k (by omega)
  ·rw [e, cntQ_snoc, if_neg hv]; omega
theorem stands_len {l : List Stn} {low view : Int} {many : Nat} (h : StandsMay l low view many) : l.length ≤ 8 * many := by
 have h1 := fun v => cntQ_take l v many (fun i hi => (h i hi).2.2.2.2.2.1) l.length (Nat.le_refl _)
 have h2 := filter_le l low many (fun v => by have := h1 v; rwa [List.take_length] at this) 8
 have h3 : (l.filter fun x => decide (low < x.seq ∧ x.seq ≤ low + ((8 : Nat) : Int))) = l := List.filter_eq_self.2 (fun x hx => by
  obtain ⟨i, hi, rfl⟩ := List.mem_iff_getElem.1 hx
  have := h i hi
  unfold StandAt at this
  rw [List.getD_eq_getElem?_getD, List.getElem?_eq_getElem hi] at this
  simp only [Option.getD_some] at this
  exact decide_eq_true ⟨this.1, by have := this.2.1; omega⟩)
 rw [h3] at h2
 exact h2
theorem stands_ok {l : List Stn} {low view : Int} {many : Nat} (h : StandsMay l low view many) (h0 : 0 ≤ low) (h1 : low ≤ 9007199254740983) (h2 : view ≤ 1048577) : ∀ x ∈ l, standOk x ∧ x.view ≤ 1048576 := by
 intro x hx
 obtain ⟨i, hi, rfl⟩ := List.mem_iff_getElem.1 hx
 have := h i hi
 unfold StandAt at this
 rw [List.getD_eq_getElem?_getD, List.getElem?_eq_getElem hi] at this
 simp only [Option.getD_some] at this
 obtain ⟨a1, a2, a3, a4, _⟩ := this
 exact ⟨⟨⟨by omega, by omega⟩, trivial, ⟨by omega, by omega⟩⟩, by omega⟩
theorem marks_ok {c : Chn} (h : ChangeMay c) : ∀ x ∈ c.marks, markOk x := by
 obtain ⟨_, _, _, _, h0, h1, _, _, hm, hr, _⟩ := h
 have key : ∀ i, i < c.marks.length → 0 ≤ (c.marks.getD i mark0).seq ∧ (c.marks.getD i mark0).seq ≤ 9007199254740991 := by
  intro i
  induction i with
  | zero => intro _; omega
  | succ i ih =>
   intro hi
   have := hr (i + 1) hi (by omega)
   have := ih (by omega)
   simp only [Nat.add_sub_cancel] at *
   omega
 intro x hx
 obtain ⟨i, hi, rfl⟩ := List.mem_iff_getElem.1 hx
 have := key i hi
 rw [List.getD_eq_getElem?_getD, List.getElem?_eq_getElem hi] at this
 exact ⟨this, trivial⟩
theorem change_fine {c : Chn} (h : ChangeMay c) : changeOk c := by
 have hm := marks_ok h
 obtain ⟨_, _, _, _, h0, h1, h2, h3, _, _, hp, hq⟩ := h
 have lp := stands_len hp
 have lq := stands_len hq
 exact ⟨⟨by omega, by omega⟩, ⟨by omega, by omega⟩, ⟨by omega, by omega⟩, ⟨by omega, hm⟩, ⟨by omega, fun x hx => (stands_ok hp h0 h1 (by omega) x hx).1⟩, ⟨by omega, fun x hx => (stands_ok hq h0 h1 (by omega) x hx).1⟩⟩
theorem markE_len {x : Mrk} (h : markOk x) : (markE x).length ≤ 40 := by
 have := numE_len h.1
 have := x.dig.h
 simp only [markE, digE, List.length_append]
 omega
theorem standE_len {x : Stn} (h : standOk x) : (standE x).length ≤ 48 := by
 have := numE_len h.1
 have := numE_len h.2.2
 have := x.dig.h
 simp only [standE, digE, List.length_append]
 omega
theorem changeE_len {c : Chn} (h : changeOk c) : (changeE c).length ≤ 2170 := by
 obtain ⟨a1, a2, a3, ⟨a4, a5⟩, ⟨a6, a7⟩, ⟨a8, a9⟩⟩ := h
 have b1 := numE_len a1
 have b2 := numE_len a2
 have b3 := numE_len a3
 have c1 := numE_small (n := (c.marks.length : Int)) (by omega) (by omega)
 have c2 := numE_small (n := (c.p.length : Int)) (by omega) (by omega)
 have c3 := numE_small (n := (c.q.length : Int)) (by omega) (by omega)
 have d1 := flatE_len markE c.marks 40 (fun x hx => markE_len (a5 x hx))
 have d2 := flatE_len standE c.p 48 (fun x hx => standE_len (a7 x hx))
 have d3 := flatE_len standE c.q 48 (fun x hx => standE_len (a9 x hx))
 simp only [changeE, listE, List.length_append]
 omega
theorem BatchMay.ok {l : List Wsh} {g e : Int} (h : BatchMay l g e) : batchOk l := ⟨by have := h.1; omega, fun x hx => (h.2 x hx).1⟩
theorem new_fine {n : Nte} (h : NewMay n) : (∀ x ∈ n.changes, changeOk x) ∧ (∀ x ∈ n.picks, pickOk x) := by
 obtain ⟨_, _, _, _, hc, hp⟩ := h
 refine ⟨fun x hx => ?_, fun x hx => ?_⟩
 ·obtain ⟨i, hi, rfl⟩ := List.mem_iff_getElem.1 hx
  have := (hc i hi).1
  rw [List.getD_eq_getElem?_getD, List.getElem?_eq_getElem hi] at this
  exact change_fine this
 ·obtain ⟨i, hi, rfl⟩ := List.mem_iff_getElem.1 hx
  have := hp i hi
  unfold PkAt at this
  rw [List.getD_eq_getElem?_getD, List.getElem?_eq_getElem hi] at this
  simp only [Option.getD_some] at this
  exact ⟨⟨by omega, this.2.1⟩, trivial, this.2.2.2.1.ok⟩
theorem pickE_len {x : Pck} (h : pickOk x) : (pickE x).length ≤ 702 := by
 have := numE_len h.1
 have := x.dig.h
 have := batchE_len h.2.2
 simp only [pickE, digE, List.length_append]
 omega
theorem may_fine {n : Nte} (h : MayN n) : noteOk n ∧ (noteE n).length ≤ 65536 := by
 obtain ⟨k1, k2, g1, g2, e1, e2, hf, hfit⟩ := h
 have hfr : isNum n.from_ := by
  rcases hf with hk | hk | hk
  ·unfold FitsN at hfit
   rw [if_pos (.inl hk)] at hfit
   exact ⟨by have := hfit.2.2.1; omega, by have := hfit.2.2.2.1; omega⟩
  ·unfold FitsN at hfit
   rw [if_pos (.inr hk)] at hfit
   exact ⟨by have := hfit.2.2.1; omega, by have := hfit.2.2.2.1; omega⟩
  ·exact ⟨by omega, by omega⟩
 have hbody : bodyOk n ∧ (bodyE n).length ≤ 65000 := by
  unfold FitsN at hfit
  unfold bodyOk bodyE
  by_cases c1 : n.kind = 1 ∨ n.kind = 14
  ·rw [if_pos c1] at hfit
   rw [if_pos (by omega), if_pos (by omega)]
   exact ⟨hfit.2.1.ok, by have := batchE_len hfit.2.1.ok; omega⟩
  rw [if_neg c1] at hfit
  by_cases c16 : n.kind = 16
  ·rw [if_pos (by omega), if_pos (by omega)]
   rw [if_neg (by omega), if_neg (by omega), if_neg (by omega), if_neg (by omega), if_neg (by omega), if_neg (by omega), if_neg (by omega), if_neg (by omega), if_neg (by omega), if_pos c16] at hfit
   exact ⟨hfit.ok, by have := batchE_len hfit.ok; omega⟩
  rw [if_neg (by omega : ¬ (n.kind = 1 ∨ n.kind = 14 ∨ n.kind = 16)), if_neg (by omega : ¬ (n.kind = 1 ∨ n.kind = 14 ∨ n.kind = 16))]
  by_cases c2 : n.kind = 2
  ·rw [if_pos c2] at hfit
   rw [if_pos c2, if_pos c2]
   obtain ⟨a1, a2, a3, a4, b1, b2, b3, b4, b5, b6, b7⟩ := hfit
   have o1 : isNum n.node := ⟨by omega, by omega⟩
   have o2 : isNum n.stamp := ⟨by omega, by omega⟩
   have o3 : isNum n.ans.err := ⟨by omega, by omega⟩
   have o4 : isNum n.ans.epoch := ⟨by omega, by omega⟩
   have o5 : ∀ y ∈ n.ans.nodes, isNum y := fun y hy => ⟨by have := (b7 y hy).1; omega, by have := (b7 y hy).2; omega⟩
   refine ⟨⟨o1, o2, o3, by omega, o4, by omega, o5⟩, ?_⟩
   have := numE_len o1
   have := numE_len o2
   have := numE_len o3
   have := numE_len o4
   have := strE_len n.ans.data (by omega)
   have := numE_small (n := (n.ans.nodes.length : Int)) (by omega) (by omega)
   have := flatE_len numE n.ans.nodes 8 (fun y hy => numE_len (o5 y hy))
   simp only [ansE, listE, List.length_append]
   omega
  rw [if_neg c2] at hfit
  rw [if_neg c2, if_neg c2]
  by_cases c3 : n.kind = 3
  ·rw [if_pos c3] at hfit
   rw [if_pos c3, if_pos c3]
   have o1 : isNum n.view := ⟨hfit.1.1, by have := hfit.1.2; omega⟩
   have o2 : isNum n.seq := ⟨by have := hfit.2.1.1; omega, hfit.2.1.2⟩
   refine ⟨⟨o1, o2, hfit.2.2.ok⟩, ?_⟩
   have := numE_len o1
   have := numE_len o2
   have := batchE_len hfit.2.2.ok
   simp only [List.length_append]
   omega
  rw [if_neg c3] at hfit
  rw [if_neg c3, if_neg c3]
  have hdg := n.dig.h
  by_cases c4 : n.kind = 4 ∨ n.kind = 5
  ·rw [if_pos c4] at hfit
   rw [if_pos c4, if_pos c4]
   have o1 : isNum n.view := ⟨hfit.1.1, by have := hfit.1.2; omega⟩
   have o2 : isNum n.seq := ⟨by have := hfit.2.1; omega, hfit.2.2⟩
   refine ⟨⟨o1, o2, trivial⟩, ?_⟩
   have := numE_len o1
   have := numE_len o2
   simp only [digE, List.length_append]
   omega
  rw [if_neg c4] at hfit
  rw [if_neg c4, if_neg c4]
  by_cases c6 : n.kind = 6 ∨ n.kind = 13
  ·rw [if_pos c6] at hfit
   rw [if_pos c6, if_pos c6]
   have o2 : isNum n.seq := ⟨by have := hfit.1; omega, hfit.2⟩
   refine ⟨⟨o2, trivial⟩, ?_⟩
   have := numE_len o2
   simp only [digE, List.length_append]
   omega
  rw [if_neg c6] at hfit
  rw [if_neg c6, if_neg c6]
  by_cases c7 : n.kind = 7
  ·rw [if_pos c7] at hfit
   rw [if_pos c7, if_pos c7]
   have o := change_fine hfit.1
   exact ⟨o, by have := changeE_len o; omega⟩
  rw [if_neg c7] at hfit
  rw [if_neg c7, if_neg c7]
  by_cases c8 : n.kind = 8
  ·rw [if_pos c8] at hfit
   rw [if_pos c8, if_pos c8]
   have o1 : isNum n.view := ⟨hfit.1.1, by have := hfit.1.2; omega⟩
   have o2 : isNum n.node := ⟨by have := hfit.2.2.1; omega, by have := hfit.2.2.2.1; omega⟩
   refine ⟨⟨o1, o2, trivial⟩, ?_⟩
   have := numE_len o1
   have := numE_len o2
   simp only [digE, List.length_append]
   omega
  rw [if_neg c8] at hfit
  rw [if_neg c8, if_neg c8]
  by_cases c9 : n.kind = 9
  ·rw [if_pos c9] at hfit
   rw [if_pos c9, if_pos c9]
   obtain ⟨oc, op⟩ := new_fine hfit
   have hco := hfit.2.2.2.2.1 0 (by have := hfit.1; omega)
   have o1 : isNum n.view := ⟨by have := hfit.2.2.2.1; omega, by have h1 := hco.1.2.2.2.1; have h2 := hco.2.1; omega⟩
   have l1 := hfit.2.1
   have l2 := hfit.2.2.1
   refine ⟨⟨o1, ⟨by omega, oc⟩, by omega, op⟩, ?_⟩
   have := numE_len o1
   have := numE_small (n := (n.changes.length : Int)) (by omega) (by omega)
   have := numE_small (n := (n.picks.length : Int)) (by omega) (by omega)
   have := flatE_len changeE n.changes 2170 (fun x hx => changeE_len (oc x hx))
   have := flatE_len pickE n.picks 702 (fun x hx => pickE_len (op x hx))
   simp only [listE, List.length_append]
   omega
  rw [if_neg c9] at hfit
  rw [if_neg c9, if_neg c9]
  by_cases c10 : n.kind = 10
  ·rw [if_pos (.inl c10)] at hfit
   rw [if_pos c10, if_pos c10]
   have o2 : isNum n.seq := ⟨by have := hfit.1.1; omega, hfit.1.2⟩
   have o3 : isNum n.level := ⟨by omega, by omega⟩
   have o4 : isNum n.place := ⟨by omega, by omega⟩
   refine ⟨⟨o2, trivial, o3, o4⟩, ?_⟩
   have := numE_len o2
   have := numE_len o3
   have := numE_len o4
   simp only [digE, List.length_append]
   omega
  rw [if_neg c10, if_neg c10]
  by_cases c11 : n.kind = 11
  ·rw [if_pos (.inr c11)] at hfit
   rw [if_pos c11, if_pos c11]
   have o2 : isNum n.seq := ⟨by have := hfit.1.1; omega, hfit.1.2⟩
   have o3 : isNum n.level := ⟨by omega, by omega⟩
   have o4 : isNum n.place := ⟨by omega, by omega⟩
   refine ⟨⟨o2, trivial, o3, o4, ⟨by omega, by simp⟩, by omega⟩, ?_⟩
   have := numE_len o2
   have := numE_len o3
   have := numE_len o4
   have := strE_len n.data (by omega)
   have := numE_small (n := (n.digs.length : Int)) (by omega) (by omega)
   have := flatE_len digE n.digs 32 (fun x _ => by simp [digE, x.h])
   simp only [digE, listE, List.length_append] at *
   omega
  rw [if_neg (by omega)] at hfit
  rw [if_neg c11, if_neg c11]
  by_cases c12 : n.kind = 12
  ·rw [if_pos c12] at hfit
   rw [if_pos c12, if_pos c12]
   have o5 : ∀ y ∈ n.nodes, isNum y := fun y hy => ⟨by have := (hfit.1.mem y hy).1; omega, by have := (hfit.1.mem y hy).2; omega⟩
   refine ⟨⟨by omega, o5⟩, ?_⟩
   have := numE_small (n := (n.nodes.length : Int)) (by omega) (by omega)
   have := flatE_len numE n.nodes 8 (fun y hy => numE_len (o5 y hy))
   simp only [listE, List.length_append]
   omega
  rw [if_neg c12, if_neg c16] at hfit
  rw [if_neg c12, if_neg c12]
  rw [if_pos (by omega), if_pos (by omega)]
  have o2 : isNum n.seq := ⟨by have := hfit.1.1; omega, hfit.1.2⟩
  refine ⟨⟨o2, hfit.2.ok⟩, ?_⟩
  have := numE_len o2
  have := batchE_len hfit.2.ok
  simp only [List.length_append]
  omega
 have o1 : isNum n.kind := ⟨by omega, by omega⟩
 have o2 : isNum n.group := ⟨by omega, by omega⟩
 have o3 : isNum n.epoch := ⟨by omega, by omega⟩
 refine ⟨⟨o1, hfr, o2, o3, hbody.1⟩, ?_⟩
 have := numE_len o1
 have := numE_len o2
 have := numE_len o3
 have := numE_len hfr
 simp only [noteE, List.length_append]
 omega
theorem pack_read {n : Nte} (h : PackMay n) (t : List UInt8) : noteP (noteE n ++ t) = some (n, t) := by
 rw [note_rd n t (may_fine h.1).1, h.2]
theorem unpack_pack {n : Nte} (h : PackMay n) : unpackS (noteE n) = (n, 0) := by
 have := pack_read h []
 rw [List.append_nil] at this
 unfold unpackS
 rw [this]
 simp [h.1]
end Go.Eng
namespace Go.Eng
open Go.RowKit
def arB (P : Program) (t n e size : Nat) : Bool := match P.underlying t with
 | some (.array m e') => Nat.beq m n && Nat.beq e' e && (P.info? e).map (·.size) == some size
 | _ => false
theorem arB_out {P : Program} {t n e size : Nat} (h : arB P t n e size = true) : P.underlying t = some (.array n e) ∧ ∃ i, P.info? e = some i ∧ i.size = size := by
 unfold arB at h
 split at h
 ·rename_i m e' hu
  simp only [Bool.and_eq_true, beq_iff_eq] at h
  obtain ⟨⟨h1, h2⟩, h3⟩ := h
  rw [Nat.eq_of_beq_eq_true h1, Nat.eq_of_beq_eq_true h2] at hu
  cases hi : P.info? e with
  | none => rw [hi] at h3; cases h3
  | some i => rw [hi] at h3; exact ⟨hu, i, rfl, by simpa using h3⟩
 ·cases h
section
variable {P : Program} {n : Nat} {L : List (Nat × Value)} {w w' : World} {Q : Exit → Act → World → Prop} {ops : Array Oper} {rest : List Oper} {ty : TypeId} {pos : String} {af : Array Edge} {d : Nat}
theorem wl_sliceA {p : Addr} {t e size m : Nat} {x : Operand} (hd : d < n) (hT : arB P t m e size = true) (hx : ev L x = some (.pointer (some p)))
  (h : WL P n ops Q rest ((d, .slice (some p) m m) :: L) w) :
  WL P n ops Q ({ dst := some d, op := .slice t x none none none, type := ty, pos := pos, after := af, guard := none } :: rest) L w := by
 obtain ⟨hu, i0, hi0, hs⟩ := arB_out hT
 refine wl_run (v := .slice (some p) m m) hd (fun ac ha => ?_) h
 simp [execOp, ha.eval hx, Instr.sliceAt, Instr.sureAddr, run_underlying hu, sizeOf, typeInfo, hi0, Instr.sliceBounds, add_zero']
theorem wl_arrAt {A : Option Addr} {t e size m k c : Nat} {x : Operand} (hd : d < n) (hT : arB P t m e size = true) (hx : ev L x = some (.slice A k c)) (hm : m ≤ k)
  (h : WL P n ops Q rest ((d, .pointer A) :: L) w) :
  WL P n ops Q ({ dst := some d, op := .sliceToArrayPointer t x, type := ty, pos := pos, after := af, guard := none } :: rest) L w := by
 obtain ⟨hu, i0, hi0, hs⟩ := arB_out hT
 refine wl_run (v := .pointer A) hd (fun ac ha => ?_) h
 have hn : ¬ k < m := by omega
 simp [execOp, ha.eval hx, Instr.arrayAt, run_underlying hu, hn]
end
section
variable {S : Nat → Prop} {w : World} {p : Addr} {d : Dig} {cs : List Value}
theorem digC_get (d : Dig) (j : Nat) (hj : j < 32) : (digC d)[j]? = some (bv (d.l.getD j 0)) := by
 have := d.h
 rw [digC_map, List.getElem?_map, List.getD_eq_getElem?_getD, List.getElem?_eq_getElem (by omega)]
 rfl
theorem At.dig (h : At w p cs) (e : cs = digC d) {j : Nat} (hj : j < 32) : w.cell? (p.add (j * 1)) = some (bv (d.l.getD j 0)) := by
 subst e
 rw [Nat.mul_one]
 exact h.get (digC_get d j hj)
theorem At.bs (h : At w p cs) (e : cs = digC d) (hS : S p.block) (hb : p.block < w.heap.size) : GS byteR S w (some p) 32 d.l := by
 subst e
 have hl := d.h
 refine ⟨by omega, by omega, fun i hi => ⟨p, [bv d.l[i]], rfl, hb, hS, ?_, rfl⟩⟩
 have h2 := (h.drop (i * 1)).take 1
 have e : ((digC d).drop (i * 1)).take 1 = [bv d.l[i]] := by
  rw [digC_map, Nat.mul_one, List.drop_eq_getElem_cons (by simpa using hi), List.take_succ_cons, List.take_zero]
  simp
 rwa [e] at h2
end
end Go.Eng
namespace Go.Eng
open Go.RowKit
theorem one_cells {v : Value} (h : v.oneCell' = true) : v.cells.toList = [v] := by
 have := flat_cells1 [v] (by simpa using h)
 simpa using this
theorem putL_set {cs : List Value} {o : Nat} {v : Value} (ho : o < cs.length) : putL cs o [v] = cs.set o v := by
 rw [putL, List.set_eq_take_append_cons_drop, if_pos ho]
 simp
def SP.rd {α : Type} (r : Rep α) (S : Nat → Prop) (x : α) : SP := ⟨fun v w => ∃ cs, v = .agg cs.toArray ∧ r.rd S w cs x, by
 rintro _ w w' ch ⟨cs, rfl, h⟩
 exact ⟨cs, rfl, r.keep ch (fun _ _ _ x => x) h⟩⟩
def fillS (places : List (Nat × Nat)) : List Value → List (Nat × Value) → Option (List Value)
 | cs, [] => some cs
 | cs, (i, v) :: rest => match places[i]? with
  | some (off, size) => bif Nat.beq size 1 then (bif v.oneCell' && Nat.blt off cs.length then fillS places (cs.set off v) rest else none)
   else bif Nat.beq v.cells.toList.length size && Nat.ble (off + v.cells.toList.length) cs.length then fillS places (putL cs off v.cells.toList) rest else none
  | none => none
theorem fillS_L {places : List (Nat × Nat)} : ∀ {parts : List (Nat × Value)} {cs out : List Value}, fillS places cs parts = some out → fillL places cs parts = some out
 | [], cs, out, h => h
 | (i, v) :: rest, cs, out, h => by
  unfold fillS at h
  unfold fillL
  cases hp : places[i]? with
  | none => rw [hp] at h; cases h
  | some x =>
   obtain ⟨off, size⟩ := x
   rw [hp] at h
   simp only at h ⊢
   cases h1 : Nat.beq size 1 with
   | true =>
    rw [h1] at h
    simp only [cond_true] at h
    have hs := Nat.eq_of_beq_eq_true h1
    subst hs
    cases h2 : v.oneCell' && Nat.blt off cs.length with
    | false => rw [h2] at h; cases h
    | true =>
     rw [h2] at h
     simp only [cond_true] at h
     simp only [Bool.and_eq_true] at h2
     have hlt : off < cs.length := by
      have := h2.2
      exact Nat.lt_of_succ_le (by simpa [Nat.blt] using this)
     rw [one_cells h2.1, putL_set hlt]
     have e : (Nat.beq [v].length 1 && Nat.ble (off + [v].length) cs.length) = true := by
      simp only [List.length_singleton, Bool.and_eq_true, Nat.ble_eq]
      exact ⟨rfl, hlt⟩
     rw [e]
     exact fillS_L h
   | false =>
    rw [h1] at h
    simp only [cond_false] at h
    cases h2 : Nat.beq v.cells.toList.length size && Nat.ble (off + v.cells.toList.length) cs.length with
    | false => rw [h2] at h; cases h
    | true =>
     rw [h2] at h
     simp only [cond_true] at h ⊢
     exact fillS_L h
section
variable {P : Program} {n : Nat} {L : List (Nat × Value)} {w0 w w' : World} {M0 Fz : Nat → Prop} {H : List It} {Q : Exit → Act → World → Prop} {ops : Array Oper} {rest : List Oper} {ty : TypeId} {pos : String} {af : Array Edge} {d i : Nat}
theorem wl_builtS {t : TypeId} {ps : List (Nat × Operand)} {places : List (Nat × Nat)} {zl : List Value} {vs : List (Nat × Value)} {cells : List Value} (hd : d < n) (hB : bldB P t places (fun z => isCells z.toList zl) = true) (hv : evp L ps = some vs) (hf : fillS places zl vs = some cells)
  (h : WL P n ops Q rest ((d, .agg cells.toArray) :: L) w) :
  WL P n ops Q ({ dst := some d, op := .build t ps.toArray, type := ty, pos := pos, after := af, guard := none } :: rest) L w := wl_built hd hB hv (fillS_L hf) h
theorem wl_hstore1 {t e g o : Nat} {cs : List Value} {x y : Operand} {v : Value} (hx : ev L x = some (.pointer (some ⟨g, o, none⟩))) (hy : ev L y = some v) (hp : HP w0 M0 Fz w H) (hi : H[i]? = some (itB g e cs)) (hs : szB P t 1 = true)
  (hl : o < cs.length) (h1 : v.oneCell' = true)
  (h : ∀ w', HP w0 M0 Fz w' (H.set i (itB g e (cs.set o v))) → Chg (fun b => ¬ Fz b) w w' → WL P n ops Q rest L w') :
  WL P n ops Q ({ dst := none, op := .store t x y, type := ty, pos := pos, after := af, guard := none } :: rest) L w := by
 have e1 := one_cells h1
 have e2 : v.cells.size = 1 := by rw [← Array.length_toList, e1]; rfl
 refine wl_hstore hx hy hp hi (by rw [e2]; exact hs) (by rw [e2]; exact hl) (by rw [e1]; intro u hu; rw [List.mem_singleton.1 hu]; exact h1) (fun w' hp' hC => h w' ?_ hC)
 rwa [e1, putL_set hl] at hp'
theorem wl_hloadX (xs : List Value) {t e g k o : Nat} {cs : List Value} {x : Operand} (hd : d < n) (hs : agB P t k = true) (hx : ev L x = some (.pointer (some ⟨g, o, none⟩))) (hp : HP w0 M0 Fz w H) (hi : H[i]? = some (itB g e cs)) (hl : xs.length = k) (he : (cs.drop o).take k = xs)
  (h : WL P n ops Q rest ((d, .agg xs.toArray) :: L) w) :
  WL P n ops Q ({ dst := some d, op := .load t x, type := ty, pos := pos, after := af, guard := none } :: rest) L w := by
 subst he
 exact wl_hloadA hd hs hx hp hi hl h
theorem HP.as_ {H' : List It} (h : HP w0 M0 Fz w H) (e : H = H') : HP w0 M0 Fz w H' := e ▸ h
theorem HP.up {x : It} (h : HP w0 M0 Fz w H) (i : Nat) (hi : H[i]? = some x) : HP w0 M0 Fz w (x :: H.eraseIdx i) := by
 have hil := (List.getElem?_eq_some_iff.1 hi).1
 have e : H = H.take i ++ ([x] ++ H.drop (i + 1)) := by
  rw [(List.getElem?_eq_some_iff.1 hi).2.symm, List.singleton_append, ← List.drop_eq_getElem_cons hil, List.take_append_drop]
 have h2 := h
 rw [e] at h2
 have h3 := HP.comm (H.take i) [x] (H.drop (i + 1)) h2
 rwa [List.singleton_append, ← List.eraseIdx_eq_take_drop_succ] at h3
end
end Go.Eng
namespace Go.Eng
open Go.RowKit
section
variable {P : Program} {n : Nat} {L : List (Nat × Value)} {w w' : World} {Q : Exit → Act → World → Prop} {ops : Array Oper} {rest : List Oper} {ty : TypeId} {pos : String} {af : Array Edge} {d : Nat}
def methB (P : Program) (t : TypeId) (name : String) (f : FuncId) : Bool :=
 callable P f && (match P.underlying t with | some (.pointer _) => true | _ => false) && (match P.info? t with
 | some i => (match i.methods.find? (·.name == name) with | some m => m.path.isEmpty && (match m.func with | some (g, true) => g == f | _ => false) | none => false)
 | none => false)
theorem methB_out {t : TypeId} {name : String} {f : FuncId} (h : methB P t name f = true) : callable P f = true ∧ (∃ e, P.underlying t = some (.pointer e)) ∧ ∃ i m, P.info? t = some i ∧ i.methods.find? (·.name == name) = some m ∧ m.path.toList = [] ∧ m.func = some (f, true) := by
 unfold methB at h
 simp only [Bool.and_eq_true] at h
 obtain ⟨⟨h1, h2⟩, h3⟩ := h
 refine ⟨h1, ?_, ?_⟩
 ·split at h2
  ·rename_i e he; exact ⟨e, he⟩
  ·cases h2
 ·split at h3
  ·rename_i i hi
   split at h3
   ·rename_i m hm
    simp only [Bool.and_eq_true] at h3
    obtain ⟨h4, h5⟩ := h3
    split at h5
    ·rename_i g hg
     simp only [beq_iff_eq] at h5
     subst h5
     exact ⟨i, m, hi, hm, by simpa [Array.isEmpty] using h4, hg⟩
    ·cases h5
   ·cases h3
  ·cases h3
theorem run_method {t : TypeId} {name : String} {f : FuncId} (h : methB P t name f = true) (v : Value) (k : Nat) (w : World) : (Go.method (k + 1) t v name).run P w = .ok (f, v) w := by
 obtain ⟨_, ⟨e, he⟩, i, m, hi, hm, hp, hf⟩ := methB_out h
 unfold Go.method
 simp [typeInfo, hi, hm, hp, hf, follow, receiverAt, run_underlying he, Place.get]
theorem run_callMethod {t : TypeId} {name : String} {f : FuncId} (h : methB P t name f = true) (v : Value) (args : Array Value) (w : World) : (callMethod (.iface t v) name args).run P w = .ok (.enter f (#[v] ++ args)) w := by
 have h1 := run_method h v (P.types.size + 99) w
 unfold callMethod
 simp only [Sem.run_bind, run_program, Made.depth]
 have h2 : (Go.method (P.types.size + 100) t v name).run P w = .ok (f, v) w := h1
 simp only [Result.andThen, h2]
 exact enter_of (methB_out h).1 _ w
theorem wl_invoke {t : TypeId} {name : String} {f : FuncId} {x : Operand} {v0 : Value} {xs : List Operand} {vs : List Value} {ts : Array TypeId} {R : Value → World → Prop} (hd : d < n) (hf : methB P t name f = true) (hx0 : ev L x = some (.iface t v0)) (hx : evs L xs = some vs)
  (hc : Ret P f (v0 :: vs).toArray w R) (h : ∀ v w', R v w' → WL P n ops Q rest ((d, v) :: L) w') :
  WL P n ops Q ({ dst := some d, op := .call { callee := .invoke x name, args := xs.toArray, argTypes := ts }, type := ty, pos := pos, after := af, guard := none } :: rest) L w := by
 intro a ha
 refine wpList_plain rfl fun K hK => ?_
 have hm := evs_map ha hx
 unfold Oper.wp
 have hrun : (execOp a.eval { dst := some d, op := .call { callee := .invoke x name, args := xs.toArray, argTypes := ts }, type := ty, pos := pos, after := af, guard := none }).run P w = .ok (.enter f (v0 :: vs).toArray) w := by
  simp [execOp, resolve, ha.eval hx0, invoke, hm, run_callMethod hf]
 rw [hrun]
 exact Calls.mono hc fun e w' ⟨v, he, hv⟩ => by subst he; exact hK _ _ (h v w' hv _ (ha.put hd v))
theorem wl_nilCheckM {t : TypeId} {name : String} {f : FuncId} {x : Operand} {v0 : Value} (hd : d < n) (hf : methB P t name f = true) (hx : ev L x = some (.func (.method name) [Value.iface t v0].toArray ([] : List Value).toArray))
  (h : WL P n ops Q rest ((d, .func (.method name) [Value.iface t v0].toArray ([] : List Value).toArray) :: L) w) :
  WL P n ops Q ({ dst := some d, op := .nilCheck x, type := ty, pos := pos, after := af, guard := none } :: rest) L w := by
 obtain ⟨_, _, i, m, hi, hm, hp, hfm⟩ := methB_out hf
 have hn : ∀ (k : Nat) (w : World), (nilAhead (k + 1) t v0 name).run P w = .ok (some false) w := by
  intro k w
  unfold nilAhead
  simp [typeInfo, hi, hm, hp, hfm, followBlind]
 refine wl_run hd (fun a ha => ?_) h
 have h1 := hn (P.types.size + 99) w
 have h2 : (nilAhead (P.types.size + 100) t v0 name).run P w = .ok (some false) w := h1
 simp [execOp, ha.eval hx, Made.depth, h2]
theorem wl_nilCheckI {t : TypeId} {x : Operand} {v0 : Value} (hd : d < n) (hx : ev L x = some (.iface t v0)) (h : WL P n ops Q rest ((d, .iface t v0) :: L) w) :
  WL P n ops Q ({ dst := some d, op := .nilCheck x, type := ty, pos := pos, after := af, guard := none } :: rest) L w :=
 wl_run hd (fun a ha => by simp [execOp, ha.eval hx]) h
def RetV (P : Program) (F : Value) (vs : List Value) (w : World) (R : Value → World → Prop) : Prop :=
 ∃ f full, (∀ w', (do let d ← Deferred.ofValue F vs.toArray; invoke d.target d.args).run P w' = .ok (.enter f full) w') ∧ Ret P f full w R
theorem RetV.func {f : FuncId} {first cap vs : List Value} {R : Value → World → Prop} (hf : callable P f = true) (h : Ret P f (first ++ vs ++ cap).toArray w R) : RetV P (.func (.func f) first.toArray cap.toArray) vs w R :=
 ⟨f, _, fun w' => by simp [Deferred.ofValue, invoke, enter_of hf], h⟩
theorem RetV.meth {t : TypeId} {name : String} {f : FuncId} {v0 : Value} {vs : List Value} {R : Value → World → Prop} (hf : methB P t name f = true) (h : Ret P f (v0 :: vs).toArray w R) : RetV P (.func (.method name) [Value.iface t v0].toArray ([] : List Value).toArray) vs w R :=
 ⟨f, (v0 :: vs).toArray, fun w' => by simp [Deferred.ofValue, invoke, run_callMethod hf], h⟩
theorem RetV.mono {F : Value} {vs : List Value} {R R' : Value → World → Prop} (h : RetV P F vs w R) (hr : ∀ v w', R v w' → R' v w') : RetV P F vs w R' := by
 obtain ⟨f, full, h1, h2⟩ := h
 exact ⟨f, full, h1, h2.mono hr⟩
theorem wl_callF {fo : Operand} {F : Value} {xs : List Operand} {vs : List Value} {ts : Array TypeId} {R : Value → World → Prop} (hd : d < n) (hfo : ev L fo = some F) (hx : evs L xs = some vs) (_hne : ∀ f, fo ≠ .func f)
  (hc : RetV P F vs w R) (h : ∀ v w', R v w' → WL P n ops Q rest ((d, v) :: L) w') :
  WL P n ops Q ({ dst := some d, op := .call { callee := .value fo, args := xs.toArray, argTypes := ts }, type := ty, pos := pos, after := af, guard := none } :: rest) L w := by
 intro a ha
 obtain ⟨f, full, h1, h2⟩ := hc
 refine wpList_plain rfl fun K hK => ?_
 have hm := evs_map ha hx
 unfold Oper.wp
 have hrun : (execOp a.eval { dst := some d, op := .call { callee := .value fo, args := xs.toArray, argTypes := ts }, type := ty, pos := pos, after := af, guard := none }).run P w = .ok (.enter f full) w := by
  have := h1 w
  simp only [execOp, resolve, ha.eval hfo, List.map_toArray, hm]
  exact this
 rw [hrun]
 exact Calls.mono h2 fun e w' ⟨v, he, hv⟩ => by subst he; exact hK _ _ (h v w' hv _ (ha.put hd v))
end
section
variable {w0 w w' : World} {M0 Fz Fz' F0 : Nat → Prop} {H : List It}
theorem HP.frzBlk {g e : Nat} {cs : List Value} (h : HP w0 M0 Fz w (itB g e cs :: H)) : ∃ Fz', HP w0 M0 Fz' w H ∧ (∀ b, Fz b → Fz' b) ∧ AtF Fz' w ⟨g, 0, none⟩ cs := by
 have hb := h.blkAt (i := 0) rfl
 obtain ⟨Ks, h1, h2, h3⟩ := h.ex
 have hk := h1 0 _ rfl
 refine ⟨fun b => Fz b ∨ b = g, ⟨h.chg, ?_, ?_⟩, fun b hb => .inl hb, hb.at0, .inr rfl, hb.lt⟩
 ·rintro b (hf | rfl)
  ·exact h.fz b hf
  ·exact hb.lt
 ·refine ⟨fun i => Ks (i + 1), fun i x hi => h1 (i + 1) x hi, fun i hi b hkb => ⟨(h2 (i + 1) (by simp; omega) b hkb).1, ?_⟩, fun i j hi hj hij b hkb => h3 (i + 1) (j + 1) (by simp; omega) (by simp; omega) (by omega) b hkb⟩
  rintro (hf | rfl)
  ·exact (h2 (i + 1) (by simp; omega) b hkb).2 hf
  ·exact h3 (i + 1) 0 (by simp; omega) (by simp) (by omega) _ hkb ((hk.2 _).2 rfl)
theorem HP.less (h : HP w0 M0 Fz' w H) (hs : ∀ b, Fz b → Fz' b) : HP w0 M0 Fz w H :=
 ⟨h.chg, fun b hb => h.fz b (hs b hb), by
  obtain ⟨Ks, h1, h2, h3⟩ := h.ex
  exact ⟨Ks, h1, fun i hi b hk => ⟨(h2 i hi b hk).1, fun hf => (h2 i hi b hk).2 (hs b hf)⟩, h3⟩⟩
theorem Frz.trans {F1 F2 : Nat → Prop} {w1 w2 : World} (h : Frz F0 F1 w0 w1) (k : Frz F1 F2 w1 w2) : Frz F0 F2 w0 w2 := (h.fz k.chg).wid k.sub
theorem AtF.frz {F1 : Nat → Prop} {w1 : World} {a : Addr} {cs : List Value} (h : AtF Fz w a cs) (k : Frz Fz F1 w w1) : AtF F1 w1 a cs := (h.fz k.chg).wid k.sub
theorem RF.frz {α : Type} {r : Rep α} {F1 : Nat → Prop} {w1 : World} {rows : List (List Value)} {l : List α} (h : RF r Fz w rows l) (k : Frz Fz F1 w w1) : RF r F1 w1 rows l := (h.fz k.chg).wid k.sub
end
end Go.Eng
namespace Go.Eng
open Go.RowKit
structure Slot (X : List Value → It) (p : Addr) (k : Nat) : Prop where
 at_ : ∀ {w : World} {K : Nat → Prop} {cs : List Value}, (X cs).R w K → cs.length = k → At w p cs
 put : ∀ {P : Program} {w : World} {K : Nat → Prop} {cs : List Value} {t : TypeId} {v : Value} {o : Nat}, (X cs).R w K → cs.length = k → szB P t v.cells.size = true → v.cells.size ≠ 0 → o + v.cells.size ≤ k → (∀ u ∈ v.cells.toList, u.oneCell' = true) →
  ∃ w', (Instr.storeAt t (.pointer (some (p.add o))) v).run P w = .ok () w' ∧ Chg K w w' ∧ (X (putL cs o v.cells.toList)).R w' K
theorem putL_mid {pre cs post vs : List Value} {o : Nat} (h : o + vs.length ≤ cs.length) : putL (pre ++ (cs ++ post)) (pre.length + o) vs = pre ++ (putL cs o vs ++ post) := by
 unfold putL
 rw [List.take_append, List.take_of_length_le (by omega), show pre.length + o - pre.length = o by omega, List.take_append_of_le_length (by omega), List.drop_append, List.drop_of_length_le (by omega), List.nil_append,
  show pre.length + o + vs.length - pre.length = o + vs.length by omega, List.drop_append_of_le_length (by omega)]
 simp [List.append_assoc]
theorem At.mid {w : World} {p : Addr} {pre cs post : List Value} (h : At w p (pre ++ (cs ++ post))) : At w (p.add pre.length) cs := by
 have h1 := (h.drop pre.length).take cs.length
 rwa [List.drop_left, List.take_left] at h1
theorem Slot.blk {g e k : Nat} (pre post : List Value) : Slot (fun cs => itB g e (pre ++ (cs ++ post))) ⟨g, pre.length, none⟩ k where
 at_ := fun {w K cs} h _ => by
  have := (h.1.at0).mid
  rwa [add_lit', Nat.zero_add] at this
 put := fun {P w K cs t v o} h hl hs h0 ho h1 => by
  obtain ⟨hb, hK⟩ := h
  have hsz : v.cells.toList.length = v.cells.size := by simp
  have hst := run_storeAt (P := P) (t := t) (g := g) (o := pre.length + o) (v := v) hs hb (by simp only [List.size_toArray, List.length_append]; omega) h1
  refine ⟨_, by rw [add_lit']; exact hst, (Chg.setRow w g _).weak (fun b _ e => (hK b).2 e), ?_, hK⟩
  have := hb.set (putL (pre ++ (cs ++ post)) (pre.length + o) v.cells.toList)
  rw [putL_mid (by omega)] at this ⊢
  exact this
theorem Slot.row {e size n c g k : Nat} (pre post : List Value) (hk : 0 < k) : Slot (fun cs => itR e size (some ⟨g, 0, none⟩) n c (pre ++ (cs ++ post))) ⟨g, pre.length, none⟩ k where
 at_ := fun {w K cs} h _ => by
  have := (h.1.at0).mid
  rwa [add_lit', Nat.zero_add] at this
 put := fun {P w K cs t v o} h hl hs h0 ho h1 => by
  obtain ⟨hR, hK⟩ := h
  have hsz : v.cells.toList.length = v.cells.size := by simp
  obtain ⟨cur, hg, hcs, hO⟩ := hR.put rfl v.cells.toList (pre.length + o) (by simp only [List.length_append]; omega) (by intro e; rw [e] at hsz; simp at hsz; omega)
  have hst := run_storeAt (P := P) (t := t) (g := g) (o := pre.length + o) (v := v) hs hg (by omega) h1
  have hc0 : c ≠ 0 := by
   intro hc
   have h2 := hR.len
   have h3 := hR.le
   rw [show n = 0 by omega] at h2
   simp only [List.length_append, Nat.zero_mul] at h2
   omega
  refine ⟨_, by rw [add_lit']; exact hst, (Chg.setRow w g _).weak (fun b _ e => (hK b).2 ⟨hc0, _, rfl, e.symm⟩), ?_, hK⟩
  rw [← putL_mid (by omega)]
  exact hO
theorem Slot.sub {X : List Value → It} {p : Addr} {k k' : Nat} (h : Slot X p k) (pre post : List Value) (hk : pre.length + k' + post.length = k) : Slot (fun cs => X (pre ++ (cs ++ post))) (p.add pre.length) k' where
 at_ := fun {w K cs} hR hl => (h.at_ hR (by simp only [List.length_append]; omega)).mid
 put := fun {P w K cs t v o} hR hl hs h0 ho h1 => by
  have hsz : v.cells.toList.length = v.cells.size := by simp
  obtain ⟨w', a1, a2, a3⟩ := h.put (P := P) (t := t) (v := v) (o := pre.length + o) hR (by simp only [List.length_append]; omega) hs h0 (by omega) h1
  rw [putL_mid (by omega)] at a3
  exact ⟨w', by rw [add_add']; exact a1, a2, a3⟩
section
variable {P : Program} {n : Nat} {L : List (Nat × Value)} {w0 w w' : World} {M0 Fz : Nat → Prop} {H : List It} {Q : Exit → Act → World → Prop} {ops : Array Oper} {rest : List Oper} {ty : TypeId} {pos : String} {af : Array Edge} {d i : Nat} {X : List Value → It} {p : Addr} {k : Nat} {cs : List Value}
theorem HP.slotAt (h : HP w0 M0 Fz w H) (hS : Slot X p k) (hi : H[i]? = some (X cs)) (hl : cs.length = k) : At w p cs := by
 obtain ⟨Ks, h1, _⟩ := h.ex
 exact hS.at_ (h1 i _ hi) hl
theorem wl_sstore {t : TypeId} {x y : Operand} {v : Value} {o : Nat} (hS : Slot X p k) (hx : ev L x = some (.pointer (some (p.add o)))) (hy : ev L y = some v) (hp : HP w0 M0 Fz w H) (hi : H[i]? = some (X cs)) (hl : cs.length = k) (hs : szB P t v.cells.size = true) (h0 : v.cells.size ≠ 0)
  (ho : o + v.cells.size ≤ k) (h1 : ∀ u ∈ v.cells.toList, u.oneCell' = true)
  (h : ∀ w', HP w0 M0 Fz w' (H.set i (X (putL cs o v.cells.toList))) → Chg (fun b => ¬ Fz b) w w' → WL P n ops Q rest L w') :
  WL P n ops Q ({ dst := none, op := .store t x y, type := ty, pos := pos, after := af, guard := none } :: rest) L w := by
 obtain ⟨K, hK, hKF, hup⟩ := hp.focus hi
 obtain ⟨w', hrun, hC, hX⟩ := hS.put (P := P) (t := t) hK hl hs h0 ho h1
 have h2 := hup w' _ K hC hX (fun b hb => .inl hb)
 exact wl_eff (fun a ha => by simp [execOp, ha.eval hx, ha.eval hy, hrun]) (h w' h2.1 h2.2)
theorem wl_sstore1 {t : TypeId} {x y : Operand} {v : Value} (o : Nat) (hS : Slot X p k) (hx : ev L x = some (.pointer (some (p.add o)))) (hy : ev L y = some v) (hp : HP w0 M0 Fz w H) (hi : H[i]? = some (X cs)) (hl : cs.length = k) (hs : szB P t 1 = true)
  (ho : o < k) (h1 : v.oneCell' = true)
  (h : ∀ w', HP w0 M0 Fz w' (H.set i (X (cs.set o v))) → Chg (fun b => ¬ Fz b) w w' → WL P n ops Q rest L w') :
  WL P n ops Q ({ dst := none, op := .store t x y, type := ty, pos := pos, after := af, guard := none } :: rest) L w := by
 have e1 := one_cells h1
 have e2 : v.cells.size = 1 := by rw [← Array.length_toList, e1]; rfl
 refine wl_sstore hS hx hy hp hi hl (by rw [e2]; exact hs) (by omega) (by omega) (by rw [e1]; simpa using h1) (fun w' a b => h w' ?_ b)
 rw [e1, putL_set (by omega)] at a
 exact a
end
def rst (bad : Bool) (l : List UInt8) : Option (List UInt8) := if bad then none else some l
theorem step_num {bad bad' : Bool} {l l' : List UInt8} {x : Int} (hb : bad' = (bad || decide ((takeS l).2.2 ≠ 0))) (hl : bad' = false → l' = (takeS l).2.1 ∧ x = (takeS l).1) : StepP numP (rst bad l) (rst bad' l') x := by
 cases bad with
 | true => rw [Bool.true_or] at hb; subst hb; rfl
 | false =>
  rw [Bool.false_or] at hb
  by_cases he : (takeS l).2.2 = 0
  ·have : bad' = false := by rw [hb]; simp [he]
   obtain ⟨rfl, rfl⟩ := hl this
   subst this
   show numP l = some _
   unfold numP
   rw [if_pos he]
  ·have : bad' = true := by rw [hb]; simp [he]
   subst this
   show numP l = none
   unfold numP
   rw [if_neg he]
theorem step_str {bad bad' : Bool} {l l' x : List UInt8} {most : Int} (hb : bad' = (bad || decide ((takeStrS l most).2.2 ≠ 0))) (hl : bad' = false → l' = (takeStrS l most).2.1 ∧ x = (takeStrS l most).1) : StepP (strP most) (rst bad l) (rst bad' l') x := by
 cases bad with
 | true => rw [Bool.true_or] at hb; subst hb; rfl
 | false =>
  rw [Bool.false_or] at hb
  by_cases he : (takeStrS l most).2.2 = 0
  ·have : bad' = false := by rw [hb]; simp [he]
   obtain ⟨rfl, rfl⟩ := hl this
   subst this
   show strP most l = some _
   unfold strP
   rw [if_pos he]
  ·have : bad' = true := by rw [hb]; simp [he]
   subst this
   show strP most l = none
   unfold strP
   rw [if_neg he]
theorem step_dig {bad bad' : Bool} {l l' : List UInt8} {x : Dig} (hb : bad' = (bad || decide ((fixS l 32).2.2 ≠ 0))) (hl : bad' = false → l' = (fixS l 32).2.1 ∧ x.l = (fixS l 32).1) : StepP digP (rst bad l) (rst bad' l') x := by
 cases bad with
 | true => rw [Bool.true_or] at hb; subst hb; rfl
 | false =>
  rw [Bool.false_or] at hb
  by_cases he : 32 ≤ l.length
  ·have e : fixS l 32 = (l.take 32, l.drop 32, 0) := by unfold fixS; rw [if_neg (by omega), if_neg (by omega)]; rfl
   have : bad' = false := by rw [hb, e]; simp
   obtain ⟨h1, h2⟩ := hl this
   subst this
   rw [e] at h1 h2
   simp only at h1 h2
   subst h1
   show digP l = some _
   unfold digP
   rw [dif_pos he]
   obtain ⟨xl, hx⟩ := x
   simp only at h2
   subst h2
   rfl
  ·have e : fixS l 32 = ([], [], 3) := by unfold fixS; rw [if_neg (by omega), if_pos (by omega)]
   have : bad' = true := by rw [hb, e]; simp
   subst this
   show digP l = none
   unfold digP
   rw [dif_neg he]
theorem step_many {bad b1 : Bool} {l l1 : List UInt8} {x most : Int} (h : StepP numP (rst bad l) (rst b1 l1) x) : StepP (manyP most) (rst bad l) (rst (b1 || decide (most < x)) l1) (if (b1 || decide (most < x)) = true then 0 else x) := by
 unfold manyP
 refine StepP.bind h ?_
 cases b1 with
 | true => rfl
 | false =>
  rw [Bool.false_or]
  by_cases hm : most < x
  ·rw [if_pos hm, decide_eq_true hm]; rfl
  ·rw [if_neg hm, decide_eq_false hm]; rfl
end Go.Eng
namespace Go.Eng
open Go.RowKit
section
variable {P : Program} {n : Nat} {L : List (Nat × Value)} {w0 w w' : World} {M0 Fz : Nat → Prop} {H : List It} {Q : Exit → Act → World → Prop} {ops : Array Oper} {rest : List Oper} {ty : TypeId} {pos : String} {af : Array Edge} {d i : Nat}
theorem wl_happendB {t te c c2 : Nat} {S : Nat → Prop} {A B : Option Addr} {l l2 : List UInt8} {s x : Operand} (hd : d < n) (hT : slB P t te 1 1 = true) (hs : ev L s = some (.slice A l.length c)) (hx : ev L x = some (.slice B l2.length c2))
  (hp : HP w0 M0 Fz w H) (hi : H[i]? = some (itR te 1 A l.length c (l.map bv))) (g : BS S w B c2 l2) (hb : l.length + l2.length ≤ 140737488355328)
  (h : ∀ A' c' w', HP w0 M0 Fz w' (H.set i (itR te 1 A' (l ++ l2).length c' ((l ++ l2).map bv))) → Chg (fun b => ¬ Fz b) w w' → WL P n ops Q rest ((d, .slice A' (l ++ l2).length c') :: L) w') :
  WL P n ops Q ({ dst := some d, op := .call { callee := .builtin .append, args := #[s, x], argTypes := #[t, t] }, type := ty, pos := pos, after := af, guard := none } :: rest) L w := by
 have hc := GS.cells1 (he := fun _ => rfl) g
 refine wl_happend hd hT hs hx hp hi (news := l2.map bv) (by simp) (fun b hb => hc.1 b hb) (fun hB => by rw [hc.2 hB]; rfl) (fun u hu => by obtain ⟨b, _, rfl⟩ := List.mem_map.1 hu; rfl) (by omega) (fun A' c' w' h1 h2 => ?_)
 rw [List.length_append, List.map_append] at h
 exact h A' c' w' h1 h2
def unr (P : Program) (c : Code) (Q : Exit → Act → World → Prop) : Nat → Act → World → Prop
 | 0 => fun _ _ => False
 | m + 1 => c.wp P (Exit.then (unr P c Q m) Q)
theorem wc_unfold {c : Code} {m : Nat} (h : WK n (c.wp P (Exit.then (unr P c Q m) Q)) L w) : WK n (unr P c Q (m + 1)) L w := h
theorem wc_unroll {c : Code} (m : Nat) (h : WK n (unr P c Q m) L w) : WK n ((Code.loop c).wp P Q) L w := by
 intro a ha b k cs
 have key : ∀ m a' w', unr P c Q m a' w' → ∃ e a₂ w₂, Q e a₂ w₂ ∧ Arrives P (lone (b.at a' (.code c :: .inLoop c :: k)) cs w') b k cs e a₂ w₂ := by
  intro m
  induction m with
  | zero => intro a' w' h; exact h.elim
  | succ m ih =>
   intro a' w' hU
   obtain ⟨e, a₁, w₁, hq, harr⟩ := hU b (.inLoop c :: k) cs
   cases e with
   | normal =>
    obtain ⟨e₂, a₂, w₂, hq₂, harr₂⟩ := ih a₁ w₁ hq
    exact ⟨e₂, a₂, w₂, hq₂, .of_steps (Steps.trans harr (.one step_inLoop)) harr₂⟩
   | exit id => exact ⟨_, a₁, w₁, hq, .pass (x := .inLoop c) rfl (fun _ _ => .inl (by simp)) harr⟩
   | goto l => exact ⟨_, a₁, w₁, hq, .pass (x := .inLoop c) rfl (fun _ _ => .inl (by simp)) harr⟩
   | ret => exact ⟨_, a₁, w₁, hq, .pass (x := .inLoop c) rfl (fun _ _ => .inl (by simp)) harr⟩
   | panic ch => exact ⟨_, a₁, w₁, hq, .pass (x := .inLoop c) rfl (fun _ _ => .inl (by simp)) harr⟩
   | outgrown => exact ⟨_, a₁, w₁, hq, .pass (x := .inLoop c) rfl (fun _ _ => .inl (by simp)) harr⟩
 obtain ⟨e, a', w', hq, harr⟩ := key m a w (h a ha)
 exact ⟨e, a', w', hq, .of_steps (.one step_loop) harr⟩
end
def i64R : Rep Int where
 size := 1
 rd := fun _ _ cs x => i64 x ∧ cs = [.int .i64 x]
 len := by rintro _ _ _ _ ⟨_, rfl⟩; rfl
 one := by rintro _ _ _ _ ⟨_, rfl⟩; exact List.all_eq_true.1 rfl
 keep := by rintro _ _ _ _ _ _ _ _ h; exact h
 mono := by rintro _ _ _ _ _ _ h; exact h
section
variable (te tw tr gw : Nat) (w0 : World) (M0 Fz : Nat → Prop) (w : World) (H : List It)
def WrP (out : List UInt8) (_v : Value) (w2 : World) : Prop := ∃ A' c', HP w0 M0 Fz w2 (itB gw tw [.slice A' out.length c'] :: itR te 1 A' out.length c' (out.map bv) :: H) ∧ Frz Fz Fz w w2
def RdP {α : Type} (X : List Value → It) (r : Rep α) (p : PR α) (bad : Bool) (l : List UInt8) (_v : Value) (w2 : World) : Prop :=
 ∃ F2 A' c' l' bad' cs x, HP w0 M0 F2 w2 (itB gw tr [.slice A' (l' : List UInt8).length c', .bool bad'] :: X cs :: H) ∧ Frz Fz F2 w w2 ∧ GS byteR F2 w2 A' c' l' ∧ r.rd F2 w2 cs x ∧ StepP p (rst bad l) (rst bad' l') x
end
section
variable (P : Program) {α : Type}
def EachW (te tw gw : Nat) (w0 : World) (M0 Fz : Nat → Prop) (w : World) (r : Rep α) (E : α → List UInt8) (ok : α → Prop) (F : Value) : Prop :=
 ∀ (w1 : World) (H1 : List It) (A : Option Addr) (c : Nat) (out : List UInt8) (pa : Addr) (cs : List Value) (x : α), Frz Fz Fz w w1 → HP w0 M0 Fz w1 (itB gw tw [.slice A out.length c] :: itR te 1 A out.length c (out.map bv) :: H1) → AtF Fz w1 pa cs → r.rd Fz w1 cs x → ok x → out.length + (E x).length ≤ 1000000 →
  RetV P F [.pointer (some pa)] w1 (WrP te tw gw w0 M0 Fz w1 H1 (out ++ E x))
def EachR (tr gr : Nat) (w0 : World) (M0 Fz : Nat → Prop) (w : World) (r : Rep α) (zero : List Value) (p : PR α) (F : Value) : Prop :=
 ∀ (w1 : World) (F1 : Nat → Prop) (H1 : List It) (X : List Value → It) (pa : Addr) (A : Option Addr) (c : Nat) (l : List UInt8) (bad : Bool), Frz Fz F1 w w1 → HP w0 M0 F1 w1 (itB gr tr [.slice A l.length c, .bool bad] :: X zero :: H1) → Slot X pa r.size → GS byteR F1 w1 A c l →
  RetV P F [.pointer (some pa)] w1 (RdP tr gr w0 M0 F1 w1 H1 X r p bad l)
end
end Go.Eng
namespace Go.Eng
open Go.RowKit
theorem OwnRow.gsRF {α : Type} {r : Rep α} {Fz : Nat → Prop} {w : World} {e lo c : Nat} {A : Option Addr} {rows : List (List Value)} {l : List α} (h : OwnRow e r.size lo w A l.length c rows.flatten) (hR : RF r Fz w rows l) (hf : ∀ b, c ≠ 0 → blk A b → Fz b) : GS r Fz w A c l := by
 by_cases hc : c = 0
 ·have hl : l = [] := List.eq_nil_of_length_eq_zero (by have := h.le; omega)
  subst hl
  exact GS.nil _ _ _ _ _
 ·rcases h.row with h0 | ⟨g, cur, hA, _, hg, _⟩
  ·exact absurd h0.1 hc
  ·have hlt := (Array.getElem?_eq_some_iff.1 hg).1
   have hat := h.at_ hA
   rw [hA]
   exact GS.of_rows rows hat hlt (hf g hc ⟨_, hA, rfl⟩) h.le h.mx hR.2
theorem RF.flen {α : Type} {r : Rep α} {Fz : Nat → Prop} {w : World} {rows : List (List Value)} {l : List α} (h : RF r Fz w rows l) : rows.flatten.length = l.length * r.size := by
 rw [flat_len rows r.size h.lens, h.1]
theorem flat_snoc (rows : List (List Value)) (cs : List Value) : (rows ++ [cs]).flatten = rows.flatten ++ (cs ++ []) := by simp
theorem StepP.snoc {α : Type} {p : PR α} {k : Nat} {s s1 s2 : Option (List UInt8)} {xs : List α} {x : α} (h : StepP (repP p k) s s1 xs) (h1 : StepP p s1 s2 x) : StepP (repP p (k + 1)) s s2 (xs ++ [x]) := StepP.bind h (StepP.bind h1 (StepP.pure _ _))
def SP.clo (lo e f : Nat) (cs : List Value) : SP := ⟨fun v w => ∃ g, v = .func (.func f) ([] : List Value).toArray [Value.pointer (some ⟨g, 0, none⟩)].toArray ∧ lo ≤ g ∧ w.heap[g]? = some (.cells cs.toArray e (0, 0)), by
 rintro _ w w' ch ⟨g, rfl, h1, h2⟩
 exact ⟨g, rfl, h1, (ch.block g (Array.getElem?_eq_some_iff.1 h2).1 (fun x => x)).trans h2⟩⟩
end Go.Eng
namespace Go.Eng
theorem GS.rep {α : Type} {r r' : Rep α} {S : Nat → Prop} {w : World} {A : Option Addr} {c : Nat} {l : List α} (h : GS r S w A c l) (hs : r.size = r'.size) (hr : ∀ S w cs x, r.rd S w cs x → r'.rd S w cs x) : GS r' S w A c l :=
 ⟨h.le, h.mx, fun i hi => by
  obtain ⟨a, cs, h1, h2, h3, h4, h5⟩ := h.rd i hi
  exact ⟨a, cs, h1, h2, h3, by rw [← hs]; exact h4, hr _ _ _ _ h5⟩⟩
theorem GS.ints {S : Nat → Prop} {w : World} {A : Option Addr} {c : Nat} {l : List Int} (h : GS i64R S w A c l) : GS intR S w A c l := h.rep rfl (fun _ _ _ _ hr => hr.2)
end Go.Eng
namespace Go.Eng
section
variable (tr gr : Nat) (w0 : World) (M0 Fz : Nat → Prop) (w : World) (H : List It) {α : Type}
def RvB (r : Rep α) (agg : Bool) (p : PR α) (bad : Bool) (l : List UInt8) (v : Value) (w2 : World) : Prop :=
 ∃ F2 A' c' l' bad' cs x, v = (if agg then .agg cs.toArray else cs.headD undef) ∧ HP w0 M0 F2 w2 (itB gr tr [.slice A' (l' : List UInt8).length c', .bool bad'] :: H) ∧ Frz Fz F2 w w2 ∧ GS byteR F2 w2 A' c' l' ∧ r.rd F2 w2 cs x ∧ StepP p (rst bad l) (rst bad' l') x
def RvE (r : Rep α) (agg : Bool) (p : PR α) (e : Int) (l : List UInt8) (v : Value) (w2 : World) : Prop :=
 ∃ F2 A' c' l' e' cs x, v = (if agg then .agg cs.toArray else cs.headD undef) ∧ HP w0 M0 F2 w2 (itB gr tr [.slice A' (l' : List UInt8).length c', .int .i64 e'] :: H) ∧ Frz Fz F2 w w2 ∧ GS byteR F2 w2 A' c' l' ∧ r.rd F2 w2 cs x ∧ StepP p (rst (decide (e ≠ 0)) l) (rst (decide (e' ≠ 0)) l') x
end
end Go.Eng
namespace Go.Eng
theorem many_fin2 {bad b1 bad' : Bool} {l l1 : List UInt8} {x1 x' most : Int} (h : StepP numP (rst bad l) (rst b1 l1) x1) (hb : bad' = (b1 || decide (most < x1))) (hx : bad' = false → x' = x1) : StepP (manyP most) (rst bad l) (rst bad' l1) x' := by
 have h1 := step_many (most := most) h
 rw [← hb] at h1
 cases bad' with
 | true => exact h1
 | false => rw [hx rfl]; exact h1
theorem end_E {e : Int} {l : List UInt8} {e' : Int} (h : e' = if e = 0 ∧ 0 < l.length then 4 else e) : (e' = 0 ↔ rst (decide (e ≠ 0)) l = some []) := by
 subst h
 by_cases he : e = 0
 ·subst he
  cases l with
  | nil => simp [rst]
  | cons x t => simp [rst]
 ·simp [rst, he]
end Go.Eng
namespace Go.Eng
section
variable {tr gr : Nat} {w0 : World} {M0 Fz : Nat → Prop} {w w1 w2 w3 : World} {H : List It} {α : Type} {r : Rep α} {agg : Bool} {p : PR α} {l : List UInt8} {v : Value}
theorem RvE.from {e : Int} (h : RvE tr gr w0 M0 Fz w1 H r agg p e l v w2) (hE : Ext w w1) : RvE tr gr w0 M0 Fz w H r agg p e l v w2 := by
 obtain ⟨F2, A', c', l', e', cs, x, h1, h2, h3, h4⟩ := h
 exact ⟨F2, A', c', l', e', cs, x, h1, h2, ((Frz.start Fz w).ext hE).trans h3, h4⟩
theorem RvE.ext {e : Int} (h : RvE tr gr w0 M0 Fz w H r agg p e l v w2) (hE : Ext w2 w3) : RvE tr gr w0 M0 Fz w H r agg p e l v w3 := by
 obtain ⟨F2, A', c', l', e', cs, x, h1, h2, h3, h4, h5, h6⟩ := h
 exact ⟨F2, A', c', l', e', cs, x, h1, h2.ext hE, h3.ext hE, h4.ext hE, r.keep hE (fun _ _ _ x => x) h5, h6⟩
theorem RvB.from {e : Bool} (h : RvB tr gr w0 M0 Fz w1 H r agg p e l v w2) (hE : Ext w w1) : RvB tr gr w0 M0 Fz w H r agg p e l v w2 := by
 obtain ⟨F2, A', c', l', e', cs, x, h1, h2, h3, h4⟩ := h
 exact ⟨F2, A', c', l', e', cs, x, h1, h2, ((Frz.start Fz w).ext hE).trans h3, h4⟩
theorem RvB.ext {e : Bool} (h : RvB tr gr w0 M0 Fz w H r agg p e l v w2) (hE : Ext w2 w3) : RvB tr gr w0 M0 Fz w H r agg p e l v w3 := by
 obtain ⟨F2, A', c', l', e', cs, x, h1, h2, h3, h4, h5, h6⟩ := h
 exact ⟨F2, A', c', l', e', cs, x, h1, h2.ext hE, h3.ext hE, h4.ext hE, r.keep hE (fun _ _ _ x => x) h5, h6⟩
def OneOf (v u : Value) (w : World) : Prop := ∃ gt, u = .slice (some ⟨gt, 0, none⟩) 1 1 ∧ At w ⟨gt, 0, none⟩ v.cells.toList
theorem OneOf.ext {u : Value} (h : OneOf v u w) (hE : Ext w w1) : OneOf v u w1 := by
 obtain ⟨gt, h1, h2⟩ := h
 exact ⟨gt, h1, h2.keep hE (fun _ x => x)⟩
end
end Go.Eng
namespace Go.Eng
open Go.RowKit
section
variable {P : Program} {n : Nat} {L : List (Nat × Value)} {w w' : World} {Q : Exit → Act → World → Prop} {ops : Array Oper} {rest : List Oper} {ty : TypeId} {pos : String} {af : Array Edge} {d : Nat}
theorem wl_oneOf {t e size bytes : Nat} {x : Operand} {v : Value} {ps : Array (Nat × Operand)} (hd : d < n) (hT : slB P t e size bytes = true) (hp : ps = #[(0, x)]) (hx : ev L x = some v) (hs : v.cells.size = size) (hm : size ≤ 16777216)
  (h : ∀ u w', OneOf v u w' → Ext w w' → WL P n ops Q rest ((d, u) :: L) w') :
  WL P n ops Q ({ dst := some d, op := .buildSlice t 1 ps, type := ty, pos := pos, after := af, guard := none } :: rest) L w := by
 refine wl_bslice (xs := [x]) (vs := [v]) hd hT (by rw [hp]; rfl) (by simp [evs, hx]) rfl (by intro y hy; rw [List.mem_singleton.1 hy]; exact hs) (by simpa using hm) 0 (Nat.zero_le _) (fun g w' hg ho hE => ?_)
 have := ho.at0
 exact h _ _ ⟨g, rfl, by simpa using this⟩ hE
end
end Go.Eng
namespace Go.Eng
section
variable {α : Type} {p : PR α} {k n : Nat} {s : Option (List UInt8)} {bad : Bool} {l : List UInt8} {xs : List α}
theorem StepP.anyx {β : Type} {q : PR β} {x y : β} (h : StepP q s none x) : StepP q s none y := h
theorem rep_none (h : StepP (repP p k) s none xs) : ∀ d, StepP (repP p (k + d)) s none xs
 | 0 => h
 | d + 1 => by
  have := rep_none h d
  exact (StepP.bind this (StepP.bad (bindP p fun x => pureP (xs ++ [x])) xs)).anyx
theorem rep_end (h : StepP (repP p k) s (rst bad l) xs) (hk : k ≤ n) (hh : bad = true ∨ k = n) : StepP (repP p n) s (rst bad l) xs := by
 rcases hh with rfl | rfl
 ·have := rep_none (p := p) (k := k) h (n - k)
  rwa [show k + (n - k) = n by omega] at this
 ·exact h
theorem rep_fail (h : StepP (repP p k) s (rst bad l) xs) {x : α} (hx : StepP p (rst bad l) none x) (hk : k < n) : StepP (repP p n) s none xs := by
 have h1 : StepP (repP p (k + 1)) s none xs := StepP.bind (q := fun xs => bindP p fun x => pureP (xs ++ [x])) h (StepP.bind (q := fun x => pureP (xs ++ [x])) hx (StepP.bad (pureP (xs ++ [x])) xs))
 have := rep_none (p := p) (k := k + 1) h1 (n - (k + 1))
 rwa [show k + 1 + (n - (k + 1)) = n by omega] at this
end
end Go.Eng
namespace Go.Eng
open Go.RowKit
section
variable {P : Program} {n : Nat} {L : List (Nat × Value)} {w w' : World} {Q : Exit → Act → World → Prop} {ops : Array Oper} {rest : List Oper} {ty : TypeId} {pos : String} {af : Array Edge} {d : Nat}
theorem wl_indexV {t e m : Nat} {x ix : Operand} {cs : Array Value} {k : IntKind} {i : Int} {v : Value} (hd : d < n) (hT : arB P t m e 1 = true) (hs : scB P e = true) (hx : ev L x = some (.agg cs)) (hi : ev L ix = some (.int k i)) (j : Nat) (hj : i = (j : Int)) (hlt : j < m) (hv : cs[j]? = some v)
  (h : WL P n ops Q rest ((d, v) :: L) w) :
  WL P n ops Q ({ dst := some d, op := .index t x ix, type := ty, pos := pos, after := af, guard := none } :: rest) L w := by
 obtain ⟨h1, ie, h2, h3⟩ := arB_out hT
 subst hj
 refine wl_run hd (fun a ha => ?_) h
 have hlt' : (j : Int) < (m : Int) := by omega
 simp [execOp, Instr.index, ha.eval hx, ha.eval hi, asIntOf, run_underlying h1, sizeOf, typeInfo, h2, h3, part, run_notAgg hs, hv]
 omega
end
end Go.Eng
namespace Go.Eng
open Go.RowKit
theorem setRow_same {w : World} {g : Nat} {cur : Array Value} {t : TypeId} {fr : Nat × Nat} (hg : w.heap[g]? = some (.cells cur t fr)) : w.setRow g cur = w := by
 have h : (w.setRow g cur).heap = w.heap := by
  apply Array.ext_getElem?
  intro i
  by_cases hi : i = g
  ·subst hi
   rw [setRow_heap w i _ _ _ _ hg, hg]
  ·exact setRow_other w g i cur hi
 show { w with heap := (w.setRow g cur).heap } = w
 rw [h]
section
variable {P : Program} {n : Nat} {L : List (Nat × Value)} {w0 w : World} {M0 Fz : Nat → Prop} {H : List It} {Q : Exit → Act → World → Prop} {ops : Array Oper} {rest : List Oper} {ty : TypeId} {pos : String} {af : Array Edge}
theorem wl_sameB {t e g o : Nat} {cs : List Value} {x y : Operand} {v : Value} (hx : ev L x = some (.pointer (some ⟨g, o, none⟩))) (hy : ev L y = some v) (hb : Blk w g e cs) (hs : szB P t v.cells.size = true)
  (hl : o + v.cells.size ≤ cs.length) (h1 : ∀ u ∈ v.cells.toList, u.oneCell' = true) (he : putL cs o v.cells.toList = cs) (h : WL P n ops Q rest L w) :
  WL P n ops Q ({ dst := none, op := .store t x y, type := ty, pos := pos, after := af, guard := none } :: rest) L w := by
 have hr := run_storeAt (P := P) (w := w) (t := t) (v := v) hs hb (by simpa using hl) h1
 rw [show (putL cs.toArray.toList o v.cells.toList).toArray = cs.toArray by rw [List.toList_toArray, he], setRow_same hb] at hr
 exact wl_eff (fun a ha => by simp only [execOp, ha.eval hx, ha.eval hy, Sem.run_bind, hr, Result.andThen_ok, Sem.run_pure]) h
theorem wl_hsame {t e g i k : Nat} {cs : List Value} {x y : Operand} (hx : ev L x = some (.pointer (some ⟨g, 0, none⟩))) (hy : ev L y = some (.agg cs.toArray)) (hp : HP w0 M0 Fz w H) (hi : H[i]? = some (itB g e cs)) (hs : szB P t k = true) (hk : cs.length = k)
  (h1 : ∀ u ∈ cs, u.oneCell' = true) (h : WL P n ops Q rest L w) :
  WL P n ops Q ({ dst := none, op := .store t x y, type := ty, pos := pos, after := af, guard := none } :: rest) L w := by
 have hc : (Value.agg cs.toArray).cells = cs.toArray := rfl
 refine wl_sameB hx hy (hp.blkAt hi) (by rw [hc, List.size_toArray, hk]; exact hs) (by rw [hc, List.size_toArray]; omega) (by rw [hc, List.toList_toArray]; exact h1) (by rw [hc, List.toList_toArray, putL]; simp) h
end
theorem AtF.mid {S : Nat → Prop} {w : World} {a : Addr} {pre cs post : List Value} (h : AtF S w a (pre ++ (cs ++ post))) : AtF S w (a.add pre.length) cs :=
 ⟨h.at_.mid, by rw [block_add]; exact h.inS, by rw [block_add]; exact h.lt⟩
structure MutF (S : Nat → Prop) (w : World) (g : Nat) : Prop where
 ex : ∃ cur e, w.heap[g]? = some (.cells cur e (0, 0))
 inS : S g
 lt : g < w.heap.size
section
variable {S S' : Nat → Prop} {w w' : World} {g : Nat}
theorem MutF.ext (h : MutF S w g) (ch : Ext w w') : MutF S w' g := ⟨by obtain ⟨c, e, k⟩ := h.ex; exact ⟨c, e, (ch.block g h.lt (fun x => x)).trans k⟩, h.inS, Nat.lt_of_lt_of_le h.lt ch.size⟩
theorem MutF.fz (h : MutF S w g) (ch : Chg (fun b => ¬ S b) w w') : MutF S w' g := ⟨by obtain ⟨c, e, k⟩ := h.ex; exact ⟨c, e, (ch.block g h.lt (fun x => x h.inS)).trans k⟩, h.inS, Nat.lt_of_lt_of_le h.lt ch.size⟩
theorem MutF.wid (h : MutF S w g) (hs : ∀ b, S b → S' b) : MutF S' w g := ⟨h.ex, hs _ h.inS, h.lt⟩
theorem MutF.of {e : Nat} {a : Addr} {cs cs2 : List Value} (hb : Blk w g e cs2) (h : AtF S w a cs) (he : a.block = g) : MutF S w g := ⟨⟨_, _, hb⟩, he ▸ h.inS, he ▸ h.lt⟩
end
section
variable {P : Program} {n : Nat} {L : List (Nat × Value)} {w : World} {Q : Exit → Act → World → Prop} {ops : Array Oper} {rest : List Oper} {ty : TypeId} {pos : String} {af : Array Edge}
theorem wl_sameF {t : Nat} {S : Nat → Prop} {p : Addr} {v : Value} {cs : List Value} {x y : Operand} (hx : ev L x = some (.pointer (some p))) (hy : ev L y = some v) (hat : AtF S w p (v :: cs)) (hm : MutF S w p.block) (hs : szB P t 1 = true)
  (hv : v.cells = #[v]) (h1 : v.oneCell' = true) (h : WL P n ops Q rest L w) :
  WL P n ops Q ({ dst := none, op := .store t x y, type := ty, pos := pos, after := af, guard := none } :: rest) L w := by
 obtain ⟨cur, e, hg⟩ := hm.ex
 have hc := hat.at_ 0 v rfl
 rw [add_zero'] at hc
 obtain ⟨g, o, sp⟩ := p
 simp only at hg
 unfold World.cell? at hc
 rw [hg] at hc
 cases sp with
 | some z => simp at hc
 | none =>
  simp only [Option.isSome_none] at hc
  have hc2 : cur[o]? = some v := hc
  obtain ⟨hlt, he⟩ := Array.getElem?_eq_some_iff.1 hc2
  have hr := run_storeAt (P := P) (w := w) (t := t) (v := v) (g := g) (o := o) (by rw [hv]; exact hs) hg (by rw [hv]; exact hlt) (by rw [hv]; simpa using h1)
  have hq : (putL cur.toList o v.cells.toList).toArray = cur := by
   rw [hv]
   apply Array.ext'
   show putL cur.toList o [v] = cur.toList
   apply List.ext_getElem?
   intro i
   rw [putL]
   simp only [List.length_cons, List.length_nil]
   have hl : (cur.toList.take o).length = o := by rw [List.length_take, Array.length_toList]; omega
   rcases Nat.lt_trichotomy i o with h2 | h2 | h2
   ·rw [List.append_assoc, List.getElem?_append_left (by omega), List.getElem?_take_of_lt h2]
   ·subst h2
    rw [List.append_assoc, List.getElem?_append_right (by omega), hl, Nat.sub_self]
    simp [hc2]
   ·rw [List.append_assoc, List.getElem?_append_right (by omega), hl, List.getElem?_append_right (by simp; omega), List.getElem?_drop]
    congr 1
    simp
    omega
  rw [hq, setRow_same hg] at hr
  exact wl_eff (fun a ha => by simp only [execOp, ha.eval hx, ha.eval hy, Sem.run_bind, hr, Result.andThen_ok, Sem.run_pure]) h
end
end Go.Eng
namespace Go.Eng
open Go.RowKit
theorem go {G R : Prop} (r : R) (s : R → G := by
  intro r
  repeat (first
   | ((with_reducible refine wl_move (v := ?_) ?_ ?_ ?_); rotate_left; decide; rfl)
   | ((with_reducible refine wl_assign (v := ?_) ?_ ?_ ?_); rotate_left; decide; rfl)
   | with_reducible refine wl_nil ?_
   | with_reducible refine wk_norm ?_
   | with_reducible refine wc_seq ?_
   | with_reducible refine wc_region ?_
   | ((with_reducible refine wl_gno (dj := ?_) (u := ?_) ?_ ?_ ?_ ?_ ?_); rotate_left 2; decide; rfl; rfl; first | exact .inl rfl | exact .inr rfl)
   | ((with_reducible refine wl_gyes (dj := ?_) ?_ ?_ ?_); rotate_left; rfl; rfl)
   | ((with_reducible refine wl_pick (b := ?_) (v := ?_) ?_ ?_ ?_ ?_); rotate_left 2; decide; rfl; rfl)
   | ((with_reducible refine wl_extract (vs := ?_) (v := ?_) ?_ ?_ ?_ ?_); rotate_left 2; decide; rfl; rfl)
   | with_reducible refine wk_then_exit ?_
   | with_reducible refine wk_blk_exit ?_
   | ((with_reducible refine wk_blk_exit_ne ?_ ?_); decide)
   | with_reducible refine wk_then_ret ?_
   | with_reducible refine wk_blk_ret ?_
   | with_reducible refine wk_blk_norm ?_
   | with_reducible refine wc_skip ?_
   | with_reducible refine wc_ret ?_
   | with_reducible refine wc_exit ?_
   | with_reducible refine wc_block ?_
   | ((with_reducible refine wl_nilCheck (p := ?_) ?_ ?_ ?_); rotate_left; decide; rfl)
   | ((with_reducible show WL _ _ _ _ _ _ _); first | refine wl_move (by decide) rfl ?_ | refine wl_assign (by decide) rfl ?_ | refine wl_nil ?_ | refine wl_gno (by decide) rfl rfl (.inl rfl) ?_ | refine wl_gno (by decide) rfl rfl (.inr rfl) ?_ | refine wl_gyes rfl rfl ?_ | refine wl_pick (by decide) rfl rfl ?_ | refine wl_extract (by decide) rfl rfl ?_ | refine wl_nilCheck (by decide) rfl ?_)
   | refine wc_seq ?_ | refine wc_region ?_)
  exact r) : G := s r
theorem gl {G R : Prop} (r : R) (s : R → G := by
  intro r
  repeat (first
   | ((with_reducible refine wl_move (v := ?_) ?_ ?_ ?_); rotate_left; decide; rfl)
   | ((with_reducible refine wl_assign (v := ?_) ?_ ?_ ?_); rotate_left; decide; rfl)
   | with_reducible refine wl_nil ?_
   | with_reducible refine wk_norm ?_
   | ((with_reducible refine wl_gno (dj := ?_) (u := ?_) ?_ ?_ ?_ ?_ ?_); rotate_left 2; decide; rfl; rfl; first | exact .inl rfl | exact .inr rfl)
   | ((with_reducible refine wl_gyes (dj := ?_) ?_ ?_ ?_); rotate_left; rfl; rfl)
   | ((with_reducible refine wl_pick (b := ?_) (v := ?_) ?_ ?_ ?_ ?_); rotate_left 2; decide; rfl; rfl)
   | ((with_reducible refine wl_extract (vs := ?_) (v := ?_) ?_ ?_ ?_ ?_); rotate_left 2; decide; rfl; rfl)
   | with_reducible refine wk_then_exit ?_
   | with_reducible refine wk_blk_exit ?_
   | ((with_reducible refine wk_blk_exit_ne ?_ ?_); decide)
   | with_reducible refine wk_then_ret ?_
   | with_reducible refine wk_blk_ret ?_
   | with_reducible refine wk_blk_norm ?_
   | with_reducible refine wc_skip ?_
   | with_reducible refine wc_ret ?_
   | with_reducible refine wc_exit ?_
   | ((with_reducible refine wl_nilCheck (p := ?_) ?_ ?_ ?_); rotate_left; decide; rfl)
   | ((with_reducible show WL _ _ _ _ _ _ _); first | refine wl_move (by decide) rfl ?_ | refine wl_assign (by decide) rfl ?_ | refine wl_nil ?_ | refine wl_gno (by decide) rfl rfl (.inl rfl) ?_ | refine wl_gno (by decide) rfl rfl (.inr rfl) ?_ | refine wl_gyes rfl rfl ?_ | refine wl_pick (by decide) rfl rfl ?_ | refine wl_extract (by decide) rfl rfl ?_ | refine wl_nilCheck (by decide) rfl ?_))
  exact r) : G := s r
section
variable {P : Program} {n : Nat} {ops : Array Oper} {F L L0 : List (Nat × Value)} {w : World} {d i : Nat} {v e u : Value} {R : Value → World → Prop} {Φ : List SP}
theorem qz (h : R v w := by exact ⟨Chg.refl _ _, rfl⟩) : WL P n ops (QR n F (some d) R) [] ((d, v) :: F) w := wl_nil (qr_some h)
theorem qy (h : R v w := by exact ⟨Chg.refl _ _, rfl⟩) : WL P n ops (QR n F (some d) R) [] ((d, v) :: (d, u) :: F) w := wl_nil (qr_re h)
theorem Kn.pe (h : Kn ops L0 (fun i => (spAt Φ i).p) i F w) (p : Nat) (es : List Nat := []) (hd : dstOf ops p = some d := by rfl) (hs : spAt Φ p = SP.eq e := by rfl) (hp : pathOk ops i es p = true := by kernel_rfl) : lk F d = some e := by
 obtain ⟨v, h1, h2⟩ := h.predP es p hp d hd
 rw [hs] at h2
 rw [h1, show v = e from h2]
theorem Kn.pp (h : Kn ops L0 (fun i => (spAt Φ i).p) i F w) (p : Nat) (es : List Nat := []) (hd : dstOf ops p = some d := by rfl) (hp : pathOk ops i es p = true := by kernel_rfl) : ∃ v, lk F d = some v ∧ (spAt Φ p).p v w := h.predP es p hp d hd
theorem Kn.pi (h : Kn ops L0 (fun i => (spAt Φ i).p) i F w) (x : Nat) (ps : List (Nat × List Nat) := []) (hx : lk L0 x = some v := by rfl) (hp : initOk ops i x ps = true := by kernel_rfl) : lk F x = some v := h.initP ps x v hx hp
theorem Kn.qe (h : Kn ops L0 (fun i => (spAt Φ i).p) i F w) (p : Nat) (hd : dstOf ops p = some d := by rfl) (hs : spAt Φ p = SP.eq e := by rfl) (hp : anc ops ops.size i p = true := by kernel_rfl) : lk F d = some e := by
 obtain ⟨v, h1, h2⟩ := h.pred p hp d hd
 rw [hs] at h2
 rw [h1, show v = e from h2]
theorem Kn.qp (h : Kn ops L0 (fun i => (spAt Φ i).p) i F w) (p : Nat) (hd : dstOf ops p = some d := by rfl) (hp : anc ops ops.size i p = true := by kernel_rfl) : ∃ v, lk F d = some v ∧ (spAt Φ p).p v w := h.pred p hp d hd
theorem Kn.qi (h : Kn ops L0 (fun i => (spAt Φ i).p) i F w) (x : Nat) (hx : lk L0 x = some v := by rfl) (hp : okInit ops i x = true := by kernel_rfl) : lk F x = some v := h.init x v hx hp
theorem dq (h : ∀ j d, dstOf ops j = some d → ∃ v, lk F d = some v ∧ (spAt Φ j).p v w) (j : Nat) (hd : dstOf ops j = some d := by rfl) (hs : spAt Φ j = SP.eq e := by rfl) : lk F d = some e := by
 obtain ⟨v, h1, h2⟩ := h j d hd
 rw [hs] at h2
 rw [h1, show v = e from h2]
theorem dr {m : Nat} (h : ∀ j d, j < m → dstOf ops j = some d → ∃ v, lk F d = some v ∧ (spAt Φ j).p v w) (j : Nat) (hj : j < m := by exact Nat.lt_of_lt_of_eq (by decide) rfl) (hd : dstOf ops j = some d := by rfl) (hs : spAt Φ j = SP.eq e := by rfl) : lk F d = some e := by
 obtain ⟨v, h1, h2⟩ := h j d hj hd
 rw [hs] at h2
 rw [h1, show v = e from h2]
theorem di {B : Nat → Bool} (h : ∀ x v, lk L x = some v → B x = true → lk F x = some v) (x : Nat) (hx : lk L x = some v := by rfl) (hb : B x = true := by kernel_rfl) : lk F x = some v := h x v hx hb
theorem dn {op : Op} {ty : TypeId} {pos : String} {af : Array Edge} {j dj : Nat} {want : Bool} (hv : lk F dj = some u) (hd : d < n := by decide) (hj : ((ops[j]?).bind (·.dst)) = some dj := by rfl) (hu : u = .bool (!want) ∨ u = undef := by first | exact .inl rfl | exact .inr rfl) (hr : R undef w := by exact ⟨Chg.refl _ _, rfl⟩) :
  WL P n ops (QR n F (some d) R) [{ dst := some d, op := op, type := ty, pos := pos, after := af, guard := some (j, want) }] F w := wl_gno hd hj hv hu (wl_nil (qr_some hr))
theorem dm {x : Operand} {ty : TypeId} {pos : String} {af : Array Edge} (hx : ev F x = some v) (hd : d < n := by decide) (hr : R v w := by exact ⟨Chg.refl _ _, rfl⟩) : WL P n ops (QR n F (some d) R) [{ dst := some d, op := .move x, type := ty, pos := pos, after := af, guard := none }] F w := wl_move hd hx (wl_nil (qr_some hr))
end
theorem Cd {P : Program} {n : Nat} {L : List (Nat × Value)} {w : World} {Q : Exit → Act → World → Prop} {c : Operand} {x y : Code} {b : Bool} {p q : Prop} (ht : p → WK n (x.wp P Q) L w) (hf : q → WK n (y.wp P Q) L w) (hc : ev L c = some (.bool b) := by rfl) (hp : b = true ↔ p := by first | exact decide_eq_true_iff | exact Iff.rfl) (hq : b = false ↔ q := by first | exact decide_eq_false_iff_not | exact Iff.rfl) :
  WK n ((Code.cond c x y).wp P Q) L w := wc_cond hc (fun h => ht (hp.1 h)) (fun h => hf (hq.1 h))
theorem Gs {P : Program} {n : Nat} {ops : Array Oper} {rest : List Oper} {L : List (Nat × Value)} {w : World} {Q : Exit → Act → World → Prop} {b : Bool} {p q : Prop} (dj : Nat) (ht : p → WL P n ops Q rest ((dj, .bool true) :: L) w) (hf : q → WL P n ops Q rest ((dj, .bool false) :: L) w) (hv : lk L dj = some (.bool b) := by rfl) (hp : b = true ↔ p := by first | exact decide_eq_true_iff | exact Iff.rfl) (hq : b = false ↔ q := by first | exact decide_eq_false_iff_not | exact Iff.rfl) :
  WL P n ops Q rest L w := wl_gsplit hv (fun h => ht (hp.1 h)) (fun h => hf (hq.1 h))
section
variable {P : Program} {n : Nat} {L : List (Nat × Value)} {w : World} {Q : Exit → Act → World → Prop} {ops : Array Oper} {rest : List Oper} {ty : TypeId} {pos : String} {af : Array Edge} {d : Nat}
theorem Nd_ {x : Operand} {p : Prop} [Decidable p] {t : TypeId} (hx : ev L x = some (.bool (decide p))) (h : WL P n ops Q rest ((d, .bool (decide (¬ p))) :: L) w) (hd : d < n := by decide) : WL P n ops Q ({ dst := some d, op := .unOp .not t x, type := ty, pos := pos, after := af, guard := none } :: rest) L w := wl_notd hd hx h
theorem Nn_ {x : Operand} {b : Bool} {t : TypeId} (hx : ev L x = some (.bool b)) (h : WL P n ops Q rest ((d, .bool (!b)) :: L) w) (hd : d < n := by decide) : WL P n ops Q ({ dst := some d, op := .unOp .not t x, type := ty, pos := pos, after := af, guard := none } :: rest) L w := wl_not hd hx h
end
theorem leB_ {a b : Nat} (h : Nat.ble a b = true := by rfl) : a ≤ b := Nat.le_of_ble_eq_true h
abbrev iv (n : Int) : Value := .int .i64 n
abbrev s0 : Value := .slice none 0 0
abbrev pt (g o : Nat) : Value := .pointer (some ⟨g, o, none⟩)
theorem i0 : i64 0 := by unfold i64; omega
theorem gsn {α : Type} {r : Rep α} {S : Nat → Prop} {w : World} {A : Option Addr} {c : Nat} : GS r S w A c [] := GS.nil r S w A c
theorem HP.ay {w0 w : World} {M0 Fz : Nat → Prop} {H : List It} (h : HP w0 M0 Fz w H) (H' : List It) (e : H = H' := by rfl) : HP w0 M0 Fz w H' := h.as_ e
theorem HP.az {w0 w : World} {M0 Fz : Nat → Prop} {H : List It} (h : HP w0 M0 Fz w H) (H' : List It) (e : H = H' := by simp only [List.nil_append, List.cons_append, List.append_assoc, List.append_nil]) : HP w0 M0 Fz w H' := h.as_ e
theorem wdL {P : Program} {n : Nat} {L : List (Nat × Value)} {w : World} {Q : Exit → Act → World → Prop} {id : Nat} {l : List Oper} (Φ : List SP)
  (H : AllOps (fun i o => ∀ F w', Ext w w' → Kn l.toArray L (fun i => (spAt Φ i).p) i F w' → WL P n l.toArray (QR n F (dstOf l.toArray i) fun v w'' => Ext w' w'' ∧ (spAt Φ i).p v w'') [o] F w') 0 l)
  (hQ : ∀ F w', Ext w w' → (∀ x v, lk L x = some v → unwritten l.toArray x = true → lk F x = some v) → (∀ j d, dstOf l.toArray j = some d → ∃ v, lk F d = some v ∧ (spAt Φ j).p v w') → WK n (Q .normal) F w')
  (hm : P.follows .mixedOrders = true := by kernel_rfl) (hB : (fwd l.toArray && oneEach l.toArray) = true := by kernel_rfl) : WK n ((Code.region id l.toArray true).wp P Q) L w := wc_drawL Φ hm hB H hQ
theorem wdT {P : Program} {n : Nat} {L : List (Nat × Value)} {w : World} {Q : Exit → Act → World → Prop} {id : Nat} (m : Nat) {l : List Oper} (Φ : List SP)
  (H : AllOps (fun i o => ∀ F w', Ext w w' → Kn l.toArray L (fun i => (spAt Φ i).p) i F w' → WL P n l.toArray (QR n F (dstOf l.toArray i) fun v w'' => Ext w' w'' ∧ (spAt Φ i).p v w'') [o] F w') 0 (l.take m))
  (hQ : ∀ F w', Ext w w' → (∀ x v, lk L x = some v → ((List.range (l.take m).length).all fun j => match dstOf l.toArray j with | some d => !Nat.beq d x | none => true) = true → lk F x = some v) →
   (∀ j d, j < (l.take m).length → dstOf l.toArray j = some d → ∃ v, lk F d = some v ∧ (spAt Φ j).p v w') → WL P n l.toArray Q (l.drop m) F w')
  (hm : P.follows .mixedOrders = true := by kernel_rfl) (hB : drawnB (l.take m) (l.drop m) = true := by kernel_rfl) : WK n ((Code.region id l.toArray true).wp P Q) L w := wc_drawTL m Φ hm hB H hQ
theorem P1 {P : Program} {fn : Func} {n : Nat} {L : List (Nat × Value)} {w : World} {R : Ending → World → Prop} {e : Exit} {t : Nat} {v : Value} (hr : fn.results = #[.tmp t]) (h : R (.returned v) w) (he : e = .ret ∨ e = .normal := by first | exact .inl rfl | exact .inr rfl) (hv : lk L t = some v := by rfl) : WK n (bodyPost P fn R e) L w := wk_post1 he hr hv h
theorem P2 {P : Program} {fn : Func} {n : Nat} {L : List (Nat × Value)} {w : World} {R : Ending → World → Prop} {e : Exit} {t u : Nat} {v x : Value} (hr : fn.results = #[.tmp t, .tmp u]) (h : R (.returned (.tuple #[v, x])) w) (he : e = .ret ∨ e = .normal := by first | exact .inl rfl | exact .inr rfl) (hv : lk L t = some v := by rfl) (hx : lk L u = some x := by rfl) : WK n (bodyPost P fn R e) L w := wk_post2 he hr hv hx h
theorem GS.tk {α : Type} {r : Rep α} {S : Nat → Prop} {w : World} {A : Option Addr} {c : Nat} {l : List α} (_ : GS r S w A c l) : Frz S S w w := Frz.start S w
theorem AtF.tk {S : Nat → Prop} {w : World} {a : Addr} {cs : List Value} (_ : AtF S w a cs) : Frz S S w w := Frz.start S w
theorem MutF.tk {S : Nat → Prop} {w : World} {g : Nat} (_ : MutF S w g) : Frz S S w w := Frz.start S w
theorem RF.tk {α : Type} {r : Rep α} {S : Nat → Prop} {w : World} {rows : List (List Value)} {l : List α} (_ : RF r S w rows l) : Frz S S w w := Frz.start S w
theorem AtF.sub {S : Nat → Prop} {w : World} {a : Addr} {cs xs : List Value} (h : AtF S w a cs) (o k : Nat) (e : (cs.drop o).take k = xs := by rfl) : AtF S w (a.add o) xs := by
 subst e
 have e1 : cs = cs.take o ++ (((cs.drop o).take k) ++ (cs.drop o).drop k) := by rw [List.take_append_drop, List.take_append_drop]
 by_cases hl : o ≤ cs.length
 ·have h2 := AtF.mid (pre := cs.take o) (cs := (cs.drop o).take k) (post := (cs.drop o).drop k) (e1 ▸ h)
  rwa [List.length_take, Nat.min_eq_left hl] at h2
 ·rw [List.drop_eq_nil_of_le (by omega)]
  exact ⟨fun j v hj => by simp at hj, by rw [block_add]; exact h.inS, by rw [block_add]; exact h.lt⟩
theorem GS.fr {α : Type} {r : Rep α} {Fz F : Nat → Prop} {w w' : World} {A : Option Addr} {c : Nat} {l : List α} (h : GS r Fz w A c l) (f : Frz Fz F w w') : GS r F w' A c l := (h.fz f.chg).wid f.sub
theorem AtF.fr {Fz F : Nat → Prop} {w w' : World} {a : Addr} {cs : List Value} (h : AtF Fz w a cs) (f : Frz Fz F w w') : AtF F w' a cs := (h.fz f.chg).wid f.sub
theorem RF.fr {α : Type} {r : Rep α} {Fz F : Nat → Prop} {w w' : World} {rows : List (List Value)} {l : List α} (h : RF r Fz w rows l) (f : Frz Fz F w w') : RF r F w' rows l := (h.fz f.chg).wid f.sub
theorem MutF.fr {Fz F : Nat → Prop} {w w' : World} {g : Nat} (h : MutF Fz w g) (f : Frz Fz F w w') : MutF F w' g := (h.fz f.chg).wid f.sub
theorem Frz.fr {F0 Fz F : Nat → Prop} {w0 w w' : World} (h : Frz F0 Fz w0 w) (f : Frz Fz F w w') : Frz F0 F w0 w' := (h.fz f.chg).wid f.sub
section
variable {P : Program} {n : Nat} {L : List (Nat × Value)} {w w0 : World} {M0 Fz : Nat → Prop} {H : List It} {Q : Exit → Act → World → Prop} {ops : Array Oper} {rest : List Oper} {ty : TypeId} {pos : String} {af : Array Edge} {d : Nat}
theorem Ld_ {x : Operand} {t : TypeId} {p : Addr} {v : Value} (hs : scB P t = true) (hx : ev L x = some (.pointer (some p))) (hc : w.cell? p = some v) (h : WL P n ops Q rest ((d, v) :: L) w) (hd : d < n := by decide) : WL P n ops Q ({ dst := some d, op := .load t x, type := ty, pos := pos, after := af, guard := none } :: rest) L w := wl_load hd hs hx hc h
theorem Fe_ {s f off : Nat} {x : Operand} {p : Addr} (hF : fldB P s f off = true) (hx : ev L x = some (.pointer (some p))) (h : WL P n ops Q rest ((d, .pointer (some (p.add off))) :: L) w) (hd : d < n := by decide) : WL P n ops Q ({ dst := some d, op := .fieldAddr s x f, type := ty, pos := pos, after := af, guard := none } :: rest) L w := wl_fld hd hF hx h
theorem Fd_ {s f off g o : Nat} (o' : Nat) {x : Operand} (hF : fldB P s f off = true) (hx : ev L x = some (.pointer (some ⟨g, o, none⟩))) (ho : o + off = o') (h : WL P n ops Q rest ((d, .pointer (some ⟨g, o', none⟩)) :: L) w) (hd : d < n := by decide) : WL P n ops Q ({ dst := some d, op := .fieldAddr s x f, type := ty, pos := pos, after := af, guard := none } :: rest) L w := wl_fld' hd hF hx ho h
theorem Hl_ (i : Nat) {t e g o : Nat} {cs : List Value} {x : Operand} {v : Value} (hs : scB P t = true) (hx : ev L x = some (.pointer (some ⟨g, o, none⟩))) (hp : HP w0 M0 Fz w H) (hi : H[i]? = some (itB g e cs)) (hv : cs[o]? = some v) (h : WL P n ops Q rest ((d, v) :: L) w) (hd : d < n := by decide) : WL P n ops Q ({ dst := some d, op := .load t x, type := ty, pos := pos, after := af, guard := none } :: rest) L w := wl_hload hd hs hx hp hi hv h
theorem Hx_ (xs : List Value) (i : Nat) {t e g k o : Nat} {cs : List Value} {x : Operand} (hs : agB P t k = true) (hx : ev L x = some (.pointer (some ⟨g, o, none⟩))) (hp : HP w0 M0 Fz w H) (hi : H[i]? = some (itB g e cs)) (hl : xs.length = k) (he : (cs.drop o).take k = xs) (h : WL P n ops Q rest ((d, .agg xs.toArray) :: L) w) (hd : d < n := by decide) : WL P n ops Q ({ dst := some d, op := .load t x, type := ty, pos := pos, after := af, guard := none } :: rest) L w := wl_hloadX xs hd hs hx hp hi hl he h
theorem Cl_ {f : FuncId} {xs : List Operand} {vs : List Value} {ts : Array TypeId} {R : Value → World → Prop} (hf : callable P f = true) (hx : evs L xs = some vs) (hc : Ret P f vs.toArray w R) (h : ∀ v w', R v w' → WL P n ops Q rest ((d, v) :: L) w') (hd : d < n := by decide) : WL P n ops Q ({ dst := some d, op := .call { callee := .value (.func f), args := xs.toArray, argTypes := ts }, type := ty, pos := pos, after := af, guard := none } :: rest) L w := wl_call hd hf hx hc h
theorem Eq_ {k : IntKind} {x y : Operand} {a b : Int} {t u : TypeId} (hx : ev L x = some (.int k a)) (hy : ev L y = some (.int k b)) (h : WL P n ops Q rest ((d, .bool (decide (a = b))) :: L) w) (hd : d < n := by decide) : WL P n ops Q ({ dst := some d, op := .binOp .eql t x y u, type := ty, pos := pos, after := af, guard := none } :: rest) L w := wl_eql hd hx hy h
theorem Ne_ {k : IntKind} {x y : Operand} {a b : Int} {t u : TypeId} (hx : ev L x = some (.int k a)) (hy : ev L y = some (.int k b)) (h : WL P n ops Q rest ((d, .bool (decide (a ≠ b))) :: L) w) (hd : d < n := by decide) : WL P n ops Q ({ dst := some d, op := .binOp .neq t x y u, type := ty, pos := pos, after := af, guard := none } :: rest) L w := wl_neq hd hx hy h
theorem Ls_ {k : IntKind} {x y : Operand} {a b : Int} {t u : TypeId} (hx : ev L x = some (.int k a)) (hy : ev L y = some (.int k b)) (h : WL P n ops Q rest ((d, .bool (decide (a < b))) :: L) w) (hd : d < n := by decide) : WL P n ops Q ({ dst := some d, op := .binOp .lss t x y u, type := ty, pos := pos, after := af, guard := none } :: rest) L w := wl_lss hd hx hy h
theorem Lq_ {k : IntKind} {x y : Operand} {a b : Int} {t u : TypeId} (hx : ev L x = some (.int k a)) (hy : ev L y = some (.int k b)) (h : WL P n ops Q rest ((d, .bool (decide (a ≤ b))) :: L) w) (hd : d < n := by decide) : WL P n ops Q ({ dst := some d, op := .binOp .leq t x y u, type := ty, pos := pos, after := af, guard := none } :: rest) L w := wl_leq hd hx hy h
theorem Gt_ {k : IntKind} {x y : Operand} {a b : Int} {t u : TypeId} (hx : ev L x = some (.int k a)) (hy : ev L y = some (.int k b)) (h : WL P n ops Q rest ((d, .bool (decide (b < a))) :: L) w) (hd : d < n := by decide) : WL P n ops Q ({ dst := some d, op := .binOp .gtr t x y u, type := ty, pos := pos, after := af, guard := none } :: rest) L w := wl_gtr hd hx hy h
theorem Gq_ {k : IntKind} {x y : Operand} {a b : Int} {t u : TypeId} (hx : ev L x = some (.int k a)) (hy : ev L y = some (.int k b)) (h : WL P n ops Q rest ((d, .bool (decide (b ≤ a))) :: L) w) (hd : d < n := by decide) : WL P n ops Q ({ dst := some d, op := .binOp .geq t x y u, type := ty, pos := pos, after := af, guard := none } :: rest) L w := wl_geq hd hx hy h
theorem Ln_ {x : Operand} {A : Option Addr} {k c t : Nat} {e : TypeId} (ht : P.underlying t = some (.slice e)) (hx : ev L x = some (.slice A k c)) (h : WL P n ops Q rest ((d, .int .i64 (k : Int)) :: L) w) (hd : d < n := by decide) : WL P n ops Q ({ dst := some d, op := .call { callee := .builtin .len, args := #[x], argTypes := #[t] }, type := ty, pos := pos, after := af, guard := none } :: rest) L w := wl_len hd ht hx h
theorem Nc_ {x : Operand} {p : Addr} (hx : ev L x = some (.pointer (some p))) (h : WL P n ops Q rest ((d, .pointer (some p)) :: L) w) (hd : d < n := by decide) : WL P n ops Q ({ dst := some d, op := .nilCheck x, type := ty, pos := pos, after := af, guard := none } :: rest) L w := wl_nilCheck hd hx h
theorem Pk_ {c x y : Operand} {b : Bool} {v : Value} (hc : ev L c = some (.bool b)) (hv : ev L (if b then x else y) = some v) (h : WL P n ops Q rest ((d, v) :: L) w) (hd : d < n := by decide) : WL P n ops Q ({ dst := some d, op := .pick c x y, type := ty, pos := pos, after := af, guard := none } :: rest) L w := wl_pick hd hc hv h
theorem Mv_ {x : Operand} {v : Value} (hx : ev L x = some v) (h : WL P n ops Q rest ((d, v) :: L) w) (hd : d < n := by decide) : WL P n ops Q ({ dst := some d, op := .move x, type := ty, pos := pos, after := af, guard := none } :: rest) L w := wl_move hd hx h
end
end Go.Eng
namespace Go.Eng
open Go.RowKit Go.ChangeShapes Go.WideShapes Go.ChangeAt
section
variable {H : Type} {enc : TypeId × Value → H} {P : Program} {W : World}
structure Arg (enc : TypeId × Value → H) (P : Program) (W : World) (base : Nat) (t : TypeId) (v : Value) (d : DataW H) (p : List MemPlace) : Prop where
 ok : Value.okWide P W .any base t v
 rd : DataW.Trod enc P W 0 (fun _ => true) true t v d p
 lt : ∀ x ∈ p, x.block < W.heap.size
 wt : (d.weights P t).all (· ≤ reachBytes) = true
def Args (enc : TypeId × Value → H) (P : Program) (W : World) (base : Nat) : List TypeId → List Value → List (DataW H) → Prop
 | [], [], [] => True
 | t :: ts, v :: vs, d :: ds => (∃ p, Arg enc P W base t v d p) ∧ Args enc P W base ts vs ds
 | _, _, _ => False
theorem args_of {base : Nat} : ∀ (ts : List TypeId) (vs : List Value) (ds : List (DataW H)) (ps : List MemPlace), (∀ (j : Nat) t v, ts[j]? = some t → vs[j]? = some v → Value.okWide P W .any base t v) →
  DataW.TrodAll enc P W 0 (fun _ => true) true ts vs ds ps → (∀ x ∈ ps, x.block < W.heap.size) → (DataW.weightsEach P ts ds).all (· ≤ reachBytes) = true → Args enc P W base ts vs ds
 | [], [], [], _, _, _, _, _ => trivial
 | t :: ts, v :: vs, d :: ds, ps, hv, ht, hl, hw => by
  obtain ⟨p, q, h1, h2, rfl⟩ := ht
  simp only [DataW.weightsEach, List.all_append, Bool.and_eq_true] at hw
  exact ⟨⟨p, hv 0 t v rfl rfl, h1, fun x hx => hl x (List.mem_append_left _ hx), hw.1⟩,
   args_of ts vs ds q (fun j t v h1 h2 => hv (j + 1) t v (by simpa using h1) (by simpa using h2)) h2 (fun x hx => hl x (List.mem_append_right _ hx)) hw.2⟩
 | [], [], _ :: _, _, _, h, _, _ => h.elim
 | [], _ :: _, _, _, _, h, _, _ => by cases ‹List (DataW H)› <;> exact h.elim
 | _ :: _, [], _, _, _, h, _, _ => by cases ‹List (DataW H)› <;> exact h.elim
 | _ :: _, _ :: _, [], _, _, h, _, _ => h.elim
def readB (P : Program) (ts : List TypeId) : Bool := ts.all fun t => P.readableRec t && decide (t < P.types.size)
theorem trodAll_below {W' : World} (hl : laidOutB P = true) (hb : Below W.heap.size W W') : ∀ (ts : List TypeId) (vs : List Value) (ds : List (DataW H)) (ps : List MemPlace), readB P ts = true →
  DataW.TrodAll enc P W 0 (fun _ => true) true ts vs ds ps → (∀ x ∈ ps, x.block < W.heap.size) → DataW.TrodAll enc P W' 0 (fun b => decide (b < W.heap.size)) true ts vs ds ps
 | [], [], [], _, _, h, _ => h
 | t :: ts, v :: vs, d :: ds, ps, hr, ht, hlt => by
  obtain ⟨p, q, h1, h2, rfl⟩ := ht
  simp only [readB, List.all_cons, Bool.and_eq_true, decide_eq_true_eq] at hr
  exact ⟨p, q, Below.trod hl hr.1.1 hr.1.2 h1 hb (fun x hx => hlt x (List.mem_append_left _ hx)),
   trodAll_below hl hb ts vs ds q hr.2 h2 (fun x hx => hlt x (List.mem_append_right _ hx)), rfl⟩
 | [], [], _ :: _, _, _, h, _ => h.elim
 | [], _ :: _, _, _, _, h, _ => by cases ‹List (DataW H)› <;> exact h.elim
 | _ :: _, [], _, _, _, h, _ => by cases ‹List (DataW H)› <;> exact h.elim
 | _ :: _, _ :: _, [], _, _, h, _ => h.elim
theorem trodAll_len {base : Nat} {sp : Nat → Bool} {hd : Bool} : ∀ (ts : List TypeId) (vs : List Value) (ds : List (DataW H)) (ps : List MemPlace), DataW.TrodAll enc P W base sp hd ts vs ds ps → ds.length = ts.length
 | [], [], [], _, _ => rfl
 | t :: ts, v :: vs, d :: ds, ps, ht => by
  obtain ⟨p, q, _, h2, _⟩ := ht
  simp [trodAll_len ts vs ds q h2]
 | [], [], _ :: _, _, h => h.elim
 | [], _ :: _, _, _, h => by cases ‹List (DataW H)› <;> exact h.elim
 | _ :: _, [], _, _, h => by cases ‹List (DataW H)› <;> exact h.elim
 | _ :: _, _ :: _, [], _, h => h.elim
theorem law_lifted {C : Checked} {os : Os} {f : FuncId} {fn : Func} {s : ChangeSpec} {tb : TypeId} (own : ownKnob C.prog.godebug = none) (started : os.Started) (noInit : C.prog.inits.idxOf? f = none) (hfn : C.prog.funcs[f]? = some fn)
  (witness : ∃ (w : World) (tape : Tape) (i : Input), w.os = os ∧ (w.forCall tape i).Shaped C.prog ∧ i.vars = [] ∧ Input.okWide C.prog (w.forCall tape i) .any w.heap.size f i ∧
   s.pre6 enc C.prog fn [] false (w.forCall tape i).memory i.args ∧ ({} : Assume).holds C.prog (lone (Frame.enter C.prog f i.args .normal) [] (w.forCall tape i)))
  (hlo : laidOutB C.prog = true) (hrd : readB C.prog fn.params.toList = true) (hvars : s.vars = []) (hres : fn.resultTypes = #[tb]) (htb : C.prog.underlying tb = some .bool)
  (hs : ∀ ds : List (DataW H), ds.length = fn.params.toList.length → s.fn H ds = { results := [.lit (.bool true)], args := ds })
  (walk : ∀ (W : World) (base : Nat) (args : Array Value) (ds : List (DataW H)), Args enc C.prog W base fn.params.toList args.toList ds → Ret C.prog f args W fun v w' => v = .bool true ∧ Ext W w') :
  ReturnsInHanded {} C os f .any (s.pre6 enc C.prog fn [] false) (s.post enc C.prog fn false true false false) := by
 refine returnsInHanded_of_change_sized own started noInit hfn witness ?_
 intro W base args ds gs before hval hW _ hsz _
 have hW' := hW
 obtain ⟨p, q, hA, hV, rfl, hfz, hnd⟩ := hW
 have hvt : s.plain.varTypes C.prog = [] := by simp [ChangeSpec.plain, DataSpec.varTypes, hvars]
 rw [hvars] at hV
 obtain ⟨rfl, rfl⟩ := trodVars_none hV
 rw [hvt, List.append_nil, List.append_nil] at hsz
 simp only [List.append_nil] at hW'
 have hlt : ∀ x ∈ p, x.block < W.heap.size := fun x hx => hW'.lt x hx
 have hargs := args_of fn.params.toList args.toList ds p (fun j t v h1 h2 => hval j t v (by simpa using h1) (by simpa using h2)) hA hlt hsz
 refine Calls.mono (walk W base args ds hargs) fun e W' ⟨v, he, hv, hE⟩ => ⟨v, he, ?_⟩
 subst hv
 have hds := hs ds (trodAll_len _ _ _ _ hA)
 have hb := hE.below
 refine ⟨ds, [], p, [], p, [], hW', ?_, ?_, ?_, hb.frame _, fun h => by cases h⟩
 ·rw [List.append_nil, hds, hres]
  exact trodAll_mk1 (shut_bool htb true)
 ·rw [List.append_nil, hds]
  exact trodAll_below hlo hb _ _ _ _ hrd hA hlt
 ·rw [List.append_nil, hds, hvars]
  rfl
theorem arg_int {base : Nat} {t : TypeId} {v : Value} {d : DataW H} (ht : P.underlying t = some (.int .i64)) (h : ∃ p, Arg enc P W base t v d p) : ∃ n : Int, v = .int .i64 n ∧ -9223372036854775808 ≤ n ∧ n ≤ 9223372036854775807 := by
 obtain ⟨p, h⟩ := h
 obtain ⟨n, rfl, _, _, hw⟩ := open_int ht h.ok h.rd
 refine ⟨n, rfl, ?_⟩
 simp [Lit.wf, IntKind.min, IntKind.max, IntKind.signed, IntKind.bits] at hw
 omega
end
end Go.Eng
namespace Go.Eng
open Go.RowKit Go.ChangeShapes Go.WideShapes Go.ChangeAt
section
variable {H : Type} {enc : TypeId × Value → H} {P : Program} {W : World}
theorem args_nil {base : Nat} {vs : List Value} {ds : List (DataW H)} (h : Args enc P W base [] vs ds) : vs = [] := by
 cases vs with
 | nil => rfl
 | cons v t => cases ds <;> exact h.elim
theorem args_cons {base : Nat} {t : TypeId} {ts : List TypeId} {vs : List Value} {ds : List (DataW H)} (h : Args enc P W base (t :: ts) vs ds) :
  ∃ v vs' d ds', vs = v :: vs' ∧ (∃ p, Arg enc P W base t v d p) ∧ Args enc P W base ts vs' ds' := by
 cases vs with
 | nil => cases ds <;> exact h.elim
 | cons v vs' =>
  cases ds with
  | nil => exact h.elim
  | cons d ds' => exact ⟨v, vs', d, ds', rfl, h.1, h.2⟩
theorem spec_len {ds : List (DataW H)} {n : Nat} (h : ds.length = n + 1) : ∃ d ds', ds = d :: ds' ∧ ds'.length = n := by
 cases ds with
 | nil => cases h
 | cons d t => exact ⟨d, t, rfl, by simpa using h⟩
end
end Go.Eng
namespace Go.Proofs.Tryz
open Go.Eng
theorem ag175 : agB prog 175 8 = true := by kernel_rfl
theorem ag23 : agB prog 23 32 = true := by kernel_rfl
theorem ag29 : agB prog 29 4 = true := by kernel_rfl
theorem ag33 : agB prog 33 6 = true := by kernel_rfl
theorem ag38 : agB prog 38 58 = true := by kernel_rfl
theorem ag66 : agB prog 66 34 = true := by kernel_rfl
theorem ag68 : agB prog 68 10 = true := by kernel_rfl
theorem ag95 : agB prog 95 33 = true := by kernel_rfl
theorem ag97 : agB prog 97 34 = true := by kernel_rfl
theorem ar137 : arB prog 137 4 125 1 = true := by kernel_rfl
theorem ar23 : arB prog 23 32 5 1 = true := by kernel_rfl
theorem bld103 : bldB prog 103 [(0, 1), (1, 1)] (fun z => isCells z.toList [.slice none 0 0, .bool false]) = true := by kernel_rfl
theorem bld137 : bldB prog 137 [(0, 1), (1, 1), (2, 1), (3, 1)] (fun z => isCells z.toList [.pointer none, .pointer none, .pointer none, .pointer none]) = true := by kernel_rfl
theorem bld175 : bldB prog 175 [(0, 1), (1, 1), (2, 1), (3, 1), (4, 1), (5, 1), (6, 1), (7, 1)] (fun z => isCells z.toList [.int .i64 0, .int .i64 0, .int .i64 0, .int .i64 0, .int .i64 0, .int .i64 0, .int .i64 0, .int .i64 0]) = true := by kernel_rfl
theorem bld207 : bldB prog 207 [(0, 1), (1, 1)] (fun z => isCells z.toList [.slice none 0 0, .int .i64 0]) = true := by kernel_rfl
theorem bld23 : bldB prog 23 [(0, 1), (1, 1), (2, 1), (3, 1), (4, 1), (5, 1), (6, 1), (7, 1), (8, 1), (9, 1), (10, 1), (11, 1), (12, 1), (13, 1), (14, 1), (15, 1), (16, 1), (17, 1), (18, 1), (19, 1), (20, 1), (21, 1), (22, 1), (23, 1), (24, 1), (25, 1), (26, 1), (27, 1), (28, 1), (29, 1), (30, 1), (31, 1)] (fun z => isCells z.toList [.int .u8 0, .int .u8 0, .int .u8 0, .int .u8 0, .int .u8 0, .int .u8 0, .int .u8 0, .int .u8 0, .int .u8 0, .int .u8 0, .int .u8 0, .int .u8 0, .int .u8 0, .int .u8 0, .int .u8 0, .int .u8 0, .int .u8 0, .int .u8 0, .int .u8 0, .int .u8 0, .int .u8 0, .int .u8 0, .int .u8 0, .int .u8 0, .int .u8 0, .int .u8 0, .int .u8 0, .int .u8 0, .int .u8 0, .int .u8 0, .int .u8 0, .int .u8 0]) = true := by kernel_rfl
theorem bld29 : bldB prog 29 [(0, 1), (1, 1), (2, 1), (3, 1)] (fun z => isCells z.toList [.int .i64 0, .slice none 0 0, .int .i64 0, .slice none 0 0]) = true := by kernel_rfl
theorem bld33 : bldB prog 33 [(0, 1), (1, 1), (2, 1), (3, 1), (4, 1), (5, 1)] (fun z => isCells z.toList [.int .i64 0, .int .i64 0, .int .i64 0, .slice none 0 0, .slice none 0 0, .slice none 0 0]) = true := by kernel_rfl
theorem bld38 : bldB prog 38 [(0, 1), (1, 1), (2, 1), (3, 1), (4, 1), (5, 1), (6, 32), (38, 1), (39, 4), (43, 1), (44, 1), (45, 6), (51, 1), (52, 1), (53, 1), (54, 1), (55, 1), (56, 1), (57, 1)] (fun z => isCells z.toList [.int .i64 0, .int .i64 0, .int .i64 0, .int .i64 0, .int .i64 0, .int .i64 0, .int .u8 0, .int .u8 0, .int .u8 0, .int .u8 0, .int .u8 0, .int .u8 0, .int .u8 0, .int .u8 0, .int .u8 0, .int .u8 0, .int .u8 0, .int .u8 0, .int .u8 0, .int .u8 0, .int .u8 0, .int .u8 0, .int .u8 0, .int .u8 0, .int .u8 0, .int .u8 0, .int .u8 0, .int .u8 0, .int .u8 0, .int .u8 0, .int .u8 0, .int .u8 0, .int .u8 0, .int .u8 0, .int .u8 0, .int .u8 0, .int .u8 0, .int .u8 0, .slice none 0 0, .int .i64 0, .slice none 0 0, .int .i64 0, .slice none 0 0, .int .i64 0, .int .i64 0, .int .i64 0, .int .i64 0, .int .i64 0, .slice none 0 0, .slice none 0 0, .slice none 0 0, .slice none 0 0, .slice none 0 0, .int .i64 0, .int .i64 0, .slice none 0 0, .slice none 0 0, .slice none 0 0]) = true := by kernel_rfl
theorem bld66 : bldB prog 66 [(0, 1), (1, 32), (33, 1)] (fun z => isCells z.toList [.int .i64 0, .int .u8 0, .int .u8 0, .int .u8 0, .int .u8 0, .int .u8 0, .int .u8 0, .int .u8 0, .int .u8 0, .int .u8 0, .int .u8 0, .int .u8 0, .int .u8 0, .int .u8 0, .int .u8 0, .int .u8 0, .int .u8 0, .int .u8 0, .int .u8 0, .int .u8 0, .int .u8 0, .int .u8 0, .int .u8 0, .int .u8 0, .int .u8 0, .int .u8 0, .int .u8 0, .int .u8 0, .int .u8 0, .int .u8 0, .int .u8 0, .int .u8 0, .int .u8 0, .slice none 0 0]) = true := by kernel_rfl
theorem bld68 : bldB prog 68 [(0, 1), (1, 1), (2, 1), (3, 1), (4, 1), (5, 1), (6, 1), (7, 1), (8, 1), (9, 1)] (fun z => isCells z.toList [.int .i64 0, .int .i64 0, .int .i64 0, .int .i64 0, .int .i64 0, .int .i64 0, .slice none 0 0, .int .i64 0, .int .i64 0, .slice none 0 0]) = true := by kernel_rfl
theorem bld89 : bldB prog 89 [(0, 1)] (fun z => isCells z.toList [.slice none 0 0]) = true := by kernel_rfl
theorem bld95 : bldB prog 95 [(0, 1), (1, 32)] (fun z => isCells z.toList [.int .i64 0, .int .u8 0, .int .u8 0, .int .u8 0, .int .u8 0, .int .u8 0, .int .u8 0, .int .u8 0, .int .u8 0, .int .u8 0, .int .u8 0, .int .u8 0, .int .u8 0, .int .u8 0, .int .u8 0, .int .u8 0, .int .u8 0, .int .u8 0, .int .u8 0, .int .u8 0, .int .u8 0, .int .u8 0, .int .u8 0, .int .u8 0, .int .u8 0, .int .u8 0, .int .u8 0, .int .u8 0, .int .u8 0, .int .u8 0, .int .u8 0, .int .u8 0, .int .u8 0]) = true := by kernel_rfl
theorem bld97 : bldB prog 97 [(0, 1), (1, 32), (33, 1)] (fun z => isCells z.toList [.int .i64 0, .int .u8 0, .int .u8 0, .int .u8 0, .int .u8 0, .int .u8 0, .int .u8 0, .int .u8 0, .int .u8 0, .int .u8 0, .int .u8 0, .int .u8 0, .int .u8 0, .int .u8 0, .int .u8 0, .int .u8 0, .int .u8 0, .int .u8 0, .int .u8 0, .int .u8 0, .int .u8 0, .int .u8 0, .int .u8 0, .int .u8 0, .int .u8 0, .int .u8 0, .int .u8 0, .int .u8 0, .int .u8 0, .int .u8 0, .int .u8 0, .int .u8 0, .int .u8 0, .int .i64 0]) = true := by kernel_rfl
theorem cl100 : callable prog 100 = true := by kernel_rfl
theorem cl101 : callable prog 101 = true := by kernel_rfl
theorem cl102 : callable prog 102 = true := by kernel_rfl
theorem cl103 : callable prog 103 = true := by kernel_rfl
theorem cl104 : callable prog 104 = true := by kernel_rfl
theorem cl105 : callable prog 105 = true := by kernel_rfl
theorem cl106 : callable prog 106 = true := by kernel_rfl
theorem cl107 : callable prog 107 = true := by kernel_rfl
theorem cl108 : callable prog 108 = true := by kernel_rfl
theorem cl109 : callable prog 109 = true := by kernel_rfl
theorem cl110 : callable prog 110 = true := by kernel_rfl
theorem cl111 : callable prog 111 = true := by kernel_rfl
theorem cl112 : callable prog 112 = true := by kernel_rfl
theorem cl113 : callable prog 113 = true := by kernel_rfl
theorem cl114 : callable prog 114 = true := by kernel_rfl
theorem cl115 : callable prog 115 = true := by kernel_rfl
theorem cl116 : callable prog 116 = true := by kernel_rfl
theorem cl117 : callable prog 117 = true := by kernel_rfl
theorem cl118 : callable prog 118 = true := by kernel_rfl
theorem cl123 : callable prog 123 = true := by kernel_rfl
theorem cl131 : callable prog 131 = true := by kernel_rfl
theorem cl132 : callable prog 132 = true := by kernel_rfl
theorem cl134 : callable prog 134 = true := by kernel_rfl
theorem cl135 : callable prog 135 = true := by kernel_rfl
theorem cl136 : callable prog 136 = true := by kernel_rfl
theorem cl137 : callable prog 137 = true := by kernel_rfl
theorem cl138 : callable prog 138 = true := by kernel_rfl
theorem cl139 : callable prog 139 = true := by kernel_rfl
theorem cl14 : callable prog 14 = true := by kernel_rfl
theorem cl148 : callable prog 148 = true := by kernel_rfl
theorem cl149 : callable prog 149 = true := by kernel_rfl
theorem cl150 : callable prog 150 = true := by kernel_rfl
theorem cl151 : callable prog 151 = true := by kernel_rfl
theorem cl152 : callable prog 152 = true := by kernel_rfl
theorem cl154 : callable prog 154 = true := by kernel_rfl
theorem cl156 : callable prog 156 = true := by kernel_rfl
theorem cl157 : callable prog 157 = true := by kernel_rfl
theorem cl16 : callable prog 16 = true := by kernel_rfl
theorem cl17 : callable prog 17 = true := by kernel_rfl
theorem cl177 : callable prog 177 = true := by kernel_rfl
theorem cl178 : callable prog 178 = true := by kernel_rfl
theorem cl179 : callable prog 179 = true := by kernel_rfl
theorem cl180 : callable prog 180 = true := by kernel_rfl
theorem cl181 : callable prog 181 = true := by kernel_rfl
theorem cl182 : callable prog 182 = true := by kernel_rfl
theorem cl183 : callable prog 183 = true := by kernel_rfl
theorem cl184 : callable prog 184 = true := by kernel_rfl
theorem cl188 : callable prog 188 = true := by kernel_rfl
theorem cl189 : callable prog 189 = true := by kernel_rfl
theorem cl19 : callable prog 19 = true := by kernel_rfl
theorem cl190 : callable prog 190 = true := by kernel_rfl
theorem cl191 : callable prog 191 = true := by kernel_rfl
theorem cl192 : callable prog 192 = true := by kernel_rfl
theorem cl193 : callable prog 193 = true := by kernel_rfl
theorem cl194 : callable prog 194 = true := by kernel_rfl
theorem cl195 : callable prog 195 = true := by kernel_rfl
theorem cl196 : callable prog 196 = true := by kernel_rfl
theorem cl197 : callable prog 197 = true := by kernel_rfl
theorem cl198 : callable prog 198 = true := by kernel_rfl
theorem cl199 : callable prog 199 = true := by kernel_rfl
theorem cl200 : callable prog 200 = true := by kernel_rfl
theorem cl21 : callable prog 21 = true := by kernel_rfl
theorem cl23 : callable prog 23 = true := by kernel_rfl
theorem cl24 : callable prog 24 = true := by kernel_rfl
theorem cl26 : callable prog 26 = true := by kernel_rfl
theorem cl27 : callable prog 27 = true := by kernel_rfl
theorem cl28 : callable prog 28 = true := by kernel_rfl
theorem cl32 : callable prog 32 = true := by kernel_rfl
theorem cl35 : callable prog 35 = true := by kernel_rfl
theorem cl38 : callable prog 38 = true := by kernel_rfl
theorem cl39 : callable prog 39 = true := by kernel_rfl
theorem cl40 : callable prog 40 = true := by kernel_rfl
theorem cl41 : callable prog 41 = true := by kernel_rfl
theorem cl49 : callable prog 49 = true := by kernel_rfl
theorem cl50 : callable prog 50 = true := by kernel_rfl
theorem cl56 : callable prog 56 = true := by kernel_rfl
theorem cl57 : callable prog 57 = true := by kernel_rfl
theorem cl59 : callable prog 59 = true := by kernel_rfl
theorem cl60 : callable prog 60 = true := by kernel_rfl
theorem cl62 : callable prog 62 = true := by kernel_rfl
theorem cl63 : callable prog 63 = true := by kernel_rfl
theorem cl64 : callable prog 64 = true := by kernel_rfl
theorem cl65 : callable prog 65 = true := by kernel_rfl
theorem cl66 : callable prog 66 = true := by kernel_rfl
theorem cl67 : callable prog 67 = true := by kernel_rfl
theorem cl68 : callable prog 68 = true := by kernel_rfl
theorem cl69 : callable prog 69 = true := by kernel_rfl
theorem cl70 : callable prog 70 = true := by kernel_rfl
theorem cl71 : callable prog 71 = true := by kernel_rfl
theorem cl72 : callable prog 72 = true := by kernel_rfl
theorem cl73 : callable prog 73 = true := by kernel_rfl
theorem cl78 : callable prog 78 = true := by kernel_rfl
theorem cl93 : callable prog 93 = true := by kernel_rfl
theorem cl94 : callable prog 94 = true := by kernel_rfl
theorem cl95 : callable prog 95 = true := by kernel_rfl
theorem cl96 : callable prog 96 = true := by kernel_rfl
theorem cl97 : callable prog 97 = true := by kernel_rfl
theorem cl98 : callable prog 98 = true := by kernel_rfl
theorem eg175 : prog.eqGuardType prog.depth 175 = false := by kernel_rfl
theorem eg23 : prog.eqGuardType prog.depth 23 = false := by kernel_rfl
theorem eg95 : prog.eqGuardType prog.depth 95 = false := by kernel_rfl
theorem eg97 : prog.eqGuardType prog.depth 97 = false := by kernel_rfl
theorem fld103_0 : fldB prog 103 0 0 = true := by kernel_rfl
theorem fld103_1 : fldB prog 103 1 1 = true := by kernel_rfl
theorem fld207_0 : fldB prog 207 0 0 = true := by kernel_rfl
theorem fld207_1 : fldB prog 207 1 1 = true := by kernel_rfl
theorem fld29_0 : fldB prog 29 0 0 = true := by kernel_rfl
theorem fld29_1 : fldB prog 29 1 1 = true := by kernel_rfl
theorem fld29_2 : fldB prog 29 2 2 = true := by kernel_rfl
theorem fld29_3 : fldB prog 29 3 3 = true := by kernel_rfl
theorem fld33_0 : fldB prog 33 0 0 = true := by kernel_rfl
theorem fld33_1 : fldB prog 33 1 1 = true := by kernel_rfl
theorem fld33_2 : fldB prog 33 2 2 = true := by kernel_rfl
theorem fld33_3 : fldB prog 33 3 3 = true := by kernel_rfl
theorem fld33_4 : fldB prog 33 4 4 = true := by kernel_rfl
theorem fld33_5 : fldB prog 33 5 5 = true := by kernel_rfl
theorem fld38_0 : fldB prog 38 0 0 = true := by kernel_rfl
theorem fld38_1 : fldB prog 38 1 1 = true := by kernel_rfl
theorem fld38_10 : fldB prog 38 10 44 = true := by kernel_rfl
theorem fld38_11 : fldB prog 38 11 45 = true := by kernel_rfl
theorem fld38_12 : fldB prog 38 12 51 = true := by kernel_rfl
theorem fld38_13 : fldB prog 38 13 52 = true := by kernel_rfl
theorem fld38_14 : fldB prog 38 14 53 = true := by kernel_rfl
theorem fld38_15 : fldB prog 38 15 54 = true := by kernel_rfl
theorem fld38_16 : fldB prog 38 16 55 = true := by kernel_rfl
theorem fld38_17 : fldB prog 38 17 56 = true := by kernel_rfl
theorem fld38_18 : fldB prog 38 18 57 = true := by kernel_rfl
theorem fld38_2 : fldB prog 38 2 2 = true := by kernel_rfl
theorem fld38_3 : fldB prog 38 3 3 = true := by kernel_rfl
theorem fld38_4 : fldB prog 38 4 4 = true := by kernel_rfl
theorem fld38_5 : fldB prog 38 5 5 = true := by kernel_rfl
theorem fld38_6 : fldB prog 38 6 6 = true := by kernel_rfl
theorem fld38_7 : fldB prog 38 7 38 = true := by kernel_rfl
theorem fld38_8 : fldB prog 38 8 39 = true := by kernel_rfl
theorem fld38_9 : fldB prog 38 9 43 = true := by kernel_rfl
theorem fld66_0 : fldB prog 66 0 0 = true := by kernel_rfl
theorem fld66_1 : fldB prog 66 1 1 = true := by kernel_rfl
theorem fld66_2 : fldB prog 66 2 33 = true := by kernel_rfl
theorem fld68_0 : fldB prog 68 0 0 = true := by kernel_rfl
theorem fld68_1 : fldB prog 68 1 1 = true := by kernel_rfl
theorem fld68_2 : fldB prog 68 2 2 = true := by kernel_rfl
theorem fld68_3 : fldB prog 68 3 3 = true := by kernel_rfl
theorem fld68_4 : fldB prog 68 4 4 = true := by kernel_rfl
theorem fld68_5 : fldB prog 68 5 5 = true := by kernel_rfl
theorem fld68_6 : fldB prog 68 6 6 = true := by kernel_rfl
theorem fld68_7 : fldB prog 68 7 7 = true := by kernel_rfl
theorem fld68_8 : fldB prog 68 8 8 = true := by kernel_rfl
theorem fld68_9 : fldB prog 68 9 9 = true := by kernel_rfl
theorem fld89_0 : fldB prog 89 0 0 = true := by kernel_rfl
theorem fld95_0 : fldB prog 95 0 0 = true := by kernel_rfl
theorem fld95_1 : fldB prog 95 1 1 = true := by kernel_rfl
theorem fld97_0 : fldB prog 97 0 0 = true := by kernel_rfl
theorem fld97_1 : fldB prog 97 1 1 = true := by kernel_rfl
theorem fld97_2 : fldB prog 97 2 33 = true := by kernel_rfl
theorem it3 : intB prog 3 .i64 = true := by kernel_rfl
theorem it5 : intB prog 5 .u8 = true := by kernel_rfl
theorem key175 : keyB prog 6 175 [some .i64, some .i64, some .i64, some .i64, some .i64, some .i64, some .i64, some .i64] = true := by kernel_rfl
theorem key23 : keyB prog 6 23 [some .u8, some .u8, some .u8, some .u8, some .u8, some .u8, some .u8, some .u8, some .u8, some .u8, some .u8, some .u8, some .u8, some .u8, some .u8, some .u8, some .u8, some .u8, some .u8, some .u8, some .u8, some .u8, some .u8, some .u8, some .u8, some .u8, some .u8, some .u8, some .u8, some .u8, some .u8, some .u8] = true := by kernel_rfl
theorem key95 : keyB prog 6 95 [some .i64, some .u8, some .u8, some .u8, some .u8, some .u8, some .u8, some .u8, some .u8, some .u8, some .u8, some .u8, some .u8, some .u8, some .u8, some .u8, some .u8, some .u8, some .u8, some .u8, some .u8, some .u8, some .u8, some .u8, some .u8, some .u8, some .u8, some .u8, some .u8, some .u8, some .u8, some .u8, some .u8] = true := by kernel_rfl
theorem key97 : keyB prog 6 97 [some .i64, some .u8, some .u8, some .u8, some .u8, some .u8, some .u8, some .u8, some .u8, some .u8, some .u8, some .u8, some .u8, some .u8, some .u8, some .u8, some .u8, some .u8, some .u8, some .u8, some .u8, some .u8, some .u8, some .u8, some .u8, some .u8, some .u8, some .u8, some .u8, some .u8, some .u8, some .u8, some .u8, some .i64] = true := by kernel_rfl
theorem mt174 : methB prog 87 "bastide/note.batch" 174 = true := by kernel_rfl
theorem mt175 : methB prog 87 "bastide/note.digest" 175 = true := by kernel_rfl
theorem mt176 : methB prog 87 "bastide/note.many" 176 = true := by kernel_rfl
theorem mt177 : methB prog 87 "bastide/note.num" 177 = true := by kernel_rfl
theorem mt178 : methB prog 87 "bastide/note.str" 178 = true := by kernel_rfl
theorem mt185 : methB prog 101 "bastide/note.batch" 185 = true := by kernel_rfl
theorem mt186 : methB prog 101 "bastide/note.digest" 186 = true := by kernel_rfl
theorem mt187 : methB prog 101 "bastide/note.many" 187 = true := by kernel_rfl
theorem mt188 : methB prog 101 "bastide/note.num" 188 = true := by kernel_rfl
theorem mt189 : methB prog 101 "bastide/note.str" 189 = true := by kernel_rfl
theorem sc123 : scB prog 123 = true := by kernel_rfl
theorem sc125 : scB prog 125 = true := by kernel_rfl
theorem sc24 : scB prog 24 = true := by kernel_rfl
theorem sc25 : scB prog 25 = true := by kernel_rfl
theorem sc26 : scB prog 26 = true := by kernel_rfl
theorem sc27 : scB prog 27 = true := by kernel_rfl
theorem sc3 : scB prog 3 = true := by kernel_rfl
theorem sc30 : scB prog 30 = true := by kernel_rfl
theorem sc31 : scB prog 31 = true := by kernel_rfl
theorem sc34 : scB prog 34 = true := by kernel_rfl
theorem sc35 : scB prog 35 = true := by kernel_rfl
theorem sc36 : scB prog 36 = true := by kernel_rfl
theorem sc4 : scB prog 4 = true := by kernel_rfl
theorem sc5 : scB prog 5 = true := by kernel_rfl
theorem sl187 : slB prog 187 26 1 24 = true := by kernel_rfl
theorem sl209 : slB prog 209 125 1 8 = true := by kernel_rfl
theorem sl24 : slB prog 24 68 10 112 = true := by kernel_rfl
theorem sl26 : slB prog 26 5 1 1 = true := by kernel_rfl
theorem sl27 : slB prog 27 3 1 8 = true := by kernel_rfl
theorem sl30 : slB prog 30 95 33 40 = true := by kernel_rfl
theorem sl31 : slB prog 31 97 34 48 = true := by kernel_rfl
theorem sl34 : slB prog 34 33 6 96 = true := by kernel_rfl
theorem sl35 : slB prog 35 66 34 64 = true := by kernel_rfl
theorem sl36 : slB prog 36 23 32 32 = true := by kernel_rfl
theorem sl54 : slB prog 54 38 58 416 = true := by kernel_rfl
theorem sz175 : szB prog 175 8 = true := by kernel_rfl
theorem sz23 : szB prog 23 32 = true := by kernel_rfl
theorem sz24 : szB prog 24 1 = true := by kernel_rfl
theorem sz25 : szB prog 25 1 = true := by kernel_rfl
theorem sz26 : szB prog 26 1 = true := by kernel_rfl
theorem sz27 : szB prog 27 1 = true := by kernel_rfl
theorem sz29 : szB prog 29 4 = true := by kernel_rfl
theorem sz3 : szB prog 3 1 = true := by kernel_rfl
theorem sz30 : szB prog 30 1 = true := by kernel_rfl
theorem sz31 : szB prog 31 1 = true := by kernel_rfl
theorem sz33 : szB prog 33 6 = true := by kernel_rfl
theorem sz34 : szB prog 34 1 = true := by kernel_rfl
theorem sz35 : szB prog 35 1 = true := by kernel_rfl
theorem sz36 : szB prog 36 1 = true := by kernel_rfl
theorem sz38 : szB prog 38 58 = true := by kernel_rfl
theorem sz4 : szB prog 4 1 = true := by kernel_rfl
theorem sz66 : szB prog 66 34 = true := by kernel_rfl
theorem sz68 : szB prog 68 10 = true := by kernel_rfl
theorem sz95 : szB prog 95 33 = true := by kernel_rfl
theorem sz97 : szB prog 97 34 = true := by kernel_rfl
end Go.Proofs.Tryz
namespace Go.Proofs.YtkdoomglflikkaaGreat
open Go.RowKit Go.Eng _root_.Go.Proofs.Tryz
set_option maxRecDepth 100000
variable {w0 w : World} {M0 Fz : Nat → Prop} {H : List It} {A : Option Addr} {c : Nat}
def WshI (x : Wsh) : Prop := i64 x.client ∧ i64 x.stamp ∧ i64 x.group ∧ i64 x.epoch ∧ i64 x.kind ∧ i64 x.block ∧ i64 x.old ∧ i64 x.new
theorem WshI0 : WshI wish0 := by unfold WshI i64; decide
def wishR : Rep Wsh where
 size := 10
 rd := fun S w cs x => WshI x ∧ ∃ A0 c0 A1 c1, cs = [.int .i64 x.client, .int .i64 x.stamp, .int .i64 x.group, .int .i64 x.epoch, .int .i64 x.kind, .int .i64 x.block, .slice A0 x.data.length c0, .int .i64 x.old, .int .i64 x.new, .slice A1 x.next.length c1] ∧ GS byteR S w A0 c0 x.data ∧ GS intR S w A1 c1 x.next
 len := by rintro _ _ _ _ ⟨hI, A0, c0, A1, c1, rfl, k0, k1⟩; rfl
 one := by rintro _ _ _ _ ⟨hI, A0, c0, A1, c1, rfl, k0, k1⟩; exact List.all_eq_true.1 rfl
 keep := by rintro _ _ _ _ _ _ ch hm ⟨hI, A0, c0, A1, c1, rfl, k0, k1⟩; exact ⟨hI, _, _, _, _, rfl, k0.keep ch hm, k1.keep ch hm⟩
 mono := by rintro _ _ _ _ _ hs ⟨hI, A0, c0, A1, c1, rfl, k0, k1⟩; exact ⟨hI, _, _, _, _, rfl, k0.mono hs, k1.mono hs⟩
theorem wishR_el {S : Nat → Prop} {w : World} {A : Option Addr} {c : Nat} {l : List Wsh} (h : GS wishR S w A c l) (i : Nat) (hi : i < l.length) : ∃ a A0 c0 A1 c1, A = some a ∧ AtF S w (a.add (i * 10)) ([.int .i64 (l.getD i wish0).client, .int .i64 (l.getD i wish0).stamp, .int .i64 (l.getD i wish0).group, .int .i64 (l.getD i wish0).epoch, .int .i64 (l.getD i wish0).kind, .int .i64 (l.getD i wish0).block, .slice A0 (l.getD i wish0).data.length c0, .int .i64 (l.getD i wish0).old, .int .i64 (l.getD i wish0).new, .slice A1 (l.getD i wish0).next.length c1]) ∧ WshI (l.getD i wish0) ∧ GS byteR S w A0 c0 (l.getD i wish0).data ∧ GS intR S w A1 c1 (l.getD i wish0).next := by
 obtain ⟨a, cs, h1, h2, hI, A0, c0, A1, c1, rfl, k0, k1⟩ := GS.el h i hi
 have e : (l.getD i wish0) = l[i] := by rw [List.getD_eq_getElem?_getD, List.getElem?_eq_getElem hi]; rfl
 rw [e]
 exact ⟨a, _, _, _, _, h1, h2, hI, k0, k1⟩
def MrkI (x : Mrk) : Prop := i64 x.seq
def markR : Rep Mrk where
 size := 33
 rd := fun S w cs x => MrkI x ∧ cs = [.int .i64 x.seq] ++ (digC x.dig)
 len := by rintro _ _ _ _ ⟨hI, rfl⟩; rfl
 one := by rintro _ _ _ _ ⟨hI, rfl⟩; exact List.all_eq_true.1 rfl
 keep := by rintro _ _ _ _ _ _ ch hm ⟨hI, rfl⟩; exact ⟨hI, rfl⟩
 mono := by rintro _ _ _ _ _ hs ⟨hI, rfl⟩; exact ⟨hI, rfl⟩
theorem markR_el {S : Nat → Prop} {w : World} {A : Option Addr} {c : Nat} {l : List Mrk} (h : GS markR S w A c l) (i : Nat) (hi : i < l.length) : ∃ a, A = some a ∧ AtF S w (a.add (i * 33)) ([.int .i64 (l.getD i mark0).seq] ++ (digC (l.getD i mark0).dig)) ∧ MrkI (l.getD i mark0) := by
 obtain ⟨a, cs, h1, h2, hI, rfl⟩ := GS.el h i hi
 have e : (l.getD i mark0) = l[i] := by rw [List.getD_eq_getElem?_getD, List.getElem?_eq_getElem hi]; rfl
 rw [e]
 exact ⟨a, h1, h2, hI⟩
def StnI (x : Stn) : Prop := i64 x.seq ∧ i64 x.view
def standR : Rep Stn where
 size := 34
 rd := fun S w cs x => StnI x ∧ cs = [.int .i64 x.seq] ++ (digC x.dig ++ ([.int .i64 x.view]))
 len := by rintro _ _ _ _ ⟨hI, rfl⟩; rfl
 one := by rintro _ _ _ _ ⟨hI, rfl⟩; exact List.all_eq_true.1 rfl
 keep := by rintro _ _ _ _ _ _ ch hm ⟨hI, rfl⟩; exact ⟨hI, rfl⟩
 mono := by rintro _ _ _ _ _ hs ⟨hI, rfl⟩; exact ⟨hI, rfl⟩
theorem standR_el {S : Nat → Prop} {w : World} {A : Option Addr} {c : Nat} {l : List Stn} (h : GS standR S w A c l) (i : Nat) (hi : i < l.length) : ∃ a, A = some a ∧ AtF S w (a.add (i * 34)) ([.int .i64 (l.getD i stand0).seq] ++ (digC (l.getD i stand0).dig ++ ([.int .i64 (l.getD i stand0).view]))) ∧ StnI (l.getD i stand0) := by
 obtain ⟨a, cs, h1, h2, hI, rfl⟩ := GS.el h i hi
 have e : (l.getD i stand0) = l[i] := by rw [List.getD_eq_getElem?_getD, List.getElem?_eq_getElem hi]; rfl
 rw [e]
 exact ⟨a, h1, h2, hI⟩
def ChnI (x : Chn) : Prop := i64 x.node ∧ i64 x.view ∧ i64 x.low
def changeR : Rep Chn where
 size := 6
 rd := fun S w cs x => ChnI x ∧ ∃ A0 c0 A1 c1 A2 c2, cs = [.int .i64 x.node, .int .i64 x.view, .int .i64 x.low, .slice A0 x.marks.length c0, .slice A1 x.p.length c1, .slice A2 x.q.length c2] ∧ GS markR S w A0 c0 x.marks ∧ GS standR S w A1 c1 x.p ∧ GS standR S w A2 c2 x.q
 len := by rintro _ _ _ _ ⟨hI, A0, c0, A1, c1, A2, c2, rfl, k0, k1, k2⟩; rfl
 one := by rintro _ _ _ _ ⟨hI, A0, c0, A1, c1, A2, c2, rfl, k0, k1, k2⟩; exact List.all_eq_true.1 rfl
 keep := by rintro _ _ _ _ _ _ ch hm ⟨hI, A0, c0, A1, c1, A2, c2, rfl, k0, k1, k2⟩; exact ⟨hI, _, _, _, _, _, _, rfl, k0.keep ch hm, k1.keep ch hm, k2.keep ch hm⟩
 mono := by rintro _ _ _ _ _ hs ⟨hI, A0, c0, A1, c1, A2, c2, rfl, k0, k1, k2⟩; exact ⟨hI, _, _, _, _, _, _, rfl, k0.mono hs, k1.mono hs, k2.mono hs⟩
theorem changeR_el {S : Nat → Prop} {w : World} {A : Option Addr} {c : Nat} {l : List Chn} (h : GS changeR S w A c l) (i : Nat) (hi : i < l.length) : ∃ a A0 c0 A1 c1 A2 c2, A = some a ∧ AtF S w (a.add (i * 6)) ([.int .i64 (l.getD i change0).node, .int .i64 (l.getD i change0).view, .int .i64 (l.getD i change0).low, .slice A0 (l.getD i change0).marks.length c0, .slice A1 (l.getD i change0).p.length c1, .slice A2 (l.getD i change0).q.length c2]) ∧ ChnI (l.getD i change0) ∧ GS markR S w A0 c0 (l.getD i change0).marks ∧ GS standR S w A1 c1 (l.getD i change0).p ∧ GS standR S w A2 c2 (l.getD i change0).q := by
 obtain ⟨a, cs, h1, h2, hI, A0, c0, A1, c1, A2, c2, rfl, k0, k1, k2⟩ := GS.el h i hi
 have e : (l.getD i change0) = l[i] := by rw [List.getD_eq_getElem?_getD, List.getElem?_eq_getElem hi]; rfl
 rw [e]
 exact ⟨a, _, _, _, _, _, _, h1, h2, hI, k0, k1, k2⟩
def AnsI (x : Ans) : Prop := i64 x.err ∧ i64 x.epoch
def ansR : Rep Ans where
 size := 4
 rd := fun S w cs x => AnsI x ∧ ∃ A0 c0 A1 c1, cs = [.int .i64 x.err, .slice A0 x.data.length c0, .int .i64 x.epoch, .slice A1 x.nodes.length c1] ∧ GS byteR S w A0 c0 x.data ∧ GS intR S w A1 c1 x.nodes
 len := by rintro _ _ _ _ ⟨hI, A0, c0, A1, c1, rfl, k0, k1⟩; rfl
 one := by rintro _ _ _ _ ⟨hI, A0, c0, A1, c1, rfl, k0, k1⟩; exact List.all_eq_true.1 rfl
 keep := by rintro _ _ _ _ _ _ ch hm ⟨hI, A0, c0, A1, c1, rfl, k0, k1⟩; exact ⟨hI, _, _, _, _, rfl, k0.keep ch hm, k1.keep ch hm⟩
 mono := by rintro _ _ _ _ _ hs ⟨hI, A0, c0, A1, c1, rfl, k0, k1⟩; exact ⟨hI, _, _, _, _, rfl, k0.mono hs, k1.mono hs⟩
def PckI (x : Pck) : Prop := i64 x.seq
def pickR : Rep Pck where
 size := 34
 rd := fun S w cs x => PckI x ∧ ∃ A0 c0, cs = [.int .i64 x.seq] ++ (digC x.dig ++ ([.slice A0 x.batch.length c0])) ∧ GS wishR S w A0 c0 x.batch
 len := by rintro _ _ _ _ ⟨hI, A0, c0, rfl, k0⟩; rfl
 one := by rintro _ _ _ _ ⟨hI, A0, c0, rfl, k0⟩; exact List.all_eq_true.1 rfl
 keep := by rintro _ _ _ _ _ _ ch hm ⟨hI, A0, c0, rfl, k0⟩; exact ⟨hI, _, _, rfl, k0.keep ch hm⟩
 mono := by rintro _ _ _ _ _ hs ⟨hI, A0, c0, rfl, k0⟩; exact ⟨hI, _, _, rfl, k0.mono hs⟩
theorem pickR_el {S : Nat → Prop} {w : World} {A : Option Addr} {c : Nat} {l : List Pck} (h : GS pickR S w A c l) (i : Nat) (hi : i < l.length) : ∃ a A0 c0, A = some a ∧ AtF S w (a.add (i * 34)) ([.int .i64 (l.getD i pick0).seq] ++ (digC (l.getD i pick0).dig ++ ([.slice A0 (l.getD i pick0).batch.length c0]))) ∧ PckI (l.getD i pick0) ∧ GS wishR S w A0 c0 (l.getD i pick0).batch := by
 obtain ⟨a, cs, h1, h2, hI, A0, c0, rfl, k0⟩ := GS.el h i hi
 have e : (l.getD i pick0) = l[i] := by rw [List.getD_eq_getElem?_getD, List.getElem?_eq_getElem hi]; rfl
 rw [e]
 exact ⟨a, _, _, h1, h2, hI, k0⟩
def NteI (x : Nte) : Prop := i64 x.kind ∧ i64 x.from_ ∧ i64 x.group ∧ i64 x.epoch ∧ i64 x.view ∧ i64 x.seq ∧ i64 x.ans.err ∧ i64 x.ans.epoch ∧ i64 x.stamp ∧ i64 x.node ∧ i64 x.change.node ∧ i64 x.change.view ∧ i64 x.change.low ∧ i64 x.level ∧ i64 x.place
def noteR : Rep Nte where
 size := 58
 rd := fun S w cs x => NteI x ∧ ∃ A0 c0 A1 c1 A2 c2 A3 c3 A4 c4 A5 c5 A6 c6 A7 c7 A8 c8 A9 c9 A10 c10, cs = [.int .i64 x.kind, .int .i64 x.from_, .int .i64 x.group, .int .i64 x.epoch, .int .i64 x.view, .int .i64 x.seq] ++ (digC x.dig ++ ([.slice A0 x.batch.length c0, .int .i64 x.ans.err, .slice A1 x.ans.data.length c1, .int .i64 x.ans.epoch, .slice A2 x.ans.nodes.length c2, .int .i64 x.stamp, .int .i64 x.node, .int .i64 x.change.node, .int .i64 x.change.view, .int .i64 x.change.low, .slice A3 x.change.marks.length c3, .slice A4 x.change.p.length c4, .slice A5 x.change.q.length c5, .slice A6 x.changes.length c6, .slice A7 x.picks.length c7, .int .i64 x.level, .int .i64 x.place, .slice A8 x.digs.length c8, .slice A9 x.data.length c9, .slice A10 x.nodes.length c10])) ∧ GS wishR S w A0 c0 x.batch ∧ GS byteR S w A1 c1 x.ans.data ∧ GS intR S w A2 c2 x.ans.nodes ∧ GS markR S w A3 c3 x.change.marks ∧ GS standR S w A4 c4 x.change.p ∧ GS standR S w A5 c5 x.change.q ∧ GS changeR S w A6 c6 x.changes ∧ GS pickR S w A7 c7 x.picks ∧ GS digR S w A8 c8 x.digs ∧ GS byteR S w A9 c9 x.data ∧ GS intR S w A10 c10 x.nodes
 len := by rintro _ _ _ _ ⟨hI, A0, c0, A1, c1, A2, c2, A3, c3, A4, c4, A5, c5, A6, c6, A7, c7, A8, c8, A9, c9, A10, c10, rfl, k0, k1, k2, k3, k4, k5, k6, k7, k8, k9, k10⟩; rfl
 one := by rintro _ _ _ _ ⟨hI, A0, c0, A1, c1, A2, c2, A3, c3, A4, c4, A5, c5, A6, c6, A7, c7, A8, c8, A9, c9, A10, c10, rfl, k0, k1, k2, k3, k4, k5, k6, k7, k8, k9, k10⟩; exact List.all_eq_true.1 rfl
 keep := by rintro _ _ _ _ _ _ ch hm ⟨hI, A0, c0, A1, c1, A2, c2, A3, c3, A4, c4, A5, c5, A6, c6, A7, c7, A8, c8, A9, c9, A10, c10, rfl, k0, k1, k2, k3, k4, k5, k6, k7, k8, k9, k10⟩; exact ⟨hI, _, _, _, _, _, _, _, _, _, _, _, _, _, _, _, _, _, _, _, _, _, _, rfl, k0.keep ch hm, k1.keep ch hm, k2.keep ch hm, k3.keep ch hm, k4.keep ch hm, k5.keep ch hm, k6.keep ch hm, k7.keep ch hm, k8.keep ch hm, k9.keep ch hm, k10.keep ch hm⟩
 mono := by rintro _ _ _ _ _ hs ⟨hI, A0, c0, A1, c1, A2, c2, A3, c3, A4, c4, A5, c5, A6, c6, A7, c7, A8, c8, A9, c9, A10, c10, rfl, k0, k1, k2, k3, k4, k5, k6, k7, k8, k9, k10⟩; exact ⟨hI, _, _, _, _, _, _, _, _, _, _, _, _, _, _, _, _, _, _, _, _, _, _, rfl, k0.mono hs, k1.mono hs, k2.mono hs, k3.mono hs, k4.mono hs, k5.mono hs, k6.mono hs, k7.mono hs, k8.mono hs, k9.mono hs, k10.mono hs⟩
theorem noteR_el {S : Nat → Prop} {l : List Nte} (h : GS noteR S w A c l) (i : Nat) (hi : i < l.length) : ∃ a A0 c0 A1 c1 A2 c2 A3 c3 A4 c4 A5 c5 A6 c6 A7 c7 A8 c8 A9 c9 A10 c10, A = some a ∧ AtF S w (a.add (i * 58)) ([.int .i64 (l.getD i note0).kind, .int .i64 (l.getD i note0).from_, .int .i64 (l.getD i note0).group, .int .i64 (l.getD i note0).epoch, .int .i64 (l.getD i note0).view, .int .i64 (l.getD i note0).seq] ++ (digC (l.getD i note0).dig ++ ([.slice A0 (l.getD i note0).batch.length c0, .int .i64 (l.getD i note0).ans.err, .slice A1 (l.getD i note0).ans.data.length c1, .int .i64 (l.getD i note0).ans.epoch, .slice A2 (l.getD i note0).ans.nodes.length c2, .int .i64 (l.getD i note0).stamp, .int .i64 (l.getD i note0).node, .int .i64 (l.getD i note0).change.node, .int .i64 (l.getD i note0).change.view, .int .i64 (l.getD i note0).change.low, .slice A3 (l.getD i note0).change.marks.length c3, .slice A4 (l.getD i note0).change.p.length c4, .slice A5 (l.getD i note0).change.q.length c5, .slice A6 (l.getD i note0).changes.length c6, .slice A7 (l.getD i note0).picks.length c7, .int .i64 (l.getD i note0).level, .int .i64 (l.getD i note0).place, .slice A8 (l.getD i note0).digs.length c8, .slice A9 (l.getD i note0).data.length c9, .slice A10 (l.getD i note0).nodes.length c10]))) ∧ NteI (l.getD i note0) ∧ GS wishR S w A0 c0 (l.getD i note0).batch ∧ GS byteR S w A1 c1 (l.getD i note0).ans.data ∧ GS intR S w A2 c2 (l.getD i note0).ans.nodes ∧ GS markR S w A3 c3 (l.getD i note0).change.marks ∧ GS standR S w A4 c4 (l.getD i note0).change.p ∧ GS standR S w A5 c5 (l.getD i note0).change.q ∧ GS changeR S w A6 c6 (l.getD i note0).changes ∧ GS pickR S w A7 c7 (l.getD i note0).picks ∧ GS digR S w A8 c8 (l.getD i note0).digs ∧ GS byteR S w A9 c9 (l.getD i note0).data ∧ GS intR S w A10 c10 (l.getD i note0).nodes := by
 obtain ⟨a, cs, h1, h2, hI, A0, c0, A1, c1, A2, c2, A3, c3, A4, c4, A5, c5, A6, c6, A7, c7, A8, c8, A9, c9, A10, c10, rfl, k0, k1, k2, k3, k4, k5, k6, k7, k8, k9, k10⟩ := GS.el h i hi
 have e : (l.getD i note0) = l[i] := by rw [List.getD_eq_getElem?_getD, List.getElem?_eq_getElem hi]; rfl
 rw [e]
 exact ⟨a, _, _, _, _, _, _, _, _, _, _, _, _, _, _, _, _, _, _, _, _, _, _, h1, h2, hI, k0, k1, k2, k3, k4, k5, k6, k7, k8, k9, k10⟩
theorem NteI.ans {n : Nte} (h : NteI n) : AnsI n.ans := by unfold NteI i64 at h; unfold AnsI i64; omega
theorem NteI.change {n : Nte} (h : NteI n) : ChnI n.change := by unfold NteI i64 at h; unfold ChnI i64; omega
theorem MrkI.fit {x : Mrk} (h : MrkI x) : FitK (some .i64 :: List.replicate 32 (some .u8)) ([.int .i64 x.seq] ++ (digC x.dig)) := FitK.cons (fit_int h.1 h.2) (digC_fit x.dig)
theorem mark_inj {x y : Mrk} : x = y ↔ ([.int .i64 x.seq] ++ (digC x.dig) : List Value) = [.int .i64 y.seq] ++ (digC y.dig) := by
 constructor
 ·rintro rfl; rfl
 ·intro h
  simp only [List.cons_append, List.nil_append, List.cons.injEq, Value.int.injEq, true_and] at h
  cases x; cases y
  simp only [Mrk.mk.injEq]
  exact ⟨h.1, digC_inj.2 h.2⟩
theorem StnI.fit {x : Stn} (h : StnI x) : FitK (some .i64 :: (List.replicate 32 (some .u8) ++ [some .i64])) ([.int .i64 x.seq] ++ (digC x.dig ++ ([.int .i64 x.view]))) :=
 FitK.cons (fit_int h.1.1 h.1.2) ((digC_fit x.dig).append (FitK.cons (fit_int h.2.1 h.2.2) FitK.nil))
theorem stand_inj {x y : Stn} : x = y ↔ ([.int .i64 x.seq] ++ (digC x.dig ++ ([.int .i64 x.view])) : List Value) = [.int .i64 y.seq] ++ (digC y.dig ++ ([.int .i64 y.view])) := by
 constructor
 ·rintro rfl; rfl
 ·intro h
  simp only [List.cons_append, List.nil_append, List.cons.injEq, Value.int.injEq, true_and] at h
  have h2 := List.append_inj h.2 (by simp [digC_len])
  cases x; cases y
  simp only [Stn.mk.injEq]
  exact ⟨h.1, digC_inj.2 h2.1, by simpa using h2.2⟩
end Go.Proofs.YtkdoomglflikkaaGreat
namespace Go.Proofs.YtkdoomglflikkaaGreat
open Go.ChangeShapes Go.WideShapes Go.ChangeAt Go.RowKit Go.Eng _root_.Go.Proofs.Tryz
set_option maxRecDepth 100000
variable {w0 w : World} {M0 Fz : Nat → Prop} {H : List It} {A : Option Addr} {c : Nat}
theorem Tryz.own : ownKnob Tryz.prog.godebug = none := by kernel_rfl
theorem Tryz.laidOut : laidOutB Tryz.prog = true := by kernel_rfl
end Go.Proofs.YtkdoomglflikkaaGreat
namespace Go.Proofs.YtkdoomglflikkaaGreat
open Go.RowKit Go.Eng _root_.Go.Proofs.Tryz
set_option maxRecDepth 100000
variable {w0 w : World} {M0 Fz : Nat → Prop} {H : List It} {A : Option Addr} {c : Nat}
theorem eqBytes_ok {A B : Option Addr} {c d : Nat} {la lb : List UInt8} {Sa Sb : Nat → Prop} (ha : BS Sa w A c la) (hb : BS Sb w B d lb) : Ret prog 16 #[.slice A la.length c, .slice B lb.length d] w (fun v w' => v = .bool (decide (la = lb)) ∧ Ext w w') := by
 refine ret_of_wk func16 rfl ntmps16 leB_ ?_
 refine go ?_
 refine Ln_ underlying26 rfl (go ?_)
 refine Ln_ underlying26 rfl ?_
 refine Ne_ rfl rfl (go ?_)
 refine Cd (fun hne => ?_) fun hne => ?_
 refine go ?_
 refine P1 results16 ?_
 exact ⟨_, rfl, bool_f (fun e => hne (by rw [e])), Chg.refl _ _⟩
 have hll : la.length = lb.length := by omega
 refine go ?_
 refine wc_loop (fun L' w' mes => ∃ (k : Nat), L' = [(0, .slice A la.length c), (1, .slice B lb.length d), (5, iv (k : Int))] ∧ (k ≤ la.length) ∧ (la.take k = lb.take k) ∧ (Ext w w') ∧ la.length - k = mes) [(0, .slice A la.length c), (1, .slice B lb.length d), (5, iv (0 : Int))] (la.length - 0) (by
     refine ⟨0, rfl, ?_, ?_, ?_, rfl⟩
     · omega
     · simp
     · exact Chg.refl _ _) ⟨rfl, rfl, rfl, trivial⟩ ?_
 rintro _ wr _ ⟨k, rfl, hk, htk, hE, rfl⟩ KL1 hKL1
 have hmx:=ha.mx
 refine go ?_
 refine Ln_ underlying26 rfl ?_
 refine Ls_ rfl rfl (go ?_)
 refine Cd (fun hlt => ?_) fun hlt => ?_
 refine go ?_
 refine wc_drawL [SP.eq (.slice A la.length c), SP.eq (iv (k : Int)), SP.ptr (fun _ => True) [bv (la[k]'(by omega))], SP.eq (bv (la[k]'(by omega))), SP.eq (.slice B lb.length d), SP.eq (iv (k : Int)), SP.ptr (fun _ => True) [bv (lb[k]'(by omega))], SP.eq (bv (lb[k]'(by omega))), SP.eq (.bool (decide (((la[k]'(by omega)).toNat : Int) ≠ ((lb[k]'(by omega)).toNat : Int))))] (by kernel_rfl) (by kernel_rfl) ⟨?_, ?_, ?_, ?_, ?_, ?_, ?_, ?_, ?_, trivial⟩ ?_
 intro F wF hER hk
 have e0:=hk.init 0 _ rfl (by kernel_rfl)
 refine Mv_ e0 ?_
 exact qz ⟨Chg.refl _ _, rfl⟩
 intro F wF hER hk
 have e5:=hk.init 5 _ rfl (by kernel_rfl)
 refine Mv_ e5 ?_
 exact qz ⟨Chg.refl _ _, rfl⟩
 intro F wF hER hk
 obtain ⟨u17, e17, h17⟩ := hk.pred 0 (by kernel_rfl) 17 rfl
 obtain rfl := h17
 obtain ⟨u18, e18, h18⟩ := hk.pred 1 (by kernel_rfl) 18 rfl
 obtain rfl := h18
 refine wl_idx (r := byteR) (by decide) sl26 e17 e18 ((ha.ext hE).ext hER) k rfl (by omega) ?_
 rintro a cs hb1 _ hat rfl
 exact qz ⟨Chg.refl _ _, a, rfl, hb1, trivial, hat⟩
 intro F wF hER hk
 obtain ⟨u19, e19, h19⟩ := hk.pred 2 (by kernel_rfl) 19 rfl
 obtain ⟨a19, rfl, _, _, hat19⟩ := h19
 refine Ld_ sc5 e19 hat19.head ?_
 exact qz ⟨Chg.refl _ _, rfl⟩
 intro F wF hER hk
 have e1:=hk.init 1 _ rfl (by kernel_rfl)
 refine Mv_ e1 ?_
 exact qz ⟨Chg.refl _ _, rfl⟩
 intro F wF hER hk
 have e5:=hk.init 5 _ rfl (by kernel_rfl)
 refine Mv_ e5 ?_
 exact qz ⟨Chg.refl _ _, rfl⟩
 intro F wF hER hk
 obtain ⟨u21, e21, h21⟩ := hk.pred 4 (by kernel_rfl) 21 rfl
 obtain rfl := h21
 obtain ⟨u22, e22, h22⟩ := hk.pred 5 (by kernel_rfl) 22 rfl
 obtain rfl := h22
 refine wl_idx (r := byteR) (by decide) sl26 e21 e22 ((hb.ext hE).ext hER) k rfl (by omega) ?_
 rintro a cs hb1 _ hat rfl
 exact qz ⟨Chg.refl _ _, a, rfl, hb1, trivial, hat⟩
 intro F wF hER hk
 obtain ⟨u23, e23, h23⟩ := hk.pred 6 (by kernel_rfl) 23 rfl
 obtain ⟨a23, rfl, _, _, hat23⟩ := h23
 refine Ld_ sc5 e23 hat23.head ?_
 exact qz ⟨Chg.refl _ _, rfl⟩
 intro F wF hER hk
 obtain ⟨u20, e20, h20⟩ := hk.pred 3 (by kernel_rfl) 20 rfl
 obtain rfl := h20
 obtain ⟨u24, e24, h24⟩ := hk.pred 7 (by kernel_rfl) 24 rfl
 obtain rfl := h24
 refine Ne_ e20 e24 ?_
 exact qz ⟨Chg.refl _ _, rfl⟩
 intro F wD hED hini hdo
 refine wk_drop [(0, _), (1, _), (5, _), (25, _)] ⟨di hini 0, di hini 1, di hini 5, dq hdo 8, trivial⟩ ?_
 clear hini hdo
 refine go ?_
 refine Cd (fun hne2 => ?_) fun hne2 => ?_
 refine go ?_
 refine P1 results16 ?_
 exact ⟨_, rfl, bool_f (fun e => hne2 (by subst e; rfl)), hE.trans hED⟩
 refine go ?_
 refine wl_add (by decide) rfl rfl (w64 (by omega) (by omega)) (gl ?_)
 refine wk_drop [(0, .slice A la.length c), (1, .slice B lb.length d), (5, iv ((k + 1) : Int))] ⟨rfl, rfl, rfl, trivial⟩ (hKL1 _ _ (m2 := la.length - (k + 1)) ?_ ?_)
 refine ⟨(k + 1), rfl, ?_, ?_, ?_, rfl⟩
 omega
 rw [← List.take_append_getElem (by omega : k < la.length), ← List.take_append_getElem (by omega : k < lb.length), htk, UInt8.toNat_inj.1 (by omega : la[k].toNat = lb[k].toNat)]
 exact hE.trans hED
 omega
 have hkl : k = la.length := by omega
 refine go ?_
 refine P1 results16 ?_
 exact ⟨_, rfl, bool_t (by rw [hkl, List.take_length, hll, List.take_length] at htk; exact htk), hE⟩
theorem bring_ok {i n : Int} {w : World} (_h1 : -9223372036854775808 ≤ i) (_h2 : i ≤ 9223372036854775807) (h3 : -9223372036854775808 ≤ n) (h4 : n ≤ 9223372036854775807) : Ret Tryz.prog 23 #[.int .i64 i, .int .i64 n] w (fun v w' => v = .int .i64 (brg i n) ∧ w' = w) := by
  refine ret_of_wk Tryz.func23 rfl Tryz.ntmps23 (Nat.le_of_ble_eq_true rfl) ?_
  refine wc_seq ?_
  refine wc_region ?_
  refine wl_assign (by decide) rfl ?_
  refine wl_nil ?_
  refine wk_norm ?_
  refine wc_seq ?_
  refine wc_seq ?_
  refine wc_region ?_
  refine wl_move (by decide) rfl ?_
  refine wl_leq (by decide) rfl rfl ?_
  refine wl_nil ?_
  refine wk_norm ?_
  refine wc_cond rfl (fun hn => ?_) (fun hn => ?_)
  ·
    try replace hn := of_decide_eq_true hn
    refine wc_seq ?_
    refine wc_region ?_
    refine wl_assign (by decide) rfl ?_
    refine wl_nil ?_
    refine wk_norm ?_
    refine wc_ret ?_
    refine wk_then_ret ?_
    refine wk_post1 (.inl rfl) Tryz.results23 rfl ?_
    exact ⟨_, rfl, by rw [brg, if_pos hn], rfl⟩
  ·
    try replace hn := of_decide_eq_false hn
    refine wc_skip ?_
    refine wk_norm ?_
    refine wc_seq ?_
    refine wc_region ?_
    refine wl_move (by decide) rfl ?_
    refine wl_move (by decide) rfl ?_
    refine wl_rem (by decide) rfl rfl (by omega) rfl ?_
    have ht1 : -n < i.tmod n := by have := Int.lt_tmod_of_pos i (show 0 < n by omega); omega
    have ht2 : i.tmod n < n := Int.tmod_lt_of_pos i (by omega)
    refine wl_assign (by decide) rfl ?_
    refine wl_nil ?_
    refine wk_norm ?_
    refine wc_seq_cut (fun L' w' => L' = [(0, .int .i64 (brg i n))] ∧ (w = w')) (fun K hK => ?_) ?_
    ·
      refine wc_seq ?_
      refine wc_region ?_
      refine wl_move (by decide) rfl ?_
      refine wl_lss (by decide) rfl rfl ?_
      refine wl_nil ?_
      refine wk_norm ?_
      refine wc_cond rfl (fun hneg => ?_) (fun hneg => ?_)
      ·
        try replace hneg := of_decide_eq_true hneg
        refine wc_region ?_
        refine wl_move (by decide) rfl ?_
        refine wl_move (by decide) rfl ?_
        refine wl_add (by decide) rfl rfl (w64 (by omega) (by omega)) ?_
        refine wl_assign (by decide) rfl ?_
        refine wl_nil ?_
        refine wk_norm ?_
        refine wk_drop [(0, .int .i64 (brg i n))] ⟨(by rw [brg_tmod i n (by omega), if_pos hneg]; rfl), trivial⟩ (hK _ _ ?_)
        refine ⟨rfl, ?_⟩
        · rfl
      ·
        try replace hneg := of_decide_eq_false hneg
        refine wc_skip ?_
        refine wk_norm ?_
        refine wk_drop [(0, .int .i64 (brg i n))] ⟨(by rw [brg_tmod i n (by omega), if_neg hneg]; rfl), trivial⟩ (hK _ _ ?_)
        refine ⟨rfl, ?_⟩
        · rfl
    ·
      rintro _ w2 ⟨rfl, hw⟩
      subst hw
      refine wc_seq ?_
      refine wc_region ?_
      refine wl_move (by decide) rfl ?_
      refine wl_assign (by decide) rfl ?_
      refine wl_nil ?_
      refine wk_norm ?_
      refine wc_ret ?_
      refine wk_post1 (.inl rfl) Tryz.results23 rfl ?_
      exact ⟨_, rfl, rfl, rfl⟩
theorem cloneB_ok {l : List UInt8} {Sa : Nat → Prop} (h : BS Sa w A c l) : Ret prog 199 #[.slice A l.length c] w (fun v w' => ∃ A' c', v = .slice A' l.length c' ∧ OwnB 5 w.heap.size w' A' c' l ∧ Ext w w') := by
 refine ret_of_wk func199 rfl ntmps199 leB_ ?_
 refine go ?_
 refine wl_nilq (by decide) underlying26 rfl rfl ?_
 refine go ?_
 refine Cd (fun hnil => ?_) fun hnil => ?_
 have hl : l = [] := h.empty (by cases A <;> simp_all)
 refine go ?_
 refine P1 results199 ?_
 exact ⟨_, rfl, none, 0, by rw [hl]; rfl, by rw [hl]; exact OwnRow.nil _ _ _ _ _, Chg.refl _ _⟩
 refine go ?_
 refine wl_bsliceB (xs := []) (bs := []) (by decide) sl26 rfl rfl rfl (by simp) w.heap.size (Nat.le_refl _) ?_
 rintro g w1 hg ho1 hE1
 refine go ?_
 refine wl_appendB (l := []) (by decide) sl26 rfl rfl ho1 (h.ext hE1) (by have := h.mx; simp; omega) hE1.size ?_
 rintro A2 c2 w2 ho ch _
 refine go ?_
 refine P1 results199 ?_
 exact ⟨_, rfl, A2, c2, rfl, ho, hE1.trans (ch.off (fun _ _ x => absurd rfl x.1))⟩
theorem num_ok {n : Int} (h1 : -9223372036854775808 ≤ n) (h2 : n ≤ 9223372036854775807) : Ret prog 180 #[.int .i64 n] w (fun v w' => ∃ A c, v = .tuple #[.slice A (numS n).1.length c, .int .i64 (numS n).2] ∧ OwnB 5 w.heap.size w' A c (numS n).1 ∧ Ext w w') := by
 refine ret_of_wk func180 rfl ntmps180 leB_ ?_
 refine go ?_
 refine Ls_ rfl rfl (go ?_)
 refine Gs 9 (fun hg => ?_) fun hg => ?_
 refine go ?_
 refine wc_cond_t rfl (go ?_)
 refine P2 results180 ?_
 exact ⟨_, rfl, none, 0, by rw [numS, if_pos (by omega)]; rfl, by rw [numS, if_pos (by omega)]; exact OwnRow.nil _ _ _ _ _, Chg.refl _ _⟩
 refine go ?_
 refine Gt_ rfl rfl (go ?_)
 refine Cd (fun hc => ?_) fun hc => ?_
 refine go ?_
 refine P2 results180 ?_
 exact ⟨_, rfl, none, 0, by rw [numS, if_pos (by omega)]; rfl, by rw [numS, if_pos (by omega)]; exact OwnRow.nil _ _ _ _ _, Chg.refl _ _⟩
 obtain ⟨N, rfl⟩ : ∃ N : Nat, n = N := ⟨n.toNat, by omega⟩
 have hs : numS (N : Int) = (numL N, 0) := by rw [numS, if_neg (by omega)]; simp
 have hN : N ≤ 9007199254740991 := by omega
 have h7:=digs_len N hN
 refine go ?_
 refine wc_loop (fun L' w' mes => ∃ (m : Nat), L' = [(0, iv (N : Int)), (4, iv (m : Int))] ∧ (m ≤ (digs N).length) ∧ (w = w') ∧ (digs N).length - m = mes) [(0, iv (N : Int)), (4, iv (0 : Int))] ((digs N).length - 0) (by
     refine ⟨0, rfl, ?_, ?_, rfl⟩
     · omega
     · rfl) ⟨rfl, rfl, trivial⟩ ?_
 rintro _ wr _ ⟨m, rfl, hm, hw, rfl⟩ KL1 hKL1
 subst hw
 refine go ?_
 refine wl_mul (by decide) rfl rfl (w64 (by omega) (by omega)) ?_
 refine wl_shr (by decide) rfl rfl (by omega) (shr256 N m _ rfl (by omega)) ?_
 refine Gt_ rfl rfl (go ?_)
 refine Cd (fun hlt => ?_) fun hlt => ?_
 have hml : m < (digs N).length := (digs_lt N m hN (by omega)).1 (by omega)
 refine go ?_
 refine wl_add (by decide) rfl rfl (w64 (by omega) (by omega)) (gl ?_)
 refine wk_drop [(0, iv (N : Int)), (4, iv ((m + 1) : Int))] ⟨rfl, rfl, trivial⟩ (hKL1 _ _ (m2 := (digs N).length - (m + 1)) ?_ ?_)
 refine ⟨(m + 1), rfl, ?_, ?_, rfl⟩
 omega
 rfl
 omega
 have hme : (digs N).length = m := by
   have := mt (digs_lt N m hN (by omega)).2 (by omega)
   omega
 refine go ?_
 refine wl_conv (by decide) it3 it5 rfl (wrap_u8 _) ?_
 refine wl_bsliceB (xs := [.tmp 21]) (bs := [u8Of m]) (by decide) sl26 rfl rfl rfl (by simp) w.heap.size (Nat.le_refl _) ?_
 rintro g w1 hg1 ho1 hE1
 refine go ?_
 refine wc_loop (fun L' w' mes => ∃ (i : Nat), ∃ (A : Option Addr), ∃ (c : Nat), L' = [(0, iv (N : Int)), (4, iv (m : Int)), (5, .slice A (UInt8.ofNat m :: (digs N).take i).length c), (23, iv (m : Int)), (24, iv (i : Int))] ∧ (i ≤ m) ∧ (OwnB 5 w.heap.size w' A c (UInt8.ofNat m :: (digs N).take i)) ∧ (Ext w w') ∧ m - i = mes) [(0, iv (N : Int)), (4, iv (m : Int)), (5, .slice _ (UInt8.ofNat m :: (digs N).take 0).length _), (23, iv (m : Int)), (24, iv (0 : Int))] (m - 0) (by
     refine ⟨0, _, _, rfl, ?_, ?_, ?_, rfl⟩
     · omega
     · rw [u8Of_nat] at ho1; exact ho1
     · exact hE1) ⟨rfl, rfl, rfl, rfl, rfl, trivial⟩ ?_
 rintro _ wr _ ⟨i, A, c, rfl, hi, ho, hE, rfl⟩ KL2 hKL2
 refine go ?_
 refine Ls_ rfl rfl (go ?_)
 refine Cd (fun hlt2 => ?_) fun hlt2 => ?_
 refine go ?_
 have hsucc:=digs_succ N i (by omega)
 rw [hme, ← u8Of_nat (N / _)] at hsucc
 refine go ?_
 refine wl_sub (by decide) rfl rfl (w64 (by omega) (by omega)) ?_
 refine go ?_
 refine wl_sub (by decide) rfl rfl (w64 (by omega) (by omega)) ?_
 refine wl_mul (by decide) rfl rfl (w64 (by omega) (by omega)) ?_
 refine wl_shr (by decide) rfl rfl (by omega) (shr256 N (m - 1 - i) _ (by omega) (by omega)) ?_
 refine wl_conv (by decide) it3 it5 rfl (wrap_u8 _) ?_
 refine wl_bsliceB (xs := [.tmp 35]) (bs := [u8Of ((N / 256 ^ (m - 1 - i) : Nat) : Int)]) (by decide) sl26 rfl rfl rfl (by simp) wr.heap.size (Nat.le_refl _) ?_
 rintro g2 w2 hg2 ho2 hE2
 refine wl_appendB (l2 := [u8Of ((N / 256 ^ (m - 1 - i) : Nat) : Int)]) (by decide) sl26 rfl rfl (ho.ext hE2) ho2.bs (by have := ho.mx; have := digs_len N hN; simp; omega) (Nat.le_trans hE.size hE2.size) ?_
 rintro A3 c3 w3 ho3 ch3 _
 refine go ?_
 refine wl_add (by decide) rfl rfl (w64 (by omega) (by omega)) (gl ?_)
 refine wk_drop [(0, iv (N : Int)), (4, iv (m : Int)), (5, .slice A3 (UInt8.ofNat m :: (digs N).take (i + 1)).length c3), (23, iv (m : Int)), (24, iv ((i + 1) : Int))] ⟨rfl, rfl, (by rw [hsucc]; rfl), rfl, rfl, trivial⟩ (hKL2 _ _ (m2 := m - (i + 1)) ?_ ?_)
 refine ⟨(i + 1), A3, c3, rfl, ?_, ?_, ?_, rfl⟩
 omega
 rw [hsucc]; exact ho3
 exact (hE.trans hE2).own ch3 (Nat.le_refl _)
 omega
 refine go ?_
 refine P2 results180 ?_
 have hfin : UInt8.ofNat m :: (digs N).take i = numL N := by rw [List.take_of_length_le (by omega), ← hme]; rfl
 rw [hfin] at ho ⊢
 exact ⟨_, rfl, A, c, by rw [hs], by rw [hs]; exact ho, hE⟩
theorem join_ok {ls : List (List UInt8)} {Sa : Nat → Prop} (h : GS (sliceR byteR) Sa w A c ls) (hb : ls.flatten.length ≤ 140737488355328) : Ret prog 184 #[.slice A ls.length c] w (fun v w' => ∃ A' c', v = .slice A' ls.flatten.length c' ∧ OwnB 5 w.heap.size w' A' c' ls.flatten ∧ Ext w w') := by
 refine ret_of_wk func184 rfl ntmps184 leB_ ?_
 refine go ?_
 refine Ln_ underlying187 rfl (go ?_)
 refine wc_loop (fun L' w' mes => ∃ (k : Nat), ∃ (A2 : Option Addr), ∃ (c2 : Nat), L' = [(3, .slice A2 (ls.take k).flatten.length c2), (6, .slice A ls.length c), (7, iv (ls.length : Int)), (8, iv (k : Int))] ∧ (k ≤ ls.length) ∧ (OwnB 5 w.heap.size w' A2 c2 (ls.take k).flatten) ∧ (Ext w w') ∧ ls.length - k = mes) [(3, .slice _ (ls.take 0).flatten.length _), (6, .slice A ls.length c), (7, iv (ls.length : Int)), (8, iv (0 : Int))] (ls.length - 0) (by
     refine ⟨0, _, _, rfl, ?_, ?_, ?_, rfl⟩
     · omega
     · exact OwnRow.nil _ _ _ _ _
     · exact Chg.refl _ _) ⟨rfl, rfl, rfl, rfl, trivial⟩ ?_
 rintro _ wr _ ⟨k, A2, c2, rfl, hk, ho, hE, rfl⟩ KL1 hKL1
 have hmx:=h.mx
 refine go ?_
 refine Ls_ rfl rfl (go ?_)
 refine Cd (fun hlt => ?_) fun hlt => ?_
 refine go ?_
 refine wl_idx (r := sliceR byteR) (by decide) sl187 rfl rfl (h.ext hE) k rfl (by omega) ?_
 rintro a cs hb1 _ hat ⟨Ak, ck, rfl, hgk⟩
 refine Ld_ sc26 rfl hat.head (go ?_)
 have hsucc : (ls.take (k + 1)).flatten = (ls.take k).flatten ++ ls[k] := by rw [← List.take_append_getElem (by omega : k < ls.length), List.flatten_append]; simp only [List.flatten_cons, List.flatten_nil, List.append_nil]
 have hlen : (ls.take (k + 1)).flatten.length ≤ ls.flatten.length := by
   have e : ls.flatten = (ls.take (k + 1)).flatten ++ (ls.drop (k + 1)).flatten := by rw [← List.flatten_append, List.take_append_drop]
   rw [e, List.length_append]; omega
 rw [hsucc, List.length_append] at hlen
 refine wl_appendB (by decide) sl26 rfl rfl ho hgk (by omega) hE.size ?_
 rintro A3 c3 w3 ho3 ch3 _
 refine go ?_
 refine wl_add (by decide) rfl rfl (w64 (by omega) (by omega)) (gl ?_)
 refine wk_drop [(3, .slice A3 (ls.take (k + 1)).flatten.length c3), (6, .slice A ls.length c), (7, iv (ls.length : Int)), (8, iv ((k + 1) : Int))] ⟨(by rw [hsucc]; rfl), rfl, rfl, rfl, trivial⟩ (hKL1 _ _ (m2 := ls.length - (k + 1)) ?_ ?_)
 refine ⟨(k + 1), A3, c3, rfl, ?_, ?_, ?_, rfl⟩
 omega
 rw [hsucc]; exact ho3
 exact hE.own ch3 (Nat.le_refl _)
 omega
 have hkl : k = ls.length := by omega
 refine go ?_
 refine P1 results184 ?_
 subst hkl
 rw [List.take_length] at ho ⊢
 exact ⟨_, rfl, A2, c2, rfl, ho, hE⟩
theorem takeNum_ok {b : List UInt8} {Sa : Nat → Prop} (h : BS Sa w A c b) : Ret prog 193 #[.slice A b.length c] w (fun v w' => ∃ A' c', v = .tuple #[.int .i64 (takeS b).1, .slice A' (takeS b).2.1.length c', .int .i64 (takeS b).2.2] ∧ OwnB 5 w.heap.size w' A' c' (takeS b).2.1 ∧ Ext w w') := by
 refine ret_of_wk func193 rfl ntmps193 leB_ ?_
 refine go ?_
 refine Ln_ underlying26 rfl ?_
 refine Eq_ rfl rfl (go ?_)
 refine Cd (fun h0 => ?_) fun h0 => ?_
 have hb0 : b = [] := List.eq_nil_of_length_eq_zero (by omega)
 subst hb0
 refine go ?_
 refine wk_post3 (.inl rfl) results193 rfl rfl rfl ?_
 exact ⟨_, rfl, none, 0, by rw [show takeS [] = (0, [], 3) from rfl]; try rfl, by rw [show takeS [] = (0, [], 3) from rfl]; exact OwnRow.nil _ _ _ _ _, Chg.refl _ _⟩
 obtain ⟨x, t, rfl⟩ := List.exists_cons_of_ne_nil (show b ≠ [] by rintro rfl; simp at h0)
 have hx : x.toNat < 256 := x.toNat_lt
 refine go ?_
 refine wc_drawL [SP.eq (.slice A (x :: t).length c), SP.ptr (fun _ => True) [bv x], SP.eq (bv x), SP.eq (iv (x.toNat : Int)), SP.eq (.slice A (x :: t).length c), SP.gs byteR Sa t, SP.eq (iv (x.toNat : Int)), SP.gs byteR Sa t] (by kernel_rfl) (by kernel_rfl) ⟨?_, ?_, ?_, ?_, ?_, ?_, ?_, ?_, trivial⟩ ?_
 intro F wF hER hk
 have e0:=hk.init 0 _ rfl (by kernel_rfl)
 refine Mv_ e0 ?_
 exact qz ⟨Chg.refl _ _, rfl⟩
 intro F wF hER hk
 obtain ⟨u11, e11, h11⟩ := hk.pred 0 (by kernel_rfl) 11 rfl
 obtain rfl := h11
 refine wl_idx (r := byteR) (by decide) sl26 e11 rfl (h.ext hER) 0 rfl (by simp) ?_
 rintro a cs hb1 _ hat rfl
 exact qz ⟨Chg.refl _ _, a, rfl, hb1, trivial, hat⟩
 intro F wF hER hk
 obtain ⟨u12, e12, h12⟩ := hk.pred 1 (by kernel_rfl) 12 rfl
 obtain ⟨a12, rfl, _, _, hat12⟩ := h12
 refine Ld_ sc5 e12 hat12.head ?_
 exact qz ⟨Chg.refl _ _, rfl⟩
 intro F wF hER hk
 obtain ⟨u13, e13, h13⟩ := hk.pred 2 (by kernel_rfl) 13 rfl
 obtain rfl := h13
 refine wl_conv (by decide) it5 it3 e13 (w64 (by omega) (by omega)) ?_
 exact qz ⟨Chg.refl _ _, rfl⟩
 intro F wF hER hk
 have e0:=hk.init 0 _ rfl (by kernel_rfl)
 refine Mv_ e0 ?_
 exact qz ⟨Chg.refl _ _, rfl⟩
 intro F wF hER hk
 obtain ⟨u15, e15, h15⟩ := hk.pred 4 (by kernel_rfl) 15 rfl
 obtain rfl := h15
 refine wl_from (r := byteR) (by decide) sl26 e15 rfl (h.ext hER) 1 rfl (by simp) ?_
 rintro A1 c1 hg1
 exact qz ⟨Chg.refl _ _, A1, c1, rfl, hg1⟩
 intro F wF hER hk
 obtain ⟨u14, e14, h14⟩ := hk.pred 3 (by kernel_rfl) 14 rfl
 obtain rfl := h14
 refine wl_assign (by decide) e14 ?_
 exact qz ⟨Chg.refl _ _, rfl⟩
 intro F wF hER hk
 obtain ⟨u16, e16, h16⟩ := hk.pred 5 (by kernel_rfl) 16 rfl
 obtain ⟨A16, c16, rfl, hg16⟩ := h16
 refine wl_assign (by decide) e16 ?_
 exact qz ⟨Chg.refl _ _, A16, c16, rfl, hg16⟩
 intro F w1 hED hini hdo
 have e2:=di hini 2
 obtain ⟨u3, e3, h3⟩ := hdo 7 3 rfl
 obtain ⟨A3, c3, rfl, hg3⟩ := h3
 refine wk_drop [(2, _), (3, _), (5, _)] ⟨e2, e3, dq hdo 6, trivial⟩ ?_
 clear e2 e3 hini hdo
 have hx:=x.toNat_lt
 refine go ?_
 refine Gt_ rfl rfl (go ?_)
 refine Cd (fun h7 => ?_) fun h7 => ?_
 refine go ?_
 refine wk_post3 (.inl rfl) results193 rfl rfl rfl ?_
 have e : takeS (x :: t) = (0, [], 4) := by simp only [takeS]; rw [if_pos (by omega)]
 exact ⟨_, rfl, none, 0, by rw [e]; try rfl, by rw [e]; exact OwnRow.nil _ _ _ _ _, hED⟩
 refine go ?_
 refine Ln_ underlying26 rfl (go ?_)
 refine Ls_ rfl rfl (go ?_)
 refine Cd (fun hlen => ?_) fun hlen => ?_
 refine go ?_
 refine wk_post3 (.inl rfl) results193 rfl rfl rfl ?_
 have e : takeS (x :: t) = (0, [], 3) := by simp only [takeS]; rw [if_neg (by omega), if_pos (by omega)]
 exact ⟨_, rfl, none, 0, by rw [e]; try rfl, by rw [e]; exact OwnRow.nil _ _ _ _ _, hED⟩
 refine wc_seq_cut (fun L' w' => ∃ (q : Bool), L' = [(2, iv 0), (3, .slice A3 t.length c3), (5, iv (x.toNat : Int)), (25, .bool q)] ∧ (w1 = w') ∧ (q = true ↔ (0 < x.toNat ∧ t.headD 1 = 0))) (fun K hK => ?_) ?_
 refine go ?_
 refine Gt_ rfl rfl (go ?_)
 refine Gs 28 (fun hpos => ?_) fun hpos => ?_
 have ht0 : 0 < t.length := by first | omega | (simp only [List.length_cons] at hlen; omega)
 have hhd : t.headD 1 = t[0] := by cases t with
   | nil => simp at ht0
   | cons y s => rfl
 refine go ?_
 refine wl_idx (r := byteR) (by decide) sl26 rfl rfl hg3 0 rfl ht0 ?_
 rintro a4 cs4 hb4 _ hat4 rfl
 refine go ?_
 refine Ld_ sc5 rfl hat4.head (go ?_)
 refine Eq_ rfl rfl (gl ?_)
 refine wk_drop [(2, iv 0), (3, .slice A3 t.length c3), (5, iv (x.toNat : Int)), (25, .bool _)] ⟨rfl, rfl, rfl, rfl, trivial⟩ (hK _ _ ?_)
 refine ⟨_, rfl, ?_, ?_⟩
 rfl
 simp only [decide_eq_true_eq]; rw [hhd]; exact ⟨fun e => ⟨by omega, UInt8.toNat_inj.1 (show (t[0]).toNat = 0 by omega)⟩, fun e => by rw [e.2]; rfl⟩
 refine gl ?_
 refine wk_drop [(2, iv 0), (3, .slice A3 t.length c3), (5, iv (x.toNat : Int)), (25, .bool _)] ⟨rfl, rfl, rfl, rfl, trivial⟩ (hK _ _ ?_)
 refine ⟨_, rfl, ?_, ?_⟩
 rfl
 exact ⟨fun e => (by cases e), fun e => (by omega)⟩
 rintro _ w2 ⟨q, rfl, hw, hq⟩
 subst hw
 refine Cd (fun hq2 => ?_) fun hq2 => ?_
 rw [hq] at hq2
 refine go ?_
 refine wk_post3 (.inl rfl) results193 rfl rfl rfl ?_
 have e : takeS (x :: t) = (0, [], 4) := by simp only [takeS]; rw [if_neg (by omega), if_neg (by omega), if_pos hq2]
 exact ⟨_, rfl, none, 0, by rw [e]; try rfl, by rw [e]; exact OwnRow.nil _ _ _ _ _, hED⟩
 have hq3 : ¬ (0 < x.toNat ∧ t.headD 1 = 0) := fun e => by rw [hq.2 e] at hq2; cases hq2
 refine go ?_
 refine wl_to (r := byteR) (by decide) sl26 rfl rfl hg3 x.toNat rfl (by omega) ?_
 intro hgt
 have htl : (t.take x.toNat).length = x.toNat := by rw [List.length_take]; omega
 have hmt:=hgt.mx
 refine Ln_ underlying26 rfl (go ?_)
 refine wc_loop (fun L' w' mes => ∃ (k : Nat), L' = [(2, iv (valD ((t.take x.toNat).take k) : Int)), (3, .slice A3 t.length c3), (5, iv (x.toNat : Int)), (36, .slice A3 (t.take x.toNat).length c3), (37, iv ((t.take x.toNat).length : Int)), (38, iv (k : Int))] ∧ (k ≤ (t.take x.toNat).length) ∧ (w1 = w') ∧ (t.take x.toNat).length - k = mes) [(2, iv (valD ((t.take x.toNat).take 0) : Int)), (3, .slice A3 t.length c3), (5, iv (x.toNat : Int)), (36, .slice A3 (t.take x.toNat).length c3), (37, iv ((t.take x.toNat).length : Int)), (38, iv (0 : Int))] ((t.take x.toNat).length - 0) (by
     refine ⟨0, rfl, ?_, ?_, rfl⟩
     · omega
     · rfl) ⟨rfl, rfl, rfl, rfl, rfl, rfl, trivial⟩ ?_
 rintro _ wr _ ⟨k, rfl, hk, hw, rfl⟩ KL1 hKL1
 subst hw
 refine go ?_
 refine Ls_ rfl rfl (go ?_)
 refine Cd (fun hlt => ?_) fun hlt => ?_
 refine go ?_
 refine wl_idx (r := byteR) (by decide) sl26 rfl rfl hgt k rfl (by omega) ?_
 rintro a5 cs5 hb5 _ hat5 rfl
 refine Ld_ sc5 rfl hat5.head (go ?_)
 have hvs:=valD_take (t.take x.toNat) k (by omega)
 have hvl:=valD_take_lt (t.take x.toNat) k 6 (by omega)
 have hby:=((t.take x.toNat)[k]'(by omega)).toNat_lt
 refine wl_shl (by decide) rfl rfl (by omega) (shl8 _ (by omega)) ?_
 refine go ?_
 refine wl_conv (by decide) it5 it3 rfl (w64 (by omega) (by omega)) ?_
 refine wl_or (by decide) rfl rfl (or256 _ _ (by omega) (by omega)) ?_
 refine go ?_
 refine wl_add (by decide) rfl rfl (w64 (by omega) (by omega)) (gl ?_)
 refine wk_drop [(2, iv (valD ((t.take x.toNat).take (k + 1)) : Int)), (3, .slice A3 t.length c3), (5, iv (x.toNat : Int)), (36, .slice A3 (t.take x.toNat).length c3), (37, iv ((t.take x.toNat).length : Int)), (38, iv ((k + 1) : Int))] ⟨(by rw [hvs]; rfl), rfl, rfl, rfl, rfl, rfl, trivial⟩ (hKL1 _ _ (m2 := (t.take x.toNat).length - (k + 1)) ?_ ?_)
 refine ⟨(k + 1), rfl, ?_, ?_, rfl⟩
 omega
 rfl
 omega
 have hkl : k = (t.take x.toNat).length := by omega
 subst hkl
 rw [List.take_length]
 refine go ?_
 refine Gt_ rfl rfl (go ?_)
 refine Cd (fun hmax => ?_) fun hmax => ?_
 refine go ?_
 refine wk_post3 (.inl rfl) results193 rfl rfl rfl ?_
 have e : takeS (x :: t) = (0, [], 9) := by simp only [takeS]; rw [if_neg (by omega), if_neg (by omega), if_neg hq3, if_pos (by omega)]
 exact ⟨_, rfl, none, 0, by rw [e]; try rfl, by rw [e]; exact OwnRow.nil _ _ _ _ _, hED⟩
 refine go ?_
 refine wl_from (r := byteR) (by decide) sl26 rfl rfl hg3 x.toNat rfl (by omega) ?_
 rintro A6 c6 hg6
 refine Cl_ cl199 rfl (cloneB_ok hg6) ?_
 rintro _ w7 ⟨A7, c7, rfl, ho7, hE7⟩
 refine go ?_
 refine wk_post3 (.inl rfl) results193 rfl rfl rfl ?_
 have e : takeS (x :: t) = ((valD (t.take x.toNat) : Int), t.drop x.toNat, 0) := by simp only [takeS]; rw [if_neg (by omega), if_neg (by omega), if_neg hq3, if_neg (by omega)]
 exact ⟨_, rfl, A7, c7, by rw [e], by rw [e]; exact ho7.lower hED.size, hED.trans hE7⟩
theorem takeFix_ok {b : List UInt8} {n : Int} {Sa : Nat → Prop} (h : BS Sa w A c b) (h1 : -9223372036854775808 ≤ n) (h2 : n ≤ 9223372036854775807) : Ret prog 191 #[.slice A b.length c, .int .i64 n] w (fun v w' => ∃ A1 c1 A2 c2, v = .tuple #[.slice A1 (fixS b n).1.length c1, .slice A2 (fixS b n).2.1.length c2, .int .i64 (fixS b n).2.2] ∧ OwnB 5 w.heap.size w' A1 c1 (fixS b n).1 ∧ OwnB 5 w.heap.size w' A2 c2 (fixS b n).2.1 ∧ Ext w w') := by
 refine ret_of_wk func191 rfl ntmps191 leB_ ?_
 refine go ?_
 refine Ls_ rfl rfl (go ?_)
 refine Cd (fun h0 => ?_) fun h0 => ?_
 refine go ?_
 refine wk_post3 (.inl rfl) results191 rfl rfl rfl ?_
 have e : fixS b n = ([], [], 2) := by simp only [fixS]; rw [if_pos (by omega)]
 exact ⟨_, rfl, none, 0, none, 0, by rw [e]; try rfl, by rw [e]; exact OwnRow.nil _ _ _ _ _, by rw [e]; exact OwnRow.nil _ _ _ _ _, Chg.refl _ _⟩
 refine go ?_
 refine Ln_ underlying26 rfl (go ?_)
 refine Ls_ rfl rfl (go ?_)
 refine Cd (fun hl => ?_) fun hl => ?_
 refine go ?_
 refine wk_post3 (.inl rfl) results191 rfl rfl rfl ?_
 have e : fixS b n = ([], [], 3) := by simp only [fixS]; rw [if_neg (by omega), if_pos (by omega)]
 exact ⟨_, rfl, none, 0, none, 0, by rw [e]; try rfl, by rw [e]; exact OwnRow.nil _ _ _ _ _, by rw [e]; exact OwnRow.nil _ _ _ _ _, Chg.refl _ _⟩
 refine go ?_
 refine wc_drawL [SP.eq (.slice A b.length c), SP.eq (iv n), SP.gs byteR Sa (b.take n.toNat), SP.own 5 1 w.heap.size (b.take n.toNat).length ((b.take n.toNat).map bv), SP.eq (.slice A b.length c), SP.eq (iv n), SP.gs byteR Sa (b.drop n.toNat), SP.own 5 1 w.heap.size (b.drop n.toNat).length ((b.drop n.toNat).map bv), SP.own 5 1 w.heap.size (b.take n.toNat).length ((b.take n.toNat).map bv), SP.own 5 1 w.heap.size (b.drop n.toNat).length ((b.drop n.toNat).map bv), SP.eq (iv 0)] (by kernel_rfl) (by kernel_rfl) ⟨?_, ?_, ?_, ?_, ?_, ?_, ?_, ?_, ?_, ?_, ?_, trivial⟩ ?_
 intro F wF hER hk
 have e0:=hk.init 0 _ rfl (by kernel_rfl)
 refine Mv_ e0 ?_
 exact qz ⟨Chg.refl _ _, rfl⟩
 intro F wF hER hk
 have e1:=hk.init 1 _ rfl (by kernel_rfl)
 refine Mv_ e1 ?_
 exact qz ⟨Chg.refl _ _, rfl⟩
 intro F wF hER hk
 obtain ⟨u15, e15, h15⟩ := hk.pred 0 (by kernel_rfl) 15 rfl
 obtain rfl := h15
 obtain ⟨u16, e16, h16⟩ := hk.pred 1 (by kernel_rfl) 16 rfl
 obtain rfl := h16
 refine wl_to (r := byteR) (by decide) sl26 e15 e16 (h.ext hER) n.toNat (by omega) (by omega) ?_
 intro hg1
 exact qz ⟨Chg.refl _ _, A, c, rfl, hg1⟩
 intro F wF hER hk
 obtain ⟨u17, e17, h17⟩ := hk.pred 2 (by kernel_rfl) 17 rfl
 obtain ⟨A15, c15, rfl, hg15⟩ := h17
 refine Cl_ cl199 (by simp only [evs, ev, e17]) (cloneB_ok hg15) ?_
 rintro _ w7 ⟨A7, c7, rfl, ho7, hE7⟩
 exact qz ⟨hE7, A7, c7, rfl, ho7.lower hER.size⟩
 intro F wF hER hk
 have e0:=hk.init 0 _ rfl (by kernel_rfl)
 refine Mv_ e0 ?_
 exact qz ⟨Chg.refl _ _, rfl⟩
 intro F wF hER hk
 have e1:=hk.init 1 _ rfl (by kernel_rfl)
 refine Mv_ e1 ?_
 exact qz ⟨Chg.refl _ _, rfl⟩
 intro F wF hER hk
 obtain ⟨u19, e19, h19⟩ := hk.pred 4 (by kernel_rfl) 19 rfl
 obtain rfl := h19
 obtain ⟨u20, e20, h20⟩ := hk.pred 5 (by kernel_rfl) 20 rfl
 obtain rfl := h20
 refine wl_from (r := byteR) (by decide) sl26 e19 e20 (h.ext hER) n.toNat (by omega) (by omega) ?_
 rintro A1 c1 hg1
 exact qz ⟨Chg.refl _ _, A1, c1, rfl, hg1⟩
 intro F wF hER hk
 obtain ⟨u21, e21, h21⟩ := hk.pred 6 (by kernel_rfl) 21 rfl
 obtain ⟨A19, c19, rfl, hg19⟩ := h21
 refine Cl_ cl199 (by simp only [evs, ev, e21]) (cloneB_ok hg19) ?_
 rintro _ w7 ⟨A7, c7, rfl, ho7, hE7⟩
 exact qz ⟨hE7, A7, c7, rfl, ho7.lower hER.size⟩
 intro F wF hER hk
 obtain ⟨u18, e18, h18⟩ := hk.pred 3 (by kernel_rfl) 18 rfl
 obtain ⟨A16, c16, rfl, ho16⟩ := h18
 refine wl_assign (by decide) e18 ?_
 exact qz ⟨Chg.refl _ _, A16, c16, rfl, ho16⟩
 intro F wF hER hk
 obtain ⟨u22, e22, h22⟩ := hk.pred 7 (by kernel_rfl) 22 rfl
 obtain ⟨A20, c20, rfl, ho20⟩ := h22
 refine wl_assign (by decide) e22 ?_
 exact qz ⟨Chg.refl _ _, A20, c20, rfl, ho20⟩
 intro F wF hER hk
 refine go ?_
 exact qr_some ⟨Chg.refl _ _, rfl⟩
 intro F wD hED hini hdo
 obtain ⟨u4, e4, h4⟩ := hdo 8 4 rfl
 obtain ⟨A4, c4, rfl, ho4⟩ := h4
 obtain ⟨u5, e5, h5⟩ := hdo 9 5 rfl
 obtain ⟨A5, c5, rfl, ho5⟩ := h5
 refine wk_drop [(4, _), (5, _), (6, _)] ⟨e4, e5, dq hdo 10, trivial⟩ ?_
 clear e4 e5 hini hdo
 refine go ?_
 refine wk_post3 (.inl rfl) results191 rfl rfl rfl ?_
 have e : fixS b n = (b.take n.toNat, b.drop n.toNat, 0) := by simp only [fixS]; rw [if_neg (by omega), if_neg (by omega)]
 exact ⟨_, rfl, A4, c4, A5, c5, by rw [e], by rw [e]; exact ho4, by rw [e]; exact ho5, hED⟩
theorem takeStr_ok {b : List UInt8} {most : Int} {Sa : Nat → Prop} (h : BS Sa w A c b) : Ret prog 194 #[.slice A b.length c, .int .i64 most] w (fun v w' => ∃ A1 c1 A2 c2, v = .tuple #[.slice A1 (takeStrS b most).1.length c1, .slice A2 (takeStrS b most).2.1.length c2, .int .i64 (takeStrS b most).2.2] ∧ OwnB 5 w.heap.size w' A1 c1 (takeStrS b most).1 ∧ OwnB 5 w.heap.size w' A2 c2 (takeStrS b most).2.1 ∧ Ext w w') := by
 refine ret_of_wk func194 rfl ntmps194 leB_ ?_
 refine go ?_
 refine Ls_ rfl rfl (go ?_)
 refine Cd (fun h0 => ?_) fun h0 => ?_
 refine go ?_
 refine wk_post3 (.inl rfl) results194 rfl rfl rfl ?_
 have e : takeStrS b most = ([], [], 2) := by simp only [takeStrS]; rw [if_pos (by omega)]
 exact ⟨_, rfl, none, 0, none, 0, by rw [e]; try rfl, by rw [e]; exact OwnRow.nil _ _ _ _ _, by rw [e]; exact OwnRow.nil _ _ _ _ _, Chg.refl _ _⟩
 refine go ?_
 have htb:=takeS_lim b
 refine Cl_ cl193 rfl (takeNum_ok h) ?_
 rintro _ w1 ⟨A1, c1, rfl, ho1, hE1⟩
 refine go ?_
 refine Ne_ rfl rfl (go ?_)
 refine Cd (fun he => ?_) fun he => ?_
 refine go ?_
 refine wk_post3 (.inl rfl) results194 rfl rfl rfl ?_
 have e : takeStrS b most = ([], [], (takeS b).2.2) := by simp only [takeStrS]; rw [if_neg (by omega), if_pos he]
 exact ⟨_, rfl, none, 0, none, 0, by rw [e]; try rfl, by rw [e]; exact OwnRow.nil _ _ _ _ _, by rw [e]; exact OwnRow.nil _ _ _ _ _, hE1⟩
 refine go ?_
 refine wl_min (by decide) rfl rfl ?_
 refine Gt_ rfl rfl (go ?_)
 refine Cd (fun hl => ?_) fun hl => ?_
 refine go ?_
 refine wk_post3 (.inl rfl) results194 rfl rfl rfl ?_
 have e : takeStrS b most = ([], [], 5) := by simp only [takeStrS]; rw [if_neg (by omega), if_neg he, if_pos (by omega)]
 exact ⟨_, rfl, none, 0, none, 0, by rw [e]; try rfl, by rw [e]; exact OwnRow.nil _ _ _ _ _, by rw [e]; exact OwnRow.nil _ _ _ _ _, hE1⟩
 refine go ?_
 refine Cl_ cl191 rfl (takeFix_ok ho1.bs (by omega) (by omega)) ?_
 rintro _ w2 ⟨A3, c3, A4, c4, rfl, ho3, ho4, hE2⟩
 refine go ?_
 refine wk_post3 (.inl rfl) results194 rfl rfl rfl ?_
 have e : takeStrS b most = fixS (takeS b).2.1 (takeS b).1 := by simp only [takeStrS]; rw [if_neg (by omega), if_neg he, if_neg (by omega)]
 exact ⟨_, rfl, A3, c3, A4, c4, by rw [e], by rw [e]; exact ho3.lower hE1.size, by rw [e]; exact ho4.lower hE1.size, hE1.trans hE2⟩
theorem str_ok {b : List UInt8} {Sa : Nat → Prop} (h : BS Sa w A c b) : Ret prog 181 #[.slice A b.length c] w (fun v w' => ∃ A c, v = .tuple #[.slice A (strS b).1.length c, .int .i64 (strS b).2] ∧ OwnB 5 w.heap.size w' A c (strS b).1 ∧ Ext w w') := by
 refine ret_of_wk func181 rfl ntmps181 leB_ ?_
 refine go ?_
 refine Ln_ underlying26 rfl ?_
 refine Gt_ rfl rfl (go ?_)
 refine Cd (fun hl => ?_) fun hl => ?_
 refine go ?_
 refine P2 results181 ?_
 have e : strS b = ([], 5) := by simp only [strS]; rw [if_pos (by omega)]
 exact ⟨_, rfl, none, 0, by rw [e]; try rfl, by rw [e]; exact OwnRow.nil _ _ _ _ _, Chg.refl _ _⟩
 have hns : numS (b.length : Int) = (numL b.length, 0) := by rw [numS, if_neg (by omega)]; simp
 have hnl:=numL_len b.length (by omega)
 refine go ?_
 refine Ln_ underlying26 rfl ?_
 refine Cl_ cl180 rfl (num_ok (by omega) (by omega)) ?_
 rintro _ w1 ⟨A1, c1, rfl, ho1, hE1⟩
 rw [hns] at ho1 ⊢
 refine go ?_
 refine Ne_ rfl rfl (go ?_)
 refine Cd (fun hz => ?_) fun hz => ?_
 exact absurd rfl hz
 refine go ?_
 refine wl_bslice (xs := [.tmp 18, .tmp 19]) (vs := [.slice A1 (numL b.length).length c1, .slice A b.length c]) (by decide) sl187 rfl rfl rfl (by intro v hv; simp only [List.mem_cons, List.not_mem_nil, or_false] at hv; rcases hv with rfl | rfl <;> rfl) (by simp) w1.heap.size (Nat.le_refl _) ?_
 rintro g w2 hg2 ho2 hE2
 have hat2 : At w2 ⟨g, 0, none⟩ [.slice A1 (numL b.length).length c1, .slice A b.length c] := ho2.at0
 have hgs : GS (sliceR byteR) (fun _ => True) w2 (some ⟨g, 0, none⟩) 2 [numL b.length, b] := GS.two hat2 ho2.lt0 (Nat.le_refl _) trivial (sliceR_mk ((ho1.bs.ext hE2).mono (fun _ _ _ => trivial))) (sliceR_mk (((h.ext hE1).ext hE2).mono (fun _ _ _ => trivial)))
 have hcl:=join_ok hgs (by simp; omega)
 refine Cl_ cl184 rfl hcl ?_
 clear hcl
 rintro _ w3 ⟨A3, c3, rfl, ho3, hE3⟩
 refine go ?_
 refine P2 results181 ?_
 have e : strS b = (numL b.length ++ b, 0) := by simp only [strS]; rw [if_neg (by omega)]
 have e2 : [numL b.length, b].flatten = numL b.length ++ b := by simp
 rw [e2] at ho3 ⊢
 exact ⟨_, rfl, A3, c3, by rw [e], by rw [e]; exact ho3.lower (hE1.trans hE2).size, (hE1.trans hE2).trans hE3⟩
set_option maxHeartbeats 40000000 in
theorem n_within {n : Int} {least : Int} {most : Int}  : Ret prog 62 #[.int .i64 n, .int .i64 least, .int .i64 most] w (fun v w' => v = .bool (decide (least ≤ n ∧ n ≤ most)) ∧ w' = w) := by
 refine ret_of_wk func62 rfl ntmps62 leB_ ?_
 refine go ?_
 refine Lq_ rfl rfl (go ?_)
 refine Gs 10 (fun hg1 => ?_) fun hg1 => ?_
 refine go ?_
 refine Lq_ rfl rfl (go ?_)
 refine P1 results62 ?_
 exact ⟨_, rfl, congrArg Value.bool (decide_eq_decide.2 (by omega)), rfl⟩
 refine go ?_
 refine P1 results62 ?_
 exact ⟨_, rfl, bool_f (by omega), rfl⟩
set_option maxHeartbeats 40000000 in
theorem w_within {n : Int} {least : Int} {most : Int}  : Ret prog 156 #[.int .i64 n, .int .i64 least, .int .i64 most] w (fun v w' => v = .bool (decide (least ≤ n ∧ n ≤ most)) ∧ w' = w) := by
 refine ret_of_wk func156 rfl ntmps156 leB_ ?_
 refine go ?_
 refine Gq_ rfl rfl (go ?_)
 refine Gs 10 (fun hg1 => ?_) fun hg1 => ?_
 refine go ?_
 refine Lq_ rfl rfl (go ?_)
 refine P1 results156 ?_
 exact ⟨_, rfl, congrArg Value.bool (decide_eq_decide.2 (by omega)), rfl⟩
 refine go ?_
 refine P1 results156 ?_
 exact ⟨_, rfl, bool_f (by omega), rfl⟩
set_option maxHeartbeats 4000000 in
theorem n_isNode {n : Int} {w : World}  : Ret Tryz.prog 63 #[.int .i64 n] w (fun v w' => v = .bool (decide (1 ≤ n ∧ n ≤ 28)) ∧ w' = w) := by
 refine ret_of_wk Tryz.func63 rfl Tryz.ntmps63 (Nat.le_of_ble_eq_true rfl) ?_
 refine wc_seq ?_
 refine wc_region ?_
 refine wl_assign (by decide) rfl ?_
 refine wl_nil ?_
 refine wk_norm ?_
 refine wc_seq ?_
 refine wc_region ?_
 refine wl_move (by decide) rfl ?_
 refine wl_call (by decide) Tryz.cl62 rfl (n_within) ?_
 rintro _ _ ⟨rfl, rfl⟩
 refine wl_assign (by decide) rfl ?_
 refine wl_nil ?_
 refine wk_norm ?_
 refine wc_ret ?_
 refine wk_post1 (.inl rfl) Tryz.results63 rfl ?_
 exact ⟨_, rfl, congrArg Value.bool (decide_eq_decide.2 (by omega)), rfl⟩
set_option maxHeartbeats 4000000 in
theorem n_isClient {n : Int} {w : World}  : Ret Tryz.prog 101 #[.int .i64 n] w (fun v w' => v = .bool (decide (31 ≤ n ∧ n ≤ 34)) ∧ w' = w) := by
 refine ret_of_wk Tryz.func101 rfl Tryz.ntmps101 (Nat.le_of_ble_eq_true rfl) ?_
 refine wc_seq ?_
 refine wc_region ?_
 refine wl_assign (by decide) rfl ?_
 refine wl_nil ?_
 refine wk_norm ?_
 refine wc_seq ?_
 refine wc_region ?_
 refine wl_move (by decide) rfl ?_
 refine wl_call (by decide) Tryz.cl62 rfl (n_within) ?_
 rintro _ _ ⟨rfl, rfl⟩
 refine wl_assign (by decide) rfl ?_
 refine wl_nil ?_
 refine wk_norm ?_
 refine wc_ret ?_
 refine wk_post1 (.inl rfl) Tryz.results101 rfl ?_
 exact ⟨_, rfl, congrArg Value.bool (decide_eq_decide.2 (by omega)), rfl⟩
set_option maxHeartbeats 4000000 in
theorem n_isView {n : Int} {w : World}  : Ret Tryz.prog 103 #[.int .i64 n] w (fun v w' => v = .bool (decide (isView n)) ∧ w' = w) := by
 refine ret_of_wk Tryz.func103 rfl Tryz.ntmps103 (Nat.le_of_ble_eq_true rfl) ?_
 refine wc_seq ?_
 refine wc_region ?_
 refine wl_assign (by decide) rfl ?_
 refine wl_nil ?_
 refine wk_norm ?_
 refine wc_seq ?_
 refine wc_region ?_
 refine wl_move (by decide) rfl ?_
 refine wl_call (by decide) Tryz.cl62 rfl (n_within) ?_
 rintro _ _ ⟨rfl, rfl⟩
 refine wl_assign (by decide) rfl ?_
 refine wl_nil ?_
 refine wk_norm ?_
 refine wc_ret ?_
 refine wk_post1 (.inl rfl) Tryz.results103 rfl ?_
 exact ⟨_, rfl, congrArg Value.bool (decide_eq_decide.2 (by unfold isView; omega)), rfl⟩
set_option maxHeartbeats 4000000 in
theorem n_isSeq {n : Int} {w : World}  : Ret Tryz.prog 104 #[.int .i64 n] w (fun v w' => v = .bool (decide (isSeq n)) ∧ w' = w) := by
 refine ret_of_wk Tryz.func104 rfl Tryz.ntmps104 (Nat.le_of_ble_eq_true rfl) ?_
 refine wc_seq ?_
 refine wc_region ?_
 refine wl_assign (by decide) rfl ?_
 refine wl_nil ?_
 refine wk_norm ?_
 refine wc_seq ?_
 refine wc_region ?_
 refine wl_move (by decide) rfl ?_
 refine wl_call (by decide) Tryz.cl62 rfl (n_within) ?_
 rintro _ _ ⟨rfl, rfl⟩
 refine wl_assign (by decide) rfl ?_
 refine wl_nil ?_
 refine wk_norm ?_
 refine wc_ret ?_
 refine wk_post1 (.inl rfl) Tryz.results104 rfl ?_
 exact ⟨_, rfl, congrArg Value.bool (decide_eq_decide.2 (by unfold isSeq; omega)), rfl⟩
set_option maxHeartbeats 40000000 in
theorem eqInts_ok {Aa : Option Addr} {ca : Nat} {a : List Int} {Sa : Nat → Prop} {Ab : Option Addr} {cb : Nat} {b : List Int} {Sb : Nat → Prop} (ha : GS intR Sa w Aa ca a) (hb : GS intR Sb w Ab cb b) : Ret prog 49 #[.slice Aa a.length ca, .slice Ab b.length cb] w (fun v w' => v = .bool (decide (a = b)) ∧ Ext w w') := by
 have mha:=ha.mx
 have mhb:=hb.mx
 refine ret_of_wk func49 rfl ntmps49 leB_ ?_
 have hEc : Ext w w := Chg.refl _ _
 refine go ?_
 refine Ln_ underlying27 rfl (go ?_)
 refine Ln_ underlying27 rfl ?_
 refine Ne_ rfl rfl (go ?_)
 refine Cd (fun hne => ?_) fun hne => ?_
 refine go ?_
 refine P1 results49 ?_
 exact ⟨_, rfl, bool_f (fun e => hne (by rw [e])), hEc⟩
 have hll : a.length = b.length := by omega
 refine go ?_
 refine wc_loop (fun L' w' mes => ∃ (k : Nat), L' = [(0, .slice Aa a.length ca), (1, .slice Ab b.length cb), (5, iv (k : Int))] ∧ (k ≤ a.length) ∧ (a.take k = b.take k) ∧ (GS intR Sa w' Aa ca a) ∧ (GS intR Sb w' Ab cb b) ∧ (Ext w w') ∧ a.length - k = mes) [(0, .slice Aa a.length ca), (1, .slice Ab b.length cb), (5, iv (0 : Int))] (a.length - 0) (by
     refine ⟨0, rfl, ?_, ?_, ?_, ?_, ?_, rfl⟩
     · omega
     · simp
     · exact ha
     · exact hb
     · exact hEc) ⟨rfl, rfl, rfl, trivial⟩ ?_
 rintro _ wr _ ⟨k, rfl, hk, htk, ha, hb, hEc, rfl⟩ KL1 hKL1
 refine go ?_
 refine Ln_ underlying27 rfl ?_
 refine Ls_ rfl rfl (go ?_)
 refine Cd (fun hlt => ?_) fun hlt => ?_
 refine go ?_
 obtain ⟨aw2, hAw2, hatw2⟩ := GS.elI ha k (by omega)
 obtain ⟨aw6, hAw6, hatw6⟩ := GS.elI hb k (by omega)
 apply wdL [.eq _,.eq _,.eq _,.eq _,.eq _,.eq _,.eq _,.eq _,.eq _]
 refine ⟨?_,?_,?_,?_,?_,?_,?_,?_,?_,trivial⟩<;>intro F wF hER hk
 exact dm (hk.qi 0)
 exact dm (hk.qi 5)
 have e17:=hk.qe 0
 have e18:=hk.qe 1
 exact wl_idx0 (by decide) sl27 e17 e18 hAw2 k rfl (by omega) qz
 exact Ld_ sc3 (hk.qe 2) (hatw2.ext hER).head qz
 exact dm (hk.qi 1)
 exact dm (hk.qi 5)
 have e21:=hk.qe 4
 have e22:=hk.qe 5
 exact wl_idx0 (by decide) sl27 e21 e22 hAw6 k rfl (by omega) qz
 exact Ld_ sc3 (hk.qe 6) (hatw6.ext hER).head qz
 have e20:=hk.qe 3
 have e24:=hk.qe 7
 exact Ne_ e20 e24 qz
 intro F wD hED hini hdo
 refine wk_drop [(0, _), (1, _), (5, _), (25, _)] ⟨di hini 0, di hini 1, di hini 5, dq hdo 8, trivial⟩ ?_
 clear hini hdo
 have q0:=hED
 replace hEc:=hEc.trans hED
 refine go ?_
 refine Cd (fun hne2 => ?_) fun hne2 => ?_
 refine go ?_
 refine P1 results49 ?_
 exact ⟨_, rfl, bool_f (fun e => hne2 (by rw [e])), hEc⟩
 refine go ?_
 refine wl_add (by decide) rfl rfl (w64 (by omega) (by omega)) (gl ?_)
 refine wk_drop [(0, .slice Aa a.length ca), (1, .slice Ab b.length cb), (5, iv ((k + 1) : Int))] ⟨rfl, rfl, rfl, trivial⟩ (hKL1 _ _ (m2 := a.length - (k + 1)) ?_ ?_)
 refine ⟨(k + 1), rfl, ?_, ?_, ?_, ?_, ?_, rfl⟩
 omega
 rw [take_snoc 0 (by omega : k < a.length), take_snoc 0 (by omega : k < b.length), htk, Decidable.not_not.1 hne2]
 exact (ha.ext q0)
 exact (hb.ext q0)
 exact hEc
 omega
 have hkl : k = a.length := by omega
 refine go ?_
 refine P1 results49 ?_
 exact ⟨_, rfl, bool_t (by rw [hkl, List.take_length, hll, List.take_length] at htk; exact htk), hEc⟩
set_option maxHeartbeats 40000000 in
theorem sameMarks_ok {Aa : Option Addr} {ca : Nat} {a : List Mrk} {Sa : Nat → Prop} {Ab : Option Addr} {cb : Nat} {b : List Mrk} {Sb : Nat → Prop} (ha : GS markR Sa w Aa ca a) (hb : GS markR Sb w Ab cb b) : Ret prog 59 #[.slice Aa a.length ca, .slice Ab b.length cb] w (fun v w' => v = .bool (decide (a = b)) ∧ Ext w w') := by
 have mha:=ha.mx
 have mhb:=hb.mx
 refine ret_of_wk func59 rfl ntmps59 leB_ ?_
 have hEc : Ext w w := Chg.refl _ _
 refine go ?_
 refine Ln_ underlying30 rfl (go ?_)
 refine Ln_ underlying30 rfl ?_
 refine Ne_ rfl rfl (go ?_)
 refine Cd (fun hne => ?_) fun hne => ?_
 refine go ?_
 refine P1 results59 ?_
 exact ⟨_, rfl, bool_f (fun e => hne (by rw [e])), hEc⟩
 have hll : a.length = b.length := by omega
 refine go ?_
 refine wc_loop (fun L' w' mes => ∃ (k : Nat), L' = [(0, .slice Aa a.length ca), (1, .slice Ab b.length cb), (5, iv (k : Int))] ∧ (k ≤ a.length) ∧ (a.take k = b.take k) ∧ (GS markR Sa w' Aa ca a) ∧ (GS markR Sb w' Ab cb b) ∧ (Ext w w') ∧ a.length - k = mes) [(0, .slice Aa a.length ca), (1, .slice Ab b.length cb), (5, iv (0 : Int))] (a.length - 0) (by
     refine ⟨0, rfl, ?_, ?_, ?_, ?_, ?_, rfl⟩
     · omega
     · simp
     · exact ha
     · exact hb
     · exact hEc) ⟨rfl, rfl, rfl, trivial⟩ ?_
 rintro _ wr _ ⟨k, rfl, hk, htk, ha, hb, hEc, rfl⟩ KL1 hKL1
 refine go ?_
 refine Ln_ underlying30 rfl ?_
 refine Ls_ rfl rfl (go ?_)
 refine Cd (fun hlt => ?_) fun hlt => ?_
 refine go ?_
 obtain ⟨aw2, hAw2, hatw2, hIw2⟩ := markR_el ha k (by omega)
 obtain ⟨aw6, hAw6, hatw6, hIw6⟩ := markR_el hb k (by omega)
 apply wdL [.eq _,.eq _,.eq _,.eq _,.eq _,.eq _,.eq _,.eq _,.eq _]
 refine ⟨?_,?_,?_,?_,?_,?_,?_,?_,?_,trivial⟩<;>intro F wF hER hk
 exact dm (hk.qi 0)
 exact dm (hk.qi 5)
 have e17:=hk.qe 0
 have e18:=hk.qe 1
 exact wl_idx0 (by decide) sl30 e17 e18 hAw2 k rfl (by omega) qz
 exact wl_loadA (by decide) ag95 (hk.qe 2) (hatw2.ext hER).at_ rfl qz
 exact dm (hk.qi 1)
 exact dm (hk.qi 5)
 have e21:=hk.qe 4
 have e22:=hk.qe 5
 exact wl_idx0 (by decide) sl30 e21 e22 hAw6 k rfl (by omega) qz
 exact wl_loadA (by decide) ag95 (hk.qe 6) (hatw6.ext hER).at_ rfl qz
 have e20:=hk.qe 3
 have e24:=hk.qe 7
 exact wl_neqK (m := 6) ((a.getD k mark0) = (b.getD k mark0)) (by decide) key95 eg95 e20 e24 hIw2.fit hIw6.fit mark_inj qz
 intro F wD hED hini hdo
 refine wk_drop [(0, _), (1, _), (5, _), (25, _)] ⟨di hini 0, di hini 1, di hini 5, dq hdo 8, trivial⟩ ?_
 clear hini hdo
 have q0:=hED
 replace hEc:=hEc.trans hED
 refine go ?_
 refine Cd (fun hne2 => ?_) fun hne2 => ?_
 refine go ?_
 refine P1 results59 ?_
 exact ⟨_, rfl, bool_f (fun e => hne2 (by rw [e])), hEc⟩
 refine go ?_
 refine wl_add (by decide) rfl rfl (w64 (by omega) (by omega)) (gl ?_)
 refine wk_drop [(0, .slice Aa a.length ca), (1, .slice Ab b.length cb), (5, iv ((k + 1) : Int))] ⟨rfl, rfl, rfl, trivial⟩ (hKL1 _ _ (m2 := a.length - (k + 1)) ?_ ?_)
 refine ⟨(k + 1), rfl, ?_, ?_, ?_, ?_, ?_, rfl⟩
 omega
 rw [take_snoc mark0 (by omega : k < a.length), take_snoc mark0 (by omega : k < b.length), htk, Decidable.not_not.1 hne2]
 exact (ha.ext q0)
 exact (hb.ext q0)
 exact hEc
 omega
 have hkl : k = a.length := by omega
 refine go ?_
 refine P1 results59 ?_
 exact ⟨_, rfl, bool_t (by rw [hkl, List.take_length, hll, List.take_length] at htk; exact htk), hEc⟩
set_option maxHeartbeats 40000000 in
theorem sameStands_ok {Aa : Option Addr} {ca : Nat} {a : List Stn} {Sa : Nat → Prop} {Ab : Option Addr} {cb : Nat} {b : List Stn} {Sb : Nat → Prop} (ha : GS standR Sa w Aa ca a) (hb : GS standR Sb w Ab cb b) : Ret prog 60 #[.slice Aa a.length ca, .slice Ab b.length cb] w (fun v w' => v = .bool (decide (a = b)) ∧ Ext w w') := by
 have mha:=ha.mx
 have mhb:=hb.mx
 refine ret_of_wk func60 rfl ntmps60 leB_ ?_
 have hEc : Ext w w := Chg.refl _ _
 refine go ?_
 refine Ln_ underlying31 rfl (go ?_)
 refine Ln_ underlying31 rfl ?_
 refine Ne_ rfl rfl (go ?_)
 refine Cd (fun hne => ?_) fun hne => ?_
 refine go ?_
 refine P1 results60 ?_
 exact ⟨_, rfl, bool_f (fun e => hne (by rw [e])), hEc⟩
 have hll : a.length = b.length := by omega
 refine go ?_
 refine wc_loop (fun L' w' mes => ∃ (k : Nat), L' = [(0, .slice Aa a.length ca), (1, .slice Ab b.length cb), (5, iv (k : Int))] ∧ (k ≤ a.length) ∧ (a.take k = b.take k) ∧ (GS standR Sa w' Aa ca a) ∧ (GS standR Sb w' Ab cb b) ∧ (Ext w w') ∧ a.length - k = mes) [(0, .slice Aa a.length ca), (1, .slice Ab b.length cb), (5, iv (0 : Int))] (a.length - 0) (by
     refine ⟨0, rfl, ?_, ?_, ?_, ?_, ?_, rfl⟩
     · omega
     · simp
     · exact ha
     · exact hb
     · exact hEc) ⟨rfl, rfl, rfl, trivial⟩ ?_
 rintro _ wr _ ⟨k, rfl, hk, htk, ha, hb, hEc, rfl⟩ KL1 hKL1
 refine go ?_
 refine Ln_ underlying31 rfl ?_
 refine Ls_ rfl rfl (go ?_)
 refine Cd (fun hlt => ?_) fun hlt => ?_
 refine go ?_
 obtain ⟨aw2, hAw2, hatw2, hIw2⟩ := standR_el ha k (by omega)
 obtain ⟨aw6, hAw6, hatw6, hIw6⟩ := standR_el hb k (by omega)
 apply wdL [.eq _,.eq _,.eq _,.eq _,.eq _,.eq _,.eq _,.eq _,.eq _]
 refine ⟨?_,?_,?_,?_,?_,?_,?_,?_,?_,trivial⟩<;>intro F wF hER hk
 exact dm (hk.qi 0)
 exact dm (hk.qi 5)
 have e17:=hk.qe 0
 have e18:=hk.qe 1
 exact wl_idx0 (by decide) sl31 e17 e18 hAw2 k rfl (by omega) qz
 exact wl_loadA (by decide) ag97 (hk.qe 2) (hatw2.ext hER).at_ rfl qz
 exact dm (hk.qi 1)
 exact dm (hk.qi 5)
 have e21:=hk.qe 4
 have e22:=hk.qe 5
 exact wl_idx0 (by decide) sl31 e21 e22 hAw6 k rfl (by omega) qz
 exact wl_loadA (by decide) ag97 (hk.qe 6) (hatw6.ext hER).at_ rfl qz
 have e20:=hk.qe 3
 have e24:=hk.qe 7
 exact wl_neqK (m := 6) ((a.getD k stand0) = (b.getD k stand0)) (by decide) key97 eg97 e20 e24 hIw2.fit hIw6.fit stand_inj qz
 intro F wD hED hini hdo
 refine wk_drop [(0, _), (1, _), (5, _), (25, _)] ⟨di hini 0, di hini 1, di hini 5, dq hdo 8, trivial⟩ ?_
 clear hini hdo
 have q0:=hED
 replace hEc:=hEc.trans hED
 refine go ?_
 refine Cd (fun hne2 => ?_) fun hne2 => ?_
 refine go ?_
 refine P1 results60 ?_
 exact ⟨_, rfl, bool_f (fun e => hne2 (by rw [e])), hEc⟩
 refine go ?_
 refine wl_add (by decide) rfl rfl (w64 (by omega) (by omega)) (gl ?_)
 refine wk_drop [(0, .slice Aa a.length ca), (1, .slice Ab b.length cb), (5, iv ((k + 1) : Int))] ⟨rfl, rfl, rfl, trivial⟩ (hKL1 _ _ (m2 := a.length - (k + 1)) ?_ ?_)
 refine ⟨(k + 1), rfl, ?_, ?_, ?_, ?_, ?_, rfl⟩
 omega
 rw [take_snoc stand0 (by omega : k < a.length), take_snoc stand0 (by omega : k < b.length), htk, Decidable.not_not.1 hne2]
 exact (ha.ext q0)
 exact (hb.ext q0)
 exact hEc
 omega
 have hkl : k = a.length := by omega
 refine go ?_
 refine P1 results60 ?_
 exact ⟨_, rfl, bool_t (by rw [hkl, List.take_length, hll, List.take_length] at htk; exact htk), hEc⟩
set_option maxHeartbeats 40000000 in
theorem seqI_ok {Aa : Option Addr} {ca : Nat} {a : List Int} {Sa : Nat → Prop} {Ab : Option Addr} {cb : Nat} {b : List Int} {Sb : Nat → Prop} (ha : GS intR Sa w Aa ca a) (hb : GS intR Sb w Ab cb b) : Ret prog 67 #[.slice Aa a.length ca, .slice Ab b.length cb] w (fun v w' => v = .bool (decide (a = b)) ∧ Ext w w') := by
 have mha:=ha.mx
 have mhb:=hb.mx
 refine ret_of_wk func67 rfl ntmps67 leB_ ?_
 have hEc : Ext w w := Chg.refl _ _
 refine go ?_
 refine Ln_ underlying27 rfl (go ?_)
 refine Ln_ underlying27 rfl ?_
 refine Ne_ rfl rfl (go ?_)
 refine Cd (fun hne => ?_) fun hne => ?_
 refine go ?_
 refine P1 results67 ?_
 exact ⟨_, rfl, bool_f (fun e => hne (by rw [e])), hEc⟩
 have hll : a.length = b.length := by omega
 refine go ?_
 refine Ln_ underlying27 rfl (go ?_)
 refine wc_loop (fun L' w' mes => ∃ (k : Nat), L' = [(0, .slice Aa a.length ca), (1, .slice Ab b.length cb), (12, iv (a.length : Int)), (13, iv (k : Int))] ∧ (k ≤ a.length) ∧ (a.take k = b.take k) ∧ (GS intR Sa w' Aa ca a) ∧ (GS intR Sb w' Ab cb b) ∧ (Ext w w') ∧ a.length - k = mes) [(0, .slice Aa a.length ca), (1, .slice Ab b.length cb), (12, iv (a.length : Int)), (13, iv (0 : Int))] (a.length - 0) (by
     refine ⟨0, rfl, ?_, ?_, ?_, ?_, ?_, rfl⟩
     · omega
     · simp
     · exact ha
     · exact hb
     · exact hEc) ⟨rfl, rfl, rfl, rfl, trivial⟩ ?_
 rintro _ wr _ ⟨k, rfl, hk, htk, ha, hb, hEc, rfl⟩ KL1 hKL1
 refine go ?_
 refine Ls_ rfl rfl (go ?_)
 refine Cd (fun hlt => ?_) fun hlt => ?_
 refine go ?_
 obtain ⟨aw2, hAw2, hatw2⟩ := GS.elI ha k (by omega)
 obtain ⟨aw6, hAw6, hatw6⟩ := GS.elI hb k (by omega)
 apply wdL [.eq _,.eq _,.eq _,.eq _,.eq _,.eq _,.eq _,.eq _,.eq _]
 refine ⟨?_,?_,?_,?_,?_,?_,?_,?_,?_,trivial⟩<;>intro F wF hER hk
 exact dm (hk.qi 0)
 exact dm (hk.qi 5)
 have e16:=hk.qe 0
 have e17:=hk.qe 1
 exact wl_idx0 (by decide) sl27 e16 e17 hAw2 k rfl (by omega) qz
 exact Ld_ sc3 (hk.qe 2) (hatw2.ext hER).head qz
 exact dm (hk.qi 1)
 exact dm (hk.qi 5)
 have e20:=hk.qe 4
 have e21:=hk.qe 5
 exact wl_idx0 (by decide) sl27 e20 e21 hAw6 k rfl (by omega) qz
 exact Ld_ sc3 (hk.qe 6) (hatw6.ext hER).head qz
 have e19:=hk.qe 3
 have e23:=hk.qe 7
 exact Ne_ e19 e23 qz
 intro F wD hED hini hdo
 refine wk_drop [(0, _), (1, _), (12, _), (13, _), (24, _)] ⟨di hini 0, di hini 1, di hini 12, di hini 13, dq hdo 8, trivial⟩ ?_
 clear hini hdo
 have q0:=hED
 replace hEc:=hEc.trans hED
 refine go ?_
 refine Cd (fun hne2 => ?_) fun hne2 => ?_
 refine go ?_
 refine P1 results67 ?_
 exact ⟨_, rfl, bool_f (fun e => hne2 (by rw [e])), hEc⟩
 refine go ?_
 refine wl_add (by decide) rfl rfl (w64 (by omega) (by omega)) (gl ?_)
 refine wk_drop [(0, .slice Aa a.length ca), (1, .slice Ab b.length cb), (12, iv (a.length : Int)), (13, iv ((k + 1) : Int))] ⟨rfl, rfl, rfl, rfl, trivial⟩ (hKL1 _ _ (m2 := a.length - (k + 1)) ?_ ?_)
 refine ⟨(k + 1), rfl, ?_, ?_, ?_, ?_, ?_, rfl⟩
 omega
 rw [take_snoc 0 (by omega : k < a.length), take_snoc 0 (by omega : k < b.length), htk, Decidable.not_not.1 hne2]
 exact (ha.ext q0)
 exact (hb.ext q0)
 exact hEc
 omega
 have hkl : k = a.length := by omega
 refine go ?_
 refine P1 results67 ?_
 exact ⟨_, rfl, bool_t (by rw [hkl, List.take_length, hll, List.take_length] at htk; exact htk), hEc⟩
set_option maxHeartbeats 40000000 in
theorem seqM_ok {Aa : Option Addr} {ca : Nat} {a : List Mrk} {Sa : Nat → Prop} {Ab : Option Addr} {cb : Nat} {b : List Mrk} {Sb : Nat → Prop} (ha : GS markR Sa w Aa ca a) (hb : GS markR Sb w Ab cb b) : Ret prog 117 #[.slice Aa a.length ca, .slice Ab b.length cb] w (fun v w' => v = .bool (decide (a = b)) ∧ Ext w w') := by
 have mha:=ha.mx
 have mhb:=hb.mx
 refine ret_of_wk func117 rfl ntmps117 leB_ ?_
 have hEc : Ext w w := Chg.refl _ _
 refine go ?_
 refine Ln_ underlying30 rfl (go ?_)
 refine Ln_ underlying30 rfl ?_
 refine Ne_ rfl rfl (go ?_)
 refine Cd (fun hne => ?_) fun hne => ?_
 refine go ?_
 refine P1 results117 ?_
 exact ⟨_, rfl, bool_f (fun e => hne (by rw [e])), hEc⟩
 have hll : a.length = b.length := by omega
 refine go ?_
 refine Ln_ underlying30 rfl (go ?_)
 refine wc_loop (fun L' w' mes => ∃ (k : Nat), L' = [(0, .slice Aa a.length ca), (1, .slice Ab b.length cb), (12, iv (a.length : Int)), (13, iv (k : Int))] ∧ (k ≤ a.length) ∧ (a.take k = b.take k) ∧ (GS markR Sa w' Aa ca a) ∧ (GS markR Sb w' Ab cb b) ∧ (Ext w w') ∧ a.length - k = mes) [(0, .slice Aa a.length ca), (1, .slice Ab b.length cb), (12, iv (a.length : Int)), (13, iv (0 : Int))] (a.length - 0) (by
     refine ⟨0, rfl, ?_, ?_, ?_, ?_, ?_, rfl⟩
     · omega
     · simp
     · exact ha
     · exact hb
     · exact hEc) ⟨rfl, rfl, rfl, rfl, trivial⟩ ?_
 rintro _ wr _ ⟨k, rfl, hk, htk, ha, hb, hEc, rfl⟩ KL1 hKL1
 refine go ?_
 refine Ls_ rfl rfl (go ?_)
 refine Cd (fun hlt => ?_) fun hlt => ?_
 refine go ?_
 obtain ⟨aw2, hAw2, hatw2, hIw2⟩ := markR_el ha k (by omega)
 obtain ⟨aw6, hAw6, hatw6, hIw6⟩ := markR_el hb k (by omega)
 apply wdL [.eq _,.eq _,.eq _,.eq _,.eq _,.eq _,.eq _,.eq _,.eq _]
 refine ⟨?_,?_,?_,?_,?_,?_,?_,?_,?_,trivial⟩<;>intro F wF hER hk
 exact dm (hk.qi 0)
 exact dm (hk.qi 5)
 have e16:=hk.qe 0
 have e17:=hk.qe 1
 exact wl_idx0 (by decide) sl30 e16 e17 hAw2 k rfl (by omega) qz
 exact wl_loadA (by decide) ag95 (hk.qe 2) (hatw2.ext hER).at_ rfl qz
 exact dm (hk.qi 1)
 exact dm (hk.qi 5)
 have e20:=hk.qe 4
 have e21:=hk.qe 5
 exact wl_idx0 (by decide) sl30 e20 e21 hAw6 k rfl (by omega) qz
 exact wl_loadA (by decide) ag95 (hk.qe 6) (hatw6.ext hER).at_ rfl qz
 have e19:=hk.qe 3
 have e23:=hk.qe 7
 exact wl_neqK (m := 6) ((a.getD k mark0) = (b.getD k mark0)) (by decide) key95 eg95 e19 e23 hIw2.fit hIw6.fit mark_inj qz
 intro F wD hED hini hdo
 refine wk_drop [(0, _), (1, _), (12, _), (13, _), (24, _)] ⟨di hini 0, di hini 1, di hini 12, di hini 13, dq hdo 8, trivial⟩ ?_
 clear hini hdo
 have q0:=hED
 replace hEc:=hEc.trans hED
 refine go ?_
 refine Cd (fun hne2 => ?_) fun hne2 => ?_
 refine go ?_
 refine P1 results117 ?_
 exact ⟨_, rfl, bool_f (fun e => hne2 (by rw [e])), hEc⟩
 refine go ?_
 refine wl_add (by decide) rfl rfl (w64 (by omega) (by omega)) (gl ?_)
 refine wk_drop [(0, .slice Aa a.length ca), (1, .slice Ab b.length cb), (12, iv (a.length : Int)), (13, iv ((k + 1) : Int))] ⟨rfl, rfl, rfl, rfl, trivial⟩ (hKL1 _ _ (m2 := a.length - (k + 1)) ?_ ?_)
 refine ⟨(k + 1), rfl, ?_, ?_, ?_, ?_, ?_, rfl⟩
 omega
 rw [take_snoc mark0 (by omega : k < a.length), take_snoc mark0 (by omega : k < b.length), htk, Decidable.not_not.1 hne2]
 exact (ha.ext q0)
 exact (hb.ext q0)
 exact hEc
 omega
 have hkl : k = a.length := by omega
 refine go ?_
 refine P1 results117 ?_
 exact ⟨_, rfl, bool_t (by rw [hkl, List.take_length, hll, List.take_length] at htk; exact htk), hEc⟩
set_option maxHeartbeats 40000000 in
theorem seqS_ok {Aa : Option Addr} {ca : Nat} {a : List Stn} {Sa : Nat → Prop} {Ab : Option Addr} {cb : Nat} {b : List Stn} {Sb : Nat → Prop} (ha : GS standR Sa w Aa ca a) (hb : GS standR Sb w Ab cb b) : Ret prog 118 #[.slice Aa a.length ca, .slice Ab b.length cb] w (fun v w' => v = .bool (decide (a = b)) ∧ Ext w w') := by
 have mha:=ha.mx
 have mhb:=hb.mx
 refine ret_of_wk func118 rfl ntmps118 leB_ ?_
 have hEc : Ext w w := Chg.refl _ _
 refine go ?_
 refine Ln_ underlying31 rfl (go ?_)
 refine Ln_ underlying31 rfl ?_
 refine Ne_ rfl rfl (go ?_)
 refine Cd (fun hne => ?_) fun hne => ?_
 refine go ?_
 refine P1 results118 ?_
 exact ⟨_, rfl, bool_f (fun e => hne (by rw [e])), hEc⟩
 have hll : a.length = b.length := by omega
 refine go ?_
 refine Ln_ underlying31 rfl (go ?_)
 refine wc_loop (fun L' w' mes => ∃ (k : Nat), L' = [(0, .slice Aa a.length ca), (1, .slice Ab b.length cb), (12, iv (a.length : Int)), (13, iv (k : Int))] ∧ (k ≤ a.length) ∧ (a.take k = b.take k) ∧ (GS standR Sa w' Aa ca a) ∧ (GS standR Sb w' Ab cb b) ∧ (Ext w w') ∧ a.length - k = mes) [(0, .slice Aa a.length ca), (1, .slice Ab b.length cb), (12, iv (a.length : Int)), (13, iv (0 : Int))] (a.length - 0) (by
     refine ⟨0, rfl, ?_, ?_, ?_, ?_, ?_, rfl⟩
     · omega
     · simp
     · exact ha
     · exact hb
     · exact hEc) ⟨rfl, rfl, rfl, rfl, trivial⟩ ?_
 rintro _ wr _ ⟨k, rfl, hk, htk, ha, hb, hEc, rfl⟩ KL1 hKL1
 refine go ?_
 refine Ls_ rfl rfl (go ?_)
 refine Cd (fun hlt => ?_) fun hlt => ?_
 refine go ?_
 obtain ⟨aw2, hAw2, hatw2, hIw2⟩ := standR_el ha k (by omega)
 obtain ⟨aw6, hAw6, hatw6, hIw6⟩ := standR_el hb k (by omega)
 apply wdL [.eq _,.eq _,.eq _,.eq _,.eq _,.eq _,.eq _,.eq _,.eq _]
 refine ⟨?_,?_,?_,?_,?_,?_,?_,?_,?_,trivial⟩<;>intro F wF hER hk
 exact dm (hk.qi 0)
 exact dm (hk.qi 5)
 have e16:=hk.qe 0
 have e17:=hk.qe 1
 exact wl_idx0 (by decide) sl31 e16 e17 hAw2 k rfl (by omega) qz
 exact wl_loadA (by decide) ag97 (hk.qe 2) (hatw2.ext hER).at_ rfl qz
 exact dm (hk.qi 1)
 exact dm (hk.qi 5)
 have e20:=hk.qe 4
 have e21:=hk.qe 5
 exact wl_idx0 (by decide) sl31 e20 e21 hAw6 k rfl (by omega) qz
 exact wl_loadA (by decide) ag97 (hk.qe 6) (hatw6.ext hER).at_ rfl qz
 have e19:=hk.qe 3
 have e23:=hk.qe 7
 exact wl_neqK (m := 6) ((a.getD k stand0) = (b.getD k stand0)) (by decide) key97 eg97 e19 e23 hIw2.fit hIw6.fit stand_inj qz
 intro F wD hED hini hdo
 refine wk_drop [(0, _), (1, _), (12, _), (13, _), (24, _)] ⟨di hini 0, di hini 1, di hini 12, di hini 13, dq hdo 8, trivial⟩ ?_
 clear hini hdo
 have q0:=hED
 replace hEc:=hEc.trans hED
 refine go ?_
 refine Cd (fun hne2 => ?_) fun hne2 => ?_
 refine go ?_
 refine P1 results118 ?_
 exact ⟨_, rfl, bool_f (fun e => hne2 (by rw [e])), hEc⟩
 refine go ?_
 refine wl_add (by decide) rfl rfl (w64 (by omega) (by omega)) (gl ?_)
 refine wk_drop [(0, .slice Aa a.length ca), (1, .slice Ab b.length cb), (12, iv (a.length : Int)), (13, iv ((k + 1) : Int))] ⟨rfl, rfl, rfl, rfl, trivial⟩ (hKL1 _ _ (m2 := a.length - (k + 1)) ?_ ?_)
 refine ⟨(k + 1), rfl, ?_, ?_, ?_, ?_, ?_, rfl⟩
 omega
 rw [take_snoc stand0 (by omega : k < a.length), take_snoc stand0 (by omega : k < b.length), htk, Decidable.not_not.1 hne2]
 exact (ha.ext q0)
 exact (hb.ext q0)
 exact hEc
 omega
 have hkl : k = a.length := by omega
 refine go ?_
 refine P1 results118 ?_
 exact ⟨_, rfl, bool_t (by rw [hkl, List.take_length, hll, List.take_length] at htk; exact htk), hEc⟩
set_option maxHeartbeats 40000000 in
theorem seqD_ok {Aa : Option Addr} {ca : Nat} {a : List Dig} {Sa : Nat → Prop} {Ab : Option Addr} {cb : Nat} {b : List Dig} {Sb : Nat → Prop} (ha : GS digR Sa w Aa ca a) (hb : GS digR Sb w Ab cb b) : Ret prog 73 #[.slice Aa a.length ca, .slice Ab b.length cb] w (fun v w' => v = .bool (decide (a = b)) ∧ Ext w w') := by
 have mha:=ha.mx
 have mhb:=hb.mx
 refine ret_of_wk func73 rfl ntmps73 leB_ ?_
 have hEc : Ext w w := Chg.refl _ _
 refine go ?_
 refine Ln_ underlying36 rfl (go ?_)
 refine Ln_ underlying36 rfl ?_
 refine Ne_ rfl rfl (go ?_)
 refine Cd (fun hne => ?_) fun hne => ?_
 refine go ?_
 refine P1 results73 ?_
 exact ⟨_, rfl, bool_f (fun e => hne (by rw [e])), hEc⟩
 have hll : a.length = b.length := by omega
 refine go ?_
 refine Ln_ underlying36 rfl (go ?_)
 refine wc_loop (fun L' w' mes => ∃ (k : Nat), L' = [(0, .slice Aa a.length ca), (1, .slice Ab b.length cb), (12, iv (a.length : Int)), (13, iv (k : Int))] ∧ (k ≤ a.length) ∧ (a.take k = b.take k) ∧ (GS digR Sa w' Aa ca a) ∧ (GS digR Sb w' Ab cb b) ∧ (Ext w w') ∧ a.length - k = mes) [(0, .slice Aa a.length ca), (1, .slice Ab b.length cb), (12, iv (a.length : Int)), (13, iv (0 : Int))] (a.length - 0) (by
     refine ⟨0, rfl, ?_, ?_, ?_, ?_, ?_, rfl⟩
     · omega
     · simp
     · exact ha
     · exact hb
     · exact hEc) ⟨rfl, rfl, rfl, rfl, trivial⟩ ?_
 rintro _ wr _ ⟨k, rfl, hk, htk, ha, hb, hEc, rfl⟩ KL1 hKL1
 refine go ?_
 refine Ls_ rfl rfl (go ?_)
 refine Cd (fun hlt => ?_) fun hlt => ?_
 refine go ?_
 obtain ⟨aw2, hAw2, hatw2⟩ := GS.elD ha k (by omega)
 obtain ⟨aw6, hAw6, hatw6⟩ := GS.elD hb k (by omega)
 apply wdL [.eq _,.eq _,.eq _,.eq _,.eq _,.eq _,.eq _,.eq _,.eq _]
 refine ⟨?_,?_,?_,?_,?_,?_,?_,?_,?_,trivial⟩<;>intro F wF hER hk
 exact dm (hk.qi 0)
 exact dm (hk.qi 5)
 have e16:=hk.qe 0
 have e17:=hk.qe 1
 exact wl_idx0 (by decide) sl36 e16 e17 hAw2 k rfl (by omega) qz
 exact wl_loadA (by decide) ag23 (hk.qe 2) ((hatw2.ext hER).at_.take 32) rfl qz
 exact dm (hk.qi 1)
 exact dm (hk.qi 5)
 have e20:=hk.qe 4
 have e21:=hk.qe 5
 exact wl_idx0 (by decide) sl36 e20 e21 hAw6 k rfl (by omega) qz
 exact wl_loadA (by decide) ag23 (hk.qe 6) ((hatw6.ext hER).at_.take 32) rfl qz
 have e19:=hk.qe 3
 have e23:=hk.qe 7
 exact wl_neqK (m := 6) ((a.getD k dig0) = (b.getD k dig0)) (by decide) key23 eg23 e19 e23 (digC_fit _) (digC_fit _) digC_inj qz
 intro F wD hED hini hdo
 refine wk_drop [(0, _), (1, _), (12, _), (13, _), (24, _)] ⟨di hini 0, di hini 1, di hini 12, di hini 13, dq hdo 8, trivial⟩ ?_
 clear hini hdo
 have q0:=hED
 replace hEc:=hEc.trans hED
 refine go ?_
 refine Cd (fun hne2 => ?_) fun hne2 => ?_
 refine go ?_
 refine P1 results73 ?_
 exact ⟨_, rfl, bool_f (fun e => hne2 (by rw [e])), hEc⟩
 refine go ?_
 refine wl_add (by decide) rfl rfl (w64 (by omega) (by omega)) (gl ?_)
 refine wk_drop [(0, .slice Aa a.length ca), (1, .slice Ab b.length cb), (12, iv (a.length : Int)), (13, iv ((k + 1) : Int))] ⟨rfl, rfl, rfl, rfl, trivial⟩ (hKL1 _ _ (m2 := a.length - (k + 1)) ?_ ?_)
 refine ⟨(k + 1), rfl, ?_, ?_, ?_, ?_, ?_, rfl⟩
 omega
 rw [take_snoc dig0 (by omega : k < a.length), take_snoc dig0 (by omega : k < b.length), htk, Decidable.not_not.1 hne2]
 exact (ha.ext q0)
 exact (hb.ext q0)
 exact hEc
 omega
 have hkl : k = a.length := by omega
 refine go ?_
 refine P1 results73 ?_
 exact ⟨_, rfl, bool_t (by rw [hkl, List.take_length, hll, List.take_length] at htk; exact htk), hEc⟩
set_option maxHeartbeats 4000000 in
theorem bequal_ok {Aa : Option Addr} {ca : Nat} {a : List UInt8} {Sa : Nat → Prop} {Ab : Option Addr} {cb : Nat} {b : List UInt8} {Sb : Nat → Prop} {w : World} (ha : GS byteR Sa w Aa ca a) (hb : GS byteR Sb w Ab cb b) : Ret Tryz.prog 66 #[.slice Aa a.length ca, .slice Ab b.length cb] w (fun v w' => v = .bool (decide (a = b)) ∧ Ext w w') := by
 have mha := ha.mx
 have mhb := hb.mx
 refine ret_of_wk Tryz.func66 rfl Tryz.ntmps66 (Nat.le_of_ble_eq_true rfl) ?_
 have hEc : Ext w w := Chg.refl _ _
 refine wc_seq ?_
 refine wc_region ?_
 refine wl_assign (by decide) rfl ?_
 refine wl_nil ?_
 refine wk_norm ?_
 refine wc_seq ?_
 refine wc_region ?_
 refine wl_move (by decide) rfl ?_
 refine wl_b2s (by decide) Tryz.underlying26 Tryz.underlying5 Tryz.underlying9 rfl ha ?_
 refine wl_move (by decide) rfl ?_
 refine wl_b2s (by decide) Tryz.underlying26 Tryz.underlying5 Tryz.underlying9 rfl hb ?_
 refine wl_eqls (by decide) rfl rfl ?_
 refine wl_assign (by decide) rfl ?_
 refine wl_nil ?_
 refine wk_norm ?_
 refine wc_ret ?_
 refine wk_post1 (.inl rfl) Tryz.results66 rfl ?_
 exact ⟨_, rfl, rfl, hEc⟩
set_option maxHeartbeats 40000000 in
theorem r12SameChange_ok {csa : List Value} {a : Chn} {Sa : Nat → Prop} {csb : List Value} {b : Chn} {Sb : Nat → Prop} (ha : changeR.rd Sa w csa a) (hb : changeR.rd Sb w csb b) : Ret prog 32 #[.agg csa.toArray, .agg csb.toArray] w (fun v w' => v = .bool (decide (a = b)) ∧ Ext w w') := by
 obtain ⟨hIa, Aa0, ca0, Aa1, ca1, Aa2, ca2, rfl, ha0, ha1, ha2⟩ := ha
 obtain ⟨hIb, Ab0, cb0, Ab1, cb1, Ab2, cb2, rfl, hb0, hb1, hb2⟩ := hb
 have mha0:=ha0.mx
 have mha1:=ha1.mx
 have mha2:=ha2.mx
 have mhb0:=hb0.mx
 have mhb1:=hb1.mx
 have mhb2:=hb2.mx
 refine ret_of_wk func32 rfl ntmps32 leB_ ?_
 have hp:=HP.begin_ w
 replace ha0:=ha0.now
 replace ha1:=ha1.now
 replace ha2:=ha2.now
 replace hb0:=hb0.now
 replace hb1:=hb1.now
 replace hb2:=hb2.now
 refine go ?_
 refine wl_hbox (by decide) rfl hp ?_
 rintro gs2 w1 hp1 hE1
 have q0:=hE1
 replace hp:=hp1
 refine wl_hbox (by decide) rfl hp ?_
 rintro gs3 w2 hp2 hE2
 replace q0:=q0.trans hE2
 replace hp:=hp2
 refine go ?_
 refine Fd_ 0 fld33_0 rfl rfl ?_
 refine Hl_ 1 sc3 rfl hp rfl rfl ?_
 refine Fd_ 0 fld33_0 rfl rfl ?_
 refine Hl_ 0 sc3 rfl hp rfl rfl ?_
 refine Eq_ rfl rfl (go ?_)
 refine Gs 10 (fun hg1 => ?_) fun hg1 => ?_
 refine go ?_
 refine Fd_ 1 fld33_1 rfl rfl (go ?_)
 refine Hl_ 1 sc3 rfl hp rfl rfl (go ?_)
 refine Fd_ 1 fld33_1 rfl rfl (go ?_)
 refine Hl_ 0 sc3 rfl hp rfl rfl (go ?_)
 refine Eq_ rfl rfl (go ?_)
 refine Gs 17 (fun hg2 => ?_) fun hg2 => ?_
 refine go ?_
 refine Fd_ 2 fld33_2 rfl rfl (go ?_)
 refine Hl_ 1 sc3 rfl hp rfl rfl (go ?_)
 refine Fd_ 2 fld33_2 rfl rfl (go ?_)
 refine Hl_ 0 sc3 rfl hp rfl rfl (go ?_)
 refine Eq_ rfl rfl (go ?_)
 refine Gs 24 (fun hg3 => ?_) fun hg3 => ?_
 refine go ?_
 refine Fd_ 3 fld33_3 rfl rfl (go ?_)
 refine Hl_ 1 sc30 rfl hp rfl rfl (go ?_)
 refine Fd_ 3 fld33_3 rfl rfl (go ?_)
 refine Hl_ 0 sc30 rfl hp rfl rfl (go ?_)
 have hcl:=sameMarks_ok (ha0.ext q0) (hb0.ext q0)
 refine Cl_ cl59 rfl hcl ?_
 clear hcl
 rintro _ w3 ⟨rfl, hE3⟩
 replace q0:=q0.trans hE3
 replace hp:=hp.ext hE3
 refine go ?_
 refine Gs 31 (fun hg4 => ?_) fun hg4 => ?_
 refine go ?_
 refine Fd_ 4 fld33_4 rfl rfl (go ?_)
 refine Hl_ 1 sc31 rfl hp rfl rfl (go ?_)
 refine Fd_ 4 fld33_4 rfl rfl (go ?_)
 refine Hl_ 0 sc31 rfl hp rfl rfl (go ?_)
 have hcl:=sameStands_ok (ha1.ext q0) (hb1.ext q0)
 refine Cl_ cl60 rfl hcl ?_
 clear hcl
 rintro _ w4 ⟨rfl, hE4⟩
 replace q0:=q0.trans hE4
 replace hp:=hp.ext hE4
 refine go ?_
 refine Gs 38 (fun hg5 => ?_) fun hg5 => ?_
 refine go ?_
 refine Fd_ 5 fld33_5 rfl rfl (go ?_)
 refine Hl_ 1 sc31 rfl hp rfl rfl (go ?_)
 refine Fd_ 5 fld33_5 rfl rfl (go ?_)
 refine Hl_ 0 sc31 rfl hp rfl rfl (go ?_)
 have hcl:=sameStands_ok (ha2.ext q0) (hb2.ext q0)
 refine Cl_ cl60 rfl hcl ?_
 clear hcl
 rintro _ w5 ⟨rfl, hE5⟩
 replace hp:=hp.ext hE5
 refine go ?_
 refine P1 results32 ?_
 exact ⟨_, rfl, congrArg Value.bool (decide_eq_decide.2 (by rw [Chn_eq]; simp_all)), hp.chg⟩
 refine go ?_
 refine P1 results32 ?_
 exact ⟨_, rfl, bool_f (by rw [Chn_eq]; simp_all), hp.chg⟩
 refine go ?_
 refine P1 results32 ?_
 exact ⟨_, rfl, bool_f (by rw [Chn_eq]; simp_all), hp.chg⟩
 refine go ?_
 refine P1 results32 ?_
 exact ⟨_, rfl, bool_f (by rw [Chn_eq]; simp_all), hp.chg⟩
 refine go ?_
 refine P1 results32 ?_
 exact ⟨_, rfl, bool_f (by rw [Chn_eq]; simp_all), hp.chg⟩
 refine go ?_
 refine P1 results32 ?_
 exact ⟨_, rfl, bool_f (by rw [Chn_eq]; simp_all), hp.chg⟩
set_option maxHeartbeats 40000000 in
theorem nSameChange_ok {csa : List Value} {a : Chn} {Sa : Nat → Prop} {csb : List Value} {b : Chn} {Sb : Nat → Prop} (ha : changeR.rd Sa w csa a) (hb : changeR.rd Sb w csb b) : Ret prog 71 #[.agg csa.toArray, .agg csb.toArray] w (fun v w' => v = .bool (decide (a = b)) ∧ Ext w w') := by
 obtain ⟨hIa, Aa0, ca0, Aa1, ca1, Aa2, ca2, rfl, ha0, ha1, ha2⟩ := ha
 obtain ⟨hIb, Ab0, cb0, Ab1, cb1, Ab2, cb2, rfl, hb0, hb1, hb2⟩ := hb
 have mha0:=ha0.mx
 have mha1:=ha1.mx
 have mha2:=ha2.mx
 have mhb0:=hb0.mx
 have mhb1:=hb1.mx
 have mhb2:=hb2.mx
 refine ret_of_wk func71 rfl ntmps71 leB_ ?_
 have hp:=HP.begin_ w
 replace ha0:=ha0.now
 replace ha1:=ha1.now
 replace ha2:=ha2.now
 replace hb0:=hb0.now
 replace hb1:=hb1.now
 replace hb2:=hb2.now
 refine go ?_
 refine wl_hbox (by decide) rfl hp ?_
 rintro gs2 w1 hp1 hE1
 have q0:=hE1
 replace hp:=hp1
 refine wl_hbox (by decide) rfl hp ?_
 rintro gs3 w2 hp2 hE2
 replace q0:=q0.trans hE2
 replace hp:=hp2
 refine go ?_
 refine Fd_ 0 fld33_0 rfl rfl ?_
 refine Hl_ 1 sc3 rfl hp rfl rfl ?_
 refine Fd_ 0 fld33_0 rfl rfl ?_
 refine Hl_ 0 sc3 rfl hp rfl rfl ?_
 refine Eq_ rfl rfl (go ?_)
 refine Gs 10 (fun hg1 => ?_) fun hg1 => ?_
 refine go ?_
 refine Fd_ 1 fld33_1 rfl rfl (go ?_)
 refine Hl_ 1 sc3 rfl hp rfl rfl (go ?_)
 refine Fd_ 1 fld33_1 rfl rfl (go ?_)
 refine Hl_ 0 sc3 rfl hp rfl rfl (go ?_)
 refine Eq_ rfl rfl (go ?_)
 refine Gs 17 (fun hg2 => ?_) fun hg2 => ?_
 refine go ?_
 refine Fd_ 2 fld33_2 rfl rfl (go ?_)
 refine Hl_ 1 sc3 rfl hp rfl rfl (go ?_)
 refine Fd_ 2 fld33_2 rfl rfl (go ?_)
 refine Hl_ 0 sc3 rfl hp rfl rfl (go ?_)
 refine Eq_ rfl rfl (go ?_)
 refine Gs 24 (fun hg3 => ?_) fun hg3 => ?_
 refine go ?_
 refine Fd_ 3 fld33_3 rfl rfl (go ?_)
 refine Hl_ 1 sc30 rfl hp rfl rfl (go ?_)
 refine Fd_ 3 fld33_3 rfl rfl (go ?_)
 refine Hl_ 0 sc30 rfl hp rfl rfl (go ?_)
 have hcl:=seqM_ok (ha0.ext q0) (hb0.ext q0)
 refine Cl_ cl117 rfl hcl ?_
 clear hcl
 rintro _ w3 ⟨rfl, hE3⟩
 replace q0:=q0.trans hE3
 replace hp:=hp.ext hE3
 refine go ?_
 refine Gs 31 (fun hg4 => ?_) fun hg4 => ?_
 refine go ?_
 refine Fd_ 4 fld33_4 rfl rfl (go ?_)
 refine Hl_ 1 sc31 rfl hp rfl rfl (go ?_)
 refine Fd_ 4 fld33_4 rfl rfl (go ?_)
 refine Hl_ 0 sc31 rfl hp rfl rfl (go ?_)
 have hcl:=seqS_ok (ha1.ext q0) (hb1.ext q0)
 refine Cl_ cl118 rfl hcl ?_
 clear hcl
 rintro _ w4 ⟨rfl, hE4⟩
 replace q0:=q0.trans hE4
 replace hp:=hp.ext hE4
 refine go ?_
 refine Gs 38 (fun hg5 => ?_) fun hg5 => ?_
 refine go ?_
 refine Fd_ 5 fld33_5 rfl rfl (go ?_)
 refine Hl_ 1 sc31 rfl hp rfl rfl (go ?_)
 refine Fd_ 5 fld33_5 rfl rfl (go ?_)
 refine Hl_ 0 sc31 rfl hp rfl rfl (go ?_)
 have hcl:=seqS_ok (ha2.ext q0) (hb2.ext q0)
 refine Cl_ cl118 rfl hcl ?_
 clear hcl
 rintro _ w5 ⟨rfl, hE5⟩
 replace hp:=hp.ext hE5
 refine go ?_
 refine P1 results71 ?_
 exact ⟨_, rfl, congrArg Value.bool (decide_eq_decide.2 (by rw [Chn_eq]; simp_all)), hp.chg⟩
 refine go ?_
 refine P1 results71 ?_
 exact ⟨_, rfl, bool_f (by rw [Chn_eq]; simp_all), hp.chg⟩
 refine go ?_
 refine P1 results71 ?_
 exact ⟨_, rfl, bool_f (by rw [Chn_eq]; simp_all), hp.chg⟩
 refine go ?_
 refine P1 results71 ?_
 exact ⟨_, rfl, bool_f (by rw [Chn_eq]; simp_all), hp.chg⟩
 refine go ?_
 refine P1 results71 ?_
 exact ⟨_, rfl, bool_f (by rw [Chn_eq]; simp_all), hp.chg⟩
 refine go ?_
 refine P1 results71 ?_
 exact ⟨_, rfl, bool_f (by rw [Chn_eq]; simp_all), hp.chg⟩
def plain8 (w : Wsh) : List Int := [w.client, w.stamp, w.group, w.epoch, w.kind, w.block, w.old, w.new]
def P8C (w : Wsh) : List Value := [.int .i64 w.client, .int .i64 w.stamp, .int .i64 w.group, .int .i64 w.epoch, .int .i64 w.kind, .int .i64 w.block, .int .i64 w.old, .int .i64 w.new]
theorem plain8_inj {a b : Wsh} : plain8 a = plain8 b ↔ P8C a = P8C b := by simp [plain8, P8C]
theorem WshI.fit {w : Wsh} (h : WshI w) : FitK [some .i64, some .i64, some .i64, some .i64, some .i64, some .i64, some .i64, some .i64] (P8C w) := by
 obtain ⟨h1, h2, h3, h4, h5, h6, h7, h8⟩ := h
 exact FitK.cons (fit_int h1.1 h1.2) (FitK.cons (fit_int h2.1 h2.2) (FitK.cons (fit_int h3.1 h3.2) (FitK.cons (fit_int h4.1 h4.2) (FitK.cons (fit_int h5.1 h5.2) (FitK.cons (fit_int h6.1 h6.2) (FitK.cons (fit_int h7.1 h7.2) (FitK.cons (fit_int h8.1 h8.2) FitK.nil)))))))
theorem plain8_iff {a b : Wsh} : plain8 a = plain8 b ↔ a.client = b.client ∧ a.stamp = b.stamp ∧ a.group = b.group ∧ a.epoch = b.epoch ∧ a.kind = b.kind ∧ a.block = b.block ∧ a.old = b.old ∧ a.new = b.new := by simp [plain8]
set_option maxHeartbeats 40000000 in
theorem wsame1_ok {csw0 : List Value} {w0 : Wsh} {Sw0 : Nat → Prop} (hw0 : wishR.rd Sw0 w csw0 w0) : Ret prog 139 #[.agg csw0.toArray] w (fun v w' => v = .agg (P8C w0).toArray ∧ Ext w w') := by
 obtain ⟨hIw0, Aw00, cw00, Aw01, cw01, rfl, hw00, hw01⟩ := hw0
 have mhw00:=hw00.mx
 have mhw01:=hw01.mx
 refine ret_of_wk func139 rfl ntmps139 leB_ ?_
 have hp:=HP.begin_ w
 refine go ?_
 refine wl_hbox (by decide) rfl hp ?_
 rintro gs1 w1 hp1 hE1
 replace hp:=hp1
 replace hp:=hp.ay (itB gs1 68 ([iv w0.client, iv w0.stamp, iv w0.group, iv w0.epoch, iv w0.kind, iv w0.block, .slice Aw00 w0.data.length cw00, iv w0.old, iv w0.new, .slice Aw01 w0.next.length cw01]) :: _)
 refine wl_halloc (z := .agg #[iv 0, iv 0, iv 0, iv 0, iv 0, iv 0, iv 0, iv 0]) (by decide) (by kernel_rfl) hp ?_
 rintro gs2 w2 hp2 hE2
 replace hp:=hp2
 refine go ?_
 refine Fd_ 0 fld68_0 rfl rfl ?_
 refine Hl_ 1 sc3 rfl hp rfl rfl ?_
 refine Fd_ 1 fld68_1 rfl rfl ?_
 refine Hl_ 1 sc3 rfl hp rfl rfl ?_
 refine Fd_ 2 fld68_2 rfl rfl ?_
 refine Hl_ 1 sc3 rfl hp rfl rfl ?_
 refine Fd_ 3 fld68_3 rfl rfl ?_
 refine Hl_ 1 sc3 rfl hp rfl rfl ?_
 refine Fd_ 4 fld68_4 rfl rfl ?_
 refine Hl_ 1 sc3 rfl hp rfl rfl ?_
 refine Fd_ 5 fld68_5 rfl rfl ?_
 refine Hl_ 1 sc3 rfl hp rfl rfl ?_
 refine Fd_ 7 fld68_7 rfl rfl ?_
 refine Hl_ 1 sc3 rfl hp rfl rfl ?_
 refine Fd_ 8 fld68_8 rfl rfl ?_
 refine Hl_ 1 sc3 rfl hp rfl rfl ?_
 refine wl_builtS (ps := [(0, .tmp 4), (1, .tmp 6), (2, .tmp 8), (3, .tmp 10), (4, .tmp 12), (5, .tmp 14), (6, .tmp 16), (7, .tmp 18)]) (by decide) bld175 rfl rfl ?_
 refine wl_hstore (i := 0) rfl rfl hp rfl sz175 leB_ (List.all_eq_true.1 rfl) ?_
 rintro w3 hp3 hC3
 replace hp:=hp3
 refine go ?_
 refine wk_postR (rs := [.cell 2 175]) (.inl rfl) results139 ⟨_, _, _, rfl, rfl, loadVar_agg ag175 (hp.blkAt (i := 0) rfl).at0 rfl, rfl⟩ ?_
 exact ⟨_, rfl, rfl, hp.chg⟩
set_option maxHeartbeats 40000000 in
theorem wSame_ok {csa : List Value} {a : Wsh} {Sa : Nat → Prop} {csb : List Value} {b : Wsh} {Sb : Nat → Prop} (ha : wishR.rd Sa w csa a) (hb : wishR.rd Sb w csb b) : Ret prog 116 #[.agg csa.toArray, .agg csb.toArray] w (fun v w' => v = .bool (decide (a = b)) ∧ Ext w w') := by
 obtain ⟨hIa, Aa0, ca0, Aa1, ca1, rfl, ha0, ha1⟩ := ha
 obtain ⟨hIb, Ab0, cb0, Ab1, cb1, rfl, hb0, hb1⟩ := hb
 have mha0:=ha0.mx
 have mha1:=ha1.mx
 have mhb0:=hb0.mx
 have mhb1:=hb1.mx
 refine ret_of_wk func116 rfl ntmps116 leB_ ?_
 have hp:=HP.begin_ w
 replace ha0:=ha0.now
 replace ha1:=ha1.now
 replace hb0:=hb0.now
 replace hb1:=hb1.now
 refine go ?_
 refine wl_hbox (by decide) rfl hp ?_
 rintro gs2 w1 hp1 hE1
 have q0:=hE1
 replace hp:=hp1
 refine wl_hbox (by decide) rfl hp ?_
 rintro gs3 w2 hp2 hE2
 replace q0:=q0.trans hE2
 replace hp:=hp2
 refine go ?_
 refine Fd_ 6 fld68_6 rfl rfl ?_
 refine Hl_ 1 sc26 rfl hp rfl rfl ?_
 refine Fd_ 6 fld68_6 rfl rfl ?_
 refine Hl_ 0 sc26 rfl hp rfl rfl ?_
 have hcl:=bequal_ok (ha0.ext q0) (hb0.ext q0)
 refine Cl_ cl66 rfl hcl ?_
 clear hcl
 rintro _ w3 ⟨rfl, hE3⟩
 replace q0:=q0.trans hE3
 replace hp:=hp.ext hE3
 first | refine Nd_ rfl ?_ | refine Nn_ rfl ?_
 refine go ?_
 refine Gs 12 (fun hg1 => ?_) fun hg1 => ?_
 refine go ?_
 refine wc_cond_t rfl (go ?_)
 refine P1 results116 ?_
 exact ⟨_, rfl, bool_f (by rw [Wsh_eq]; (try rw [plain8_iff]); simp_all; try omega), hp.chg⟩
 refine go ?_
 refine Fd_ 9 fld68_9 rfl rfl (go ?_)
 refine Hl_ 1 sc27 rfl hp rfl rfl (go ?_)
 refine Fd_ 9 fld68_9 rfl rfl (go ?_)
 refine Hl_ 0 sc27 rfl hp rfl rfl (go ?_)
 have hcl:=seqI_ok (ha1.ext q0) (hb1.ext q0)
 refine Cl_ cl67 rfl hcl ?_
 clear hcl
 rintro _ w4 ⟨rfl, hE4⟩
 replace q0:=q0.trans hE4
 replace hp:=hp.ext hE4
 refine go ?_
 first | refine Nd_ rfl ?_ | refine Nn_ rfl ?_
 refine go ?_
 refine Cd (fun hc2 => ?_) fun hc2 => ?_
 refine go ?_
 refine P1 results116 ?_
 exact ⟨_, rfl, bool_f (by rw [Wsh_eq]; (try rw [plain8_iff]); simp_all; try omega), hp.chg⟩
 refine go ?_
 apply wdL [.eq _,.eq _,.eq _,.eq _,.eq _,.eq _,.eq _,.eq _]
 refine ⟨?_,?_,?_,?_,?_,?_,?_,?_,trivial⟩<;>intro F wF hER hk
 exact dm (hk.qi 5)
 exact Hx_ ([iv a.client, iv a.stamp, iv a.group, iv a.epoch, iv a.kind, iv a.block, .slice Aa0 a.data.length ca0, iv a.old, iv a.new, .slice Aa1 a.next.length ca1]) 1 ag68 (hk.qi 2) (hp.ext hER) rfl rfl rfl qz
 have e20:=hk.qe 0
 have e21:=hk.qe 1
 have hcl:=wsame1_ok ⟨hIa, _, _, _, _, rfl, ((ha0.ext q0).ext hER), ((ha1.ext q0).ext hER)⟩
 refine wl_callv (f := 139) (first := []) (cap := []) (vs := [_]) (by decide) cl139 e20 (by simp only [evs, ev, e21]; first | done | rfl) hcl ?_
 clear hcl
 rintro _ w7 ⟨rfl, hE7⟩
 exact qz ⟨hE7, rfl⟩
 exact dm (hk.qi 5)
 exact Hx_ ([iv b.client, iv b.stamp, iv b.group, iv b.epoch, iv b.kind, iv b.block, .slice Ab0 b.data.length cb0, iv b.old, iv b.new, .slice Ab1 b.next.length cb1]) 0 ag68 (hk.qi 3) (hp.ext hER) rfl rfl rfl qz
 have e23:=hk.qe 3
 have e24:=hk.qe 4
 have hcl:=wsame1_ok ⟨hIb, _, _, _, _, rfl, ((hb0.ext q0).ext hER), ((hb1.ext q0).ext hER)⟩
 refine wl_callv (f := 139) (first := []) (cap := []) (vs := [_]) (by decide) cl139 e23 (by simp only [evs, ev, e24]; first | done | rfl) hcl ?_
 clear hcl
 rintro _ w7 ⟨rfl, hE7⟩
 exact qz ⟨hE7, rfl⟩
 have e22:=hk.qe 2
 have e25:=hk.qe 5
 exact wl_eqlK (m := 6) ((plain8 a) = (plain8 b)) (by decide) key175 eg175 e22 e25 hIa.fit hIb.fit plain8_inj qz
 exact wl_assign (by decide) (hk.qe 6) qz
 intro F wD hED hini hdo
 refine wk_drop [(4, _)] ⟨dq hdo 7, trivial⟩ ?_
 clear hini hdo
 replace hp:=hp.ext hED
 refine go ?_
 refine P1 results116 ?_
 exact ⟨_, rfl, congrArg Value.bool (decide_eq_decide.2 (by rw [Wsh_eq]; (try rw [plain8_iff]); simp_all; try omega)), hp.chg⟩
set_option maxHeartbeats 40000000 in
theorem r11Same_ok {csa : List Value} {a : Wsh} {Sa : Nat → Prop} {csb : List Value} {b : Wsh} {Sb : Nat → Prop} (ha : wishR.rd Sa w csa a) (hb : wishR.rd Sb w csb b) : Ret prog 123 #[.agg csa.toArray, .agg csb.toArray] w (fun v w' => v = .bool (decide (a = b)) ∧ Ext w w') := by
 obtain ⟨hIa, Aa0, ca0, Aa1, ca1, rfl, ha0, ha1⟩ := ha
 obtain ⟨hIb, Ab0, cb0, Ab1, cb1, rfl, hb0, hb1⟩ := hb
 have mha0:=ha0.mx
 have mha1:=ha1.mx
 have mhb0:=hb0.mx
 have mhb1:=hb1.mx
 refine ret_of_wk func123 rfl ntmps123 leB_ ?_
 have hp:=HP.begin_ w
 replace ha0:=ha0.now
 replace ha1:=ha1.now
 replace hb0:=hb0.now
 replace hb1:=hb1.now
 refine go ?_
 refine wl_hbox (by decide) rfl hp ?_
 rintro gs2 w1 hp1 hE1
 have q0:=hE1
 replace hp:=hp1
 refine wl_hbox (by decide) rfl hp ?_
 rintro gs3 w2 hp2 hE2
 replace q0:=q0.trans hE2
 replace hp:=hp2
 refine go ?_
 refine Fd_ 0 fld68_0 rfl rfl ?_
 refine Hl_ 1 sc3 rfl hp rfl rfl ?_
 refine Fd_ 0 fld68_0 rfl rfl ?_
 refine Hl_ 0 sc3 rfl hp rfl rfl ?_
 refine Eq_ rfl rfl (go ?_)
 refine Gs 10 (fun hg1 => ?_) fun hg1 => ?_
 refine go ?_
 refine Fd_ 1 fld68_1 rfl rfl (go ?_)
 refine Hl_ 1 sc3 rfl hp rfl rfl (go ?_)
 refine Fd_ 1 fld68_1 rfl rfl (go ?_)
 refine Hl_ 0 sc3 rfl hp rfl rfl (go ?_)
 refine Eq_ rfl rfl (go ?_)
 refine Gs 17 (fun hg2 => ?_) fun hg2 => ?_
 refine go ?_
 refine Fd_ 2 fld68_2 rfl rfl (go ?_)
 refine Hl_ 1 sc3 rfl hp rfl rfl (go ?_)
 refine Fd_ 2 fld68_2 rfl rfl (go ?_)
 refine Hl_ 0 sc3 rfl hp rfl rfl (go ?_)
 refine Eq_ rfl rfl (go ?_)
 refine Gs 24 (fun hg3 => ?_) fun hg3 => ?_
 refine go ?_
 refine Fd_ 3 fld68_3 rfl rfl (go ?_)
 refine Hl_ 1 sc3 rfl hp rfl rfl (go ?_)
 refine Fd_ 3 fld68_3 rfl rfl (go ?_)
 refine Hl_ 0 sc3 rfl hp rfl rfl (go ?_)
 refine Eq_ rfl rfl (go ?_)
 refine Gs 31 (fun hg4 => ?_) fun hg4 => ?_
 refine go ?_
 refine Fd_ 4 fld68_4 rfl rfl (go ?_)
 refine Hl_ 1 sc3 rfl hp rfl rfl (go ?_)
 refine Fd_ 4 fld68_4 rfl rfl (go ?_)
 refine Hl_ 0 sc3 rfl hp rfl rfl (go ?_)
 refine Eq_ rfl rfl (go ?_)
 refine Gs 38 (fun hg5 => ?_) fun hg5 => ?_
 refine go ?_
 refine Fd_ 5 fld68_5 rfl rfl (go ?_)
 refine Hl_ 1 sc3 rfl hp rfl rfl (go ?_)
 refine Fd_ 5 fld68_5 rfl rfl (go ?_)
 refine Hl_ 0 sc3 rfl hp rfl rfl (go ?_)
 refine Eq_ rfl rfl (go ?_)
 refine Gs 45 (fun hg6 => ?_) fun hg6 => ?_
 refine go ?_
 refine Fd_ 6 fld68_6 rfl rfl (go ?_)
 refine Hl_ 1 sc26 rfl hp rfl rfl (go ?_)
 refine Fd_ 6 fld68_6 rfl rfl (go ?_)
 refine Hl_ 0 sc26 rfl hp rfl rfl (go ?_)
 have hcl:=eqBytes_ok (ha0.ext q0) (hb0.ext q0)
 refine Cl_ cl16 rfl hcl ?_
 clear hcl
 rintro _ w3 ⟨rfl, hE3⟩
 replace q0:=q0.trans hE3
 replace hp:=hp.ext hE3
 refine go ?_
 refine Gs 52 (fun hg7 => ?_) fun hg7 => ?_
 refine go ?_
 refine Fd_ 7 fld68_7 rfl rfl (go ?_)
 refine Hl_ 1 sc3 rfl hp rfl rfl (go ?_)
 refine Fd_ 7 fld68_7 rfl rfl (go ?_)
 refine Hl_ 0 sc3 rfl hp rfl rfl (go ?_)
 refine Eq_ rfl rfl (go ?_)
 refine Gs 59 (fun hg8 => ?_) fun hg8 => ?_
 refine go ?_
 refine Fd_ 8 fld68_8 rfl rfl (go ?_)
 refine Hl_ 1 sc3 rfl hp rfl rfl (go ?_)
 refine Fd_ 8 fld68_8 rfl rfl (go ?_)
 refine Hl_ 0 sc3 rfl hp rfl rfl (go ?_)
 refine Eq_ rfl rfl (go ?_)
 refine Gs 66 (fun hg9 => ?_) fun hg9 => ?_
 refine go ?_
 refine Fd_ 9 fld68_9 rfl rfl (go ?_)
 refine Hl_ 1 sc27 rfl hp rfl rfl (go ?_)
 refine Fd_ 9 fld68_9 rfl rfl (go ?_)
 refine Hl_ 0 sc27 rfl hp rfl rfl (go ?_)
 have hcl:=eqInts_ok (ha1.ext q0) (hb1.ext q0)
 refine Cl_ cl49 rfl hcl ?_
 clear hcl
 rintro _ w4 ⟨rfl, hE4⟩
 replace hp:=hp.ext hE4
 refine go ?_
 refine P1 results123 ?_
 exact ⟨_, rfl, congrArg Value.bool (decide_eq_decide.2 (by rw [Wsh_eq]; simp_all)), hp.chg⟩
 refine go ?_
 refine P1 results123 ?_
 exact ⟨_, rfl, bool_f (by rw [Wsh_eq]; simp_all), hp.chg⟩
 refine go ?_
 refine P1 results123 ?_
 exact ⟨_, rfl, bool_f (by rw [Wsh_eq]; simp_all), hp.chg⟩
 refine go ?_
 refine P1 results123 ?_
 exact ⟨_, rfl, bool_f (by rw [Wsh_eq]; simp_all), hp.chg⟩
 refine go ?_
 refine P1 results123 ?_
 exact ⟨_, rfl, bool_f (by rw [Wsh_eq]; simp_all), hp.chg⟩
 refine go ?_
 refine P1 results123 ?_
 exact ⟨_, rfl, bool_f (by rw [Wsh_eq]; simp_all), hp.chg⟩
 refine go ?_
 refine P1 results123 ?_
 exact ⟨_, rfl, bool_f (by rw [Wsh_eq]; simp_all), hp.chg⟩
 refine go ?_
 refine P1 results123 ?_
 exact ⟨_, rfl, bool_f (by rw [Wsh_eq]; simp_all), hp.chg⟩
 refine go ?_
 refine P1 results123 ?_
 exact ⟨_, rfl, bool_f (by rw [Wsh_eq]; simp_all), hp.chg⟩
 refine go ?_
 refine P1 results123 ?_
 exact ⟨_, rfl, bool_f (by rw [Wsh_eq]; simp_all), hp.chg⟩
set_option maxHeartbeats 40000000 in
theorem alike_ok {Aa : Option Addr} {ca : Nat} {a : List Wsh} {Sa : Nat → Prop} {Ab : Option Addr} {cb : Nat} {b : List Wsh} {Sb : Nat → Prop} (ha : GS wishR Sa w Aa ca a) (hb : GS wishR Sb w Ab cb b) : Ret prog 78 #[.slice Aa a.length ca, .slice Ab b.length cb] w (fun v w' => v = .bool (decide (a = b)) ∧ Ext w w') := by
 have mha:=ha.mx
 have mhb:=hb.mx
 refine ret_of_wk func78 rfl ntmps78 leB_ ?_
 have hEc : Ext w w := Chg.refl _ _
 refine go ?_
 refine Ln_ underlying24 rfl (go ?_)
 refine Ln_ underlying24 rfl ?_
 refine Ne_ rfl rfl (go ?_)
 refine Cd (fun hne => ?_) fun hne => ?_
 refine go ?_
 refine P1 results78 ?_
 exact ⟨_, rfl, bool_f (fun e => hne (by rw [e])), hEc⟩
 have hll : a.length = b.length := by omega
 refine go ?_
 refine wc_loop (fun L' w' mes => ∃ (k : Nat), L' = [(0, .slice Aa a.length ca), (1, .slice Ab b.length cb), (5, iv (k : Int))] ∧ (k ≤ a.length) ∧ (a.take k = b.take k) ∧ (GS wishR Sa w' Aa ca a) ∧ (GS wishR Sb w' Ab cb b) ∧ (Ext w w') ∧ a.length - k = mes) [(0, .slice Aa a.length ca), (1, .slice Ab b.length cb), (5, iv (0 : Int))] (a.length - 0) (by
     refine ⟨0, rfl, ?_, ?_, ?_, ?_, ?_, rfl⟩
     · omega
     · simp
     · exact ha
     · exact hb
     · exact hEc) ⟨rfl, rfl, rfl, trivial⟩ ?_
 rintro _ wr _ ⟨k, rfl, hk, htk, ha, hb, hEc, rfl⟩ KL1 hKL1
 refine go ?_
 refine Ln_ underlying24 rfl ?_
 refine Ls_ rfl rfl (go ?_)
 refine Cd (fun hlt => ?_) fun hlt => ?_
 refine go ?_
 obtain ⟨aw2, pw2_0, qw2_0, pw2_1, qw2_1, hAw2, hatw2, hIw2, hw2_0, hw2_1⟩ := wishR_el ha k (by omega)
 obtain ⟨aw6, pw6_0, qw6_0, pw6_1, qw6_1, hAw6, hatw6, hIw6, hw6_0, hw6_1⟩ := wishR_el hb k (by omega)
 apply wdL [.eq _,.eq _,.eq _,.eq _,.eq _,.eq _,.eq _,.eq _,.eq _,.eq _]
 refine ⟨?_,?_,?_,?_,?_,?_,?_,?_,?_,?_,trivial⟩<;>intro F wF hER hk
 exact dm (hk.qi 0)
 exact dm (hk.qi 5)
 have e17:=hk.qe 0
 have e18:=hk.qe 1
 exact wl_idx0 (by decide) sl24 e17 e18 hAw2 k rfl (by omega) qz
 exact wl_loadA (by decide) ag68 (hk.qe 2) (hatw2.ext hER).at_ rfl qz
 exact dm (hk.qi 1)
 exact dm (hk.qi 5)
 have e21:=hk.qe 4
 have e22:=hk.qe 5
 exact wl_idx0 (by decide) sl24 e21 e22 hAw6 k rfl (by omega) qz
 exact wl_loadA (by decide) ag68 (hk.qe 6) (hatw6.ext hER).at_ rfl qz
 have e20:=hk.qe 3
 have e24:=hk.qe 7
 have hcl:=r11Same_ok ⟨hIw2, _, _, _, _, rfl, (hw2_0.ext hER), (hw2_1.ext hER)⟩ ⟨hIw6, _, _, _, _, rfl, (hw6_0.ext hER), (hw6_1.ext hER)⟩
 refine Cl_ cl123 (by simp only [evs, ev, e20, e24]; first | done | rfl) hcl ?_
 clear hcl
 rintro _ w7 ⟨rfl, hE7⟩
 exact qz ⟨hE7, rfl⟩
 have e25:=hk.qe 8
 first | exact Nd_ e25 qz | exact Nn_ e25 qz
 intro F wD hED hini hdo
 refine wk_drop [(0, _), (1, _), (5, _), (26, _)] ⟨di hini 0, di hini 1, di hini 5, dq hdo 9, trivial⟩ ?_
 clear hini hdo
 have q0:=hED
 replace hEc:=hEc.trans hED
 refine go ?_
 refine Cd (fun hne2 => ?_) fun hne2 => ?_
 refine go ?_
 refine P1 results78 ?_
 exact ⟨_, rfl, bool_f (fun e => hne2 (by rw [e])), hEc⟩
 replace hne2:=Decidable.not_not.1 hne2
 refine go ?_
 refine wl_add (by decide) rfl rfl (w64 (by omega) (by omega)) (gl ?_)
 refine wk_drop [(0, .slice Aa a.length ca), (1, .slice Ab b.length cb), (5, iv ((k + 1) : Int))] ⟨rfl, rfl, rfl, trivial⟩ (hKL1 _ _ (m2 := a.length - (k + 1)) ?_ ?_)
 refine ⟨(k + 1), rfl, ?_, ?_, ?_, ?_, ?_, rfl⟩
 omega
 rw [take_snoc wish0 (by omega : k < a.length), take_snoc wish0 (by omega : k < b.length), htk, hne2]
 exact (ha.ext q0)
 exact (hb.ext q0)
 exact hEc
 omega
 have hkl : k = a.length := by omega
 refine go ?_
 refine P1 results78 ?_
 exact ⟨_, rfl, bool_t (by rw [hkl, List.take_length, hll, List.take_length] at htk; exact htk), hEc⟩
set_option maxHeartbeats 40000000 in
theorem efW_ok {Aa : Option Addr} {ca : Nat} {a : List Wsh} {Sa : Nat → Prop} {Ab : Option Addr} {cb : Nat} {b : List Wsh} {Sb : Nat → Prop} (ha : GS wishR Sa w Aa ca a) (hb : GS wishR Sb w Ab cb b) : Ret prog 115 #[.slice Aa a.length ca, .slice Ab b.length cb, .func (.func 116) #[] #[]] w (fun v w' => v = .bool (decide (a = b)) ∧ Ext w w') := by
 have mha:=ha.mx
 have mhb:=hb.mx
 refine ret_of_wk func115 rfl ntmps115 leB_ ?_
 have hp:=HP.begin_ w
 replace ha:=ha.now
 replace hb:=hb.now
 refine go ?_
 refine Ln_ underlying24 rfl (go ?_)
 refine Ln_ underlying24 rfl ?_
 refine Ne_ rfl rfl (go ?_)
 refine Cd (fun hne => ?_) fun hne => ?_
 refine go ?_
 refine P1 results115 ?_
 exact ⟨_, rfl, bool_f (fun e => hne (by rw [e])), hp.chg⟩
 have hll : a.length = b.length := by omega
 refine go ?_
 refine Ln_ underlying24 rfl (go ?_)
 refine wc_loop (fun L' w' mes => ∃ (k : Nat), L' = [(1, .slice Ab b.length cb), (2, .func (.func 116) #[] #[]), (15, .slice Aa a.length ca), (16, iv (a.length : Int)), (17, iv (k : Int))] ∧ (k ≤ a.length) ∧ (a.take k = b.take k) ∧ (GS wishR (fun b => b < w.heap.size) w' Aa ca a) ∧ (GS wishR (fun b => b < w.heap.size) w' Ab cb b) ∧ (HP w (fun _ => False) (fun b => b < w.heap.size) w' ([])) ∧ a.length - k = mes) [(1, .slice Ab b.length cb), (2, .func (.func 116) #[] #[]), (15, .slice Aa a.length ca), (16, iv (a.length : Int)), (17, iv (0 : Int))] (a.length - 0) (by
     refine ⟨0, rfl, ?_, ?_, ?_, ?_, ?_, rfl⟩
     · omega
     · simp
     · exact ha
     · exact hb
     · exact hp) ⟨rfl, rfl, rfl, rfl, rfl, trivial⟩ ?_
 rintro _ wr _ ⟨k, rfl, hk, htk, ha, hb, hp, rfl⟩ KL1 hKL1
 refine go ?_
 refine Ls_ rfl rfl (go ?_)
 refine Cd (fun hlt => ?_) fun hlt => ?_
 refine go ?_
 obtain ⟨ae1, pe1_0, qe1_0, pe1_1, qe1_1, hAe1, hate1, hIe1, he1_0, he1_1⟩ := wishR_el ha k (by omega)
 refine wl_idx0 (by decide) sl24 rfl rfl hAe1 k rfl (by omega) ?_
 refine wl_loadA (by decide) ag68 rfl hate1.at_ rfl ?_
 refine wl_halloc (z := .agg #[iv 0, iv 0, iv 0, iv 0, iv 0, iv 0, s0, iv 0, iv 0, s0]) (by decide) (by kernel_rfl) hp ?_
 rintro gs8 w2 hp2 hE2
 have q0:=hE2
 replace hp:=hp2
 refine go ?_
 refine wl_hstore (i := 0) rfl rfl hp rfl sz68 leB_ (List.all_eq_true.1 rfl) ?_
 rintro w3 hp3 hC3
 have q1:=ha.tk.ext q0
 replace q1:=q1.fz hC3
 replace hp:=hp3
 refine go ?_
 obtain ⟨ae4, pe4_0, qe4_0, pe4_1, qe4_1, hAe4, hate4, hIe4, he4_0, he4_1⟩ := wishR_el (hb.fr q1) k (by omega)
 refine wl_idx0 (by decide) sl24 rfl rfl hAe4 k rfl (by omega) ?_
 refine wl_loadA (by decide) ag68 rfl hate4.at_ rfl ?_
 refine wl_halloc (z := .agg #[iv 0, iv 0, iv 0, iv 0, iv 0, iv 0, s0, iv 0, iv 0, s0]) (by decide) (by kernel_rfl) hp ?_
 rintro gs9 w5 hp5 hE5
 replace q1:=q1.ext hE5
 have q2:=hE5
 replace hp:=hp5
 refine wl_hstore (i := 0) rfl rfl hp rfl sz68 leB_ (List.all_eq_true.1 rfl) ?_
 rintro w6 hp6 hC6
 replace q1:=q1.fz hC6
 have q3:=he4_0.tk.ext q2
 replace q3:=q3.fz hC6
 replace hp:=hp6
 refine go ?_
 refine Hx_ ([iv ((a.getD k wish0).client), iv ((a.getD k wish0).stamp), iv ((a.getD k wish0).group), iv ((a.getD k wish0).epoch), iv ((a.getD k wish0).kind), iv ((a.getD k wish0).block), .slice pe1_0 ((a.getD k wish0).data).length qe1_0, iv ((a.getD k wish0).old), iv ((a.getD k wish0).new), .slice pe1_1 ((a.getD k wish0).next).length qe1_1]) 1 ag68 rfl hp rfl rfl rfl ?_
 refine Hx_ ([iv ((b.getD k wish0).client), iv ((b.getD k wish0).stamp), iv ((b.getD k wish0).group), iv ((b.getD k wish0).epoch), iv ((b.getD k wish0).kind), iv ((b.getD k wish0).block), .slice pe4_0 ((b.getD k wish0).data).length qe4_0, iv ((b.getD k wish0).old), iv ((b.getD k wish0).new), .slice pe4_1 ((b.getD k wish0).next).length qe4_1]) 0 ag68 rfl hp rfl rfl rfl ?_
 have hcl:=wSame_ok ⟨hIe1, _, _, _, _, rfl, (he1_0.fr q1), (he1_1.fr q1)⟩ ⟨hIe4, _, _, _, _, rfl, (he4_0.fr q3), (he4_1.fr q3)⟩
 refine wl_callv (f := 116) (first := []) (cap := []) (by decide) cl116 rfl rfl hcl ?_
 clear hcl
 rintro _ w7 ⟨rfl, hE7⟩
 replace q1:=q1.ext hE7
 replace hp:=hp.ext hE7
 first | refine Nd_ rfl ?_ | refine Nn_ rfl ?_
 refine go ?_
 refine Cd (fun hne2 => ?_) fun hne2 => ?_
 refine go ?_
 refine P1 results115 ?_
 exact ⟨_, rfl, bool_f (fun e => hne2 (by rw [e])), hp.chg⟩
 replace hne2:=Decidable.not_not.1 hne2
 refine go ?_
 refine wl_add (by decide) rfl rfl (w64 (by omega) (by omega)) (gl ?_)
 refine wk_drop [(1, .slice Ab b.length cb), (2, .func (.func 116) #[] #[]), (15, .slice Aa a.length ca), (16, iv (a.length : Int)), (17, iv ((k + 1) : Int))] ⟨rfl, rfl, rfl, rfl, rfl, trivial⟩ (hKL1 _ _ (m2 := a.length - (k + 1)) ?_ ?_)
 refine ⟨(k + 1), rfl, ?_, ?_, ?_, ?_, ?_, rfl⟩
 omega
 rw [take_snoc wish0 (by omega : k < a.length), take_snoc wish0 (by omega : k < b.length), htk, hne2]
 exact (ha.fr q1)
 exact (hb.fr q1)
 exact hp.tail.tail
 omega
 have hkl : k = a.length := by omega
 refine go ?_
 refine P1 results115 ?_
 exact ⟨_, rfl, bool_t (by rw [hkl, List.take_length, hll, List.take_length] at htk; exact htk), hp.chg⟩
set_option maxHeartbeats 4000000 in
theorem sameBatch_ok {Aa : Option Addr} {ca : Nat} {a : List Wsh} {Sa : Nat → Prop} {Ab : Option Addr} {cb : Nat} {b : List Wsh} {Sb : Nat → Prop} {w : World} (ha : GS wishR Sa w Aa ca a) (hb : GS wishR Sb w Ab cb b) : Ret Tryz.prog 69 #[.slice Aa a.length ca, .slice Ab b.length cb] w (fun v w' => v = .bool (decide (a = b)) ∧ Ext w w') := by
 have mha := ha.mx
 have mhb := hb.mx
 refine ret_of_wk Tryz.func69 rfl Tryz.ntmps69 (Nat.le_of_ble_eq_true rfl) ?_
 have hEc : Ext w w := Chg.refl _ _
 refine wc_seq ?_
 refine wc_region ?_
 refine wl_assign (by decide) rfl ?_
 refine wl_nil ?_
 refine wk_norm ?_
 refine wc_seq ?_
 refine wc_region ?_
 refine wl_move (by decide) rfl ?_
 refine wl_move (by decide) rfl ?_
 have hcl := efW_ok ha hb
 refine wl_call (by decide) Tryz.cl115 rfl hcl ?_
 clear hcl
 rintro _ w1 ⟨rfl, hE1⟩
 replace ha := ha.ext hE1
 replace hb := hb.ext hE1
 replace hEc := hEc.trans hE1
 refine wl_assign (by decide) rfl ?_
 refine wl_nil ?_
 refine wk_norm ?_
 refine wc_ret ?_
 refine wk_post1 (.inl rfl) Tryz.results69 rfl ?_
 exact ⟨_, rfl, rfl, hEc⟩
set_option maxHeartbeats 40000000 in
theorem efC_ok {Aa : Option Addr} {ca : Nat} {a : List Chn} {Sa : Nat → Prop} {Ab : Option Addr} {cb : Nat} {b : List Chn} {Sb : Nat → Prop} (ha : GS changeR Sa w Aa ca a) (hb : GS changeR Sb w Ab cb b) : Ret prog 70 #[.slice Aa a.length ca, .slice Ab b.length cb, .func (.func 71) #[] #[]] w (fun v w' => v = .bool (decide (a = b)) ∧ Ext w w') := by
 have mha:=ha.mx
 have mhb:=hb.mx
 refine ret_of_wk func70 rfl ntmps70 leB_ ?_
 have hp:=HP.begin_ w
 replace ha:=ha.now
 replace hb:=hb.now
 refine go ?_
 refine Ln_ underlying34 rfl (go ?_)
 refine Ln_ underlying34 rfl ?_
 refine Ne_ rfl rfl (go ?_)
 refine Cd (fun hne => ?_) fun hne => ?_
 refine go ?_
 refine P1 results70 ?_
 exact ⟨_, rfl, bool_f (fun e => hne (by rw [e])), hp.chg⟩
 have hll : a.length = b.length := by omega
 refine go ?_
 refine Ln_ underlying34 rfl (go ?_)
 refine wc_loop (fun L' w' mes => ∃ (k : Nat), L' = [(1, .slice Ab b.length cb), (2, .func (.func 71) #[] #[]), (15, .slice Aa a.length ca), (16, iv (a.length : Int)), (17, iv (k : Int))] ∧ (k ≤ a.length) ∧ (a.take k = b.take k) ∧ (GS changeR (fun b => b < w.heap.size) w' Aa ca a) ∧ (GS changeR (fun b => b < w.heap.size) w' Ab cb b) ∧ (HP w (fun _ => False) (fun b => b < w.heap.size) w' ([])) ∧ a.length - k = mes) [(1, .slice Ab b.length cb), (2, .func (.func 71) #[] #[]), (15, .slice Aa a.length ca), (16, iv (a.length : Int)), (17, iv (0 : Int))] (a.length - 0) (by
     refine ⟨0, rfl, ?_, ?_, ?_, ?_, ?_, rfl⟩
     · omega
     · simp
     · exact ha
     · exact hb
     · exact hp) ⟨rfl, rfl, rfl, rfl, rfl, trivial⟩ ?_
 rintro _ wr _ ⟨k, rfl, hk, htk, ha, hb, hp, rfl⟩ KL1 hKL1
 refine go ?_
 refine Ls_ rfl rfl (go ?_)
 refine Cd (fun hlt => ?_) fun hlt => ?_
 refine go ?_
 obtain ⟨ae1, pe1_0, qe1_0, pe1_1, qe1_1, pe1_2, qe1_2, hAe1, hate1, hIe1, he1_0, he1_1, he1_2⟩ := changeR_el ha k (by omega)
 refine wl_idx0 (by decide) sl34 rfl rfl hAe1 k rfl (by omega) ?_
 refine wl_loadA (by decide) ag33 rfl hate1.at_ rfl ?_
 refine wl_halloc (z := .agg #[iv 0, iv 0, iv 0, s0, s0, s0]) (by decide) (by kernel_rfl) hp ?_
 rintro gs8 w2 hp2 hE2
 have q0:=hE2
 replace hp:=hp2
 refine go ?_
 refine wl_hstore (i := 0) rfl rfl hp rfl sz33 leB_ (List.all_eq_true.1 rfl) ?_
 rintro w3 hp3 hC3
 have q1:=ha.tk.ext q0
 replace q1:=q1.fz hC3
 replace hp:=hp3
 refine go ?_
 obtain ⟨ae4, pe4_0, qe4_0, pe4_1, qe4_1, pe4_2, qe4_2, hAe4, hate4, hIe4, he4_0, he4_1, he4_2⟩ := changeR_el (hb.fr q1) k (by omega)
 refine wl_idx0 (by decide) sl34 rfl rfl hAe4 k rfl (by omega) ?_
 refine wl_loadA (by decide) ag33 rfl hate4.at_ rfl ?_
 refine wl_halloc (z := .agg #[iv 0, iv 0, iv 0, s0, s0, s0]) (by decide) (by kernel_rfl) hp ?_
 rintro gs9 w5 hp5 hE5
 replace q1:=q1.ext hE5
 have q2:=hE5
 replace hp:=hp5
 refine wl_hstore (i := 0) rfl rfl hp rfl sz33 leB_ (List.all_eq_true.1 rfl) ?_
 rintro w6 hp6 hC6
 replace q1:=q1.fz hC6
 have q3:=he4_0.tk.ext q2
 replace q3:=q3.fz hC6
 replace hp:=hp6
 refine go ?_
 refine Hx_ ([iv ((a.getD k change0).node), iv ((a.getD k change0).view), iv ((a.getD k change0).low), .slice pe1_0 ((a.getD k change0).marks).length qe1_0, .slice pe1_1 ((a.getD k change0).p).length qe1_1, .slice pe1_2 ((a.getD k change0).q).length qe1_2]) 1 ag33 rfl hp rfl rfl rfl ?_
 refine Hx_ ([iv ((b.getD k change0).node), iv ((b.getD k change0).view), iv ((b.getD k change0).low), .slice pe4_0 ((b.getD k change0).marks).length qe4_0, .slice pe4_1 ((b.getD k change0).p).length qe4_1, .slice pe4_2 ((b.getD k change0).q).length qe4_2]) 0 ag33 rfl hp rfl rfl rfl ?_
 have hcl:=nSameChange_ok ⟨hIe1, _, _, _, _, _, _, rfl, (he1_0.fr q1), (he1_1.fr q1), (he1_2.fr q1)⟩ ⟨hIe4, _, _, _, _, _, _, rfl, (he4_0.fr q3), (he4_1.fr q3), (he4_2.fr q3)⟩
 refine wl_callv (f := 71) (first := []) (cap := []) (by decide) cl71 rfl rfl hcl ?_
 clear hcl
 rintro _ w7 ⟨rfl, hE7⟩
 replace q1:=q1.ext hE7
 replace hp:=hp.ext hE7
 first | refine Nd_ rfl ?_ | refine Nn_ rfl ?_
 refine go ?_
 refine Cd (fun hne2 => ?_) fun hne2 => ?_
 refine go ?_
 refine P1 results70 ?_
 exact ⟨_, rfl, bool_f (fun e => hne2 (by rw [e])), hp.chg⟩
 replace hne2:=Decidable.not_not.1 hne2
 refine go ?_
 refine wl_add (by decide) rfl rfl (w64 (by omega) (by omega)) (gl ?_)
 refine wk_drop [(1, .slice Ab b.length cb), (2, .func (.func 71) #[] #[]), (15, .slice Aa a.length ca), (16, iv (a.length : Int)), (17, iv ((k + 1) : Int))] ⟨rfl, rfl, rfl, rfl, rfl, trivial⟩ (hKL1 _ _ (m2 := a.length - (k + 1)) ?_ ?_)
 refine ⟨(k + 1), rfl, ?_, ?_, ?_, ?_, ?_, rfl⟩
 omega
 rw [take_snoc change0 (by omega : k < a.length), take_snoc change0 (by omega : k < b.length), htk, hne2]
 exact (ha.fr q1)
 exact (hb.fr q1)
 exact hp.tail.tail
 omega
 have hkl : k = a.length := by omega
 refine go ?_
 refine P1 results70 ?_
 exact ⟨_, rfl, bool_t (by rw [hkl, List.take_length, hll, List.take_length] at htk; exact htk), hp.chg⟩
set_option maxHeartbeats 40000000 in
theorem same1_ok {csp : List Value} {p : Pck} {Sp : Nat → Prop} {csq : List Value} {q : Pck} {Sq : Nat → Prop} (hp : pickR.rd Sp w csp p) (hq : pickR.rd Sq w csq q) : Ret prog 68 #[.agg csp.toArray, .agg csq.toArray] w (fun v w' => v = .bool (decide (p = q)) ∧ Ext w w') := by
 obtain ⟨hIp, Ap0, cp0, rfl, hp0⟩ := hp
 obtain ⟨hIq, Aq0, cq0, rfl, hq0⟩ := hq
 have mhp0:=hp0.mx
 have mhq0:=hq0.mx
 refine ret_of_wk func68 rfl ntmps68 leB_ ?_
 have hp:=HP.begin_ w
 replace hp0:=hp0.now
 replace hq0:=hq0.now
 refine go ?_
 refine wl_hbox (by decide) rfl hp ?_
 rintro gs2 w1 hp1 hE1
 have q0:=hE1
 replace hp:=hp1
 replace hp:=hp.ay (itB gs2 66 ([iv p.seq] ++ (digC p.dig ++ ([.slice Ap0 p.batch.length cp0]))) :: _)
 refine wl_hbox (by decide) rfl hp ?_
 rintro gs3 w2 hp2 hE2
 replace q0:=q0.trans hE2
 replace hp:=hp2
 replace hp:=hp.ay (itB gs3 66 ([iv q.seq] ++ (digC q.dig ++ ([.slice Aq0 q.batch.length cq0]))) :: _)
 refine go ?_
 refine Fd_ 0 fld66_0 rfl rfl ?_
 refine Hl_ 1 sc3 rfl hp rfl rfl ?_
 refine Fd_ 0 fld66_0 rfl rfl ?_
 refine Hl_ 0 sc3 rfl hp rfl rfl ?_
 refine Eq_ rfl rfl (go ?_)
 refine Gs 10 (fun hg1 => ?_) fun hg1 => ?_
 refine go ?_
 refine Fd_ 1 fld66_1 rfl rfl (go ?_)
 refine Hx_ (digC p.dig) 1 ag23 rfl hp rfl rfl rfl (go ?_)
 refine Fd_ 1 fld66_1 rfl rfl (go ?_)
 refine Hx_ (digC q.dig) 0 ag23 rfl hp rfl rfl rfl (go ?_)
 refine wl_eqlK (m := 6) (p.dig = q.dig) (by decide) key23 eg23 rfl rfl (digC_fit _) (digC_fit _) digC_inj ?_
 refine go ?_
 refine Gs 17 (fun hg2 => ?_) fun hg2 => ?_
 refine go ?_
 refine Fd_ 33 fld66_2 rfl rfl (go ?_)
 refine Hl_ 1 sc24 rfl hp rfl rfl (go ?_)
 refine Fd_ 33 fld66_2 rfl rfl (go ?_)
 refine Hl_ 0 sc24 rfl hp rfl rfl (go ?_)
 have hcl:=sameBatch_ok (hp0.ext q0) (hq0.ext q0)
 refine Cl_ cl69 rfl hcl ?_
 clear hcl
 rintro _ w3 ⟨rfl, hE3⟩
 replace hp:=hp.ext hE3
 refine go ?_
 refine P1 results68 ?_
 exact ⟨_, rfl, congrArg Value.bool (decide_eq_decide.2 (by rw [Pck_eq]; simp_all)), hp.chg⟩
 refine go ?_
 refine P1 results68 ?_
 exact ⟨_, rfl, bool_f (by rw [Pck_eq]; simp_all), hp.chg⟩
 refine go ?_
 refine P1 results68 ?_
 exact ⟨_, rfl, bool_f (by rw [Pck_eq]; simp_all), hp.chg⟩
set_option maxHeartbeats 40000000 in
theorem efP_ok {Aa : Option Addr} {ca : Nat} {a : List Pck} {Sa : Nat → Prop} {Ab : Option Addr} {cb : Nat} {b : List Pck} {Sb : Nat → Prop} (ha : GS pickR Sa w Aa ca a) (hb : GS pickR Sb w Ab cb b) : Ret prog 72 #[.slice Aa a.length ca, .slice Ab b.length cb, .func (.func 68) #[] #[]] w (fun v w' => v = .bool (decide (a = b)) ∧ Ext w w') := by
 have mha:=ha.mx
 have mhb:=hb.mx
 refine ret_of_wk func72 rfl ntmps72 leB_ ?_
 have hp:=HP.begin_ w
 replace ha:=ha.now
 replace hb:=hb.now
 refine go ?_
 refine Ln_ underlying35 rfl (go ?_)
 refine Ln_ underlying35 rfl ?_
 refine Ne_ rfl rfl (go ?_)
 refine Cd (fun hne => ?_) fun hne => ?_
 refine go ?_
 refine P1 results72 ?_
 exact ⟨_, rfl, bool_f (fun e => hne (by rw [e])), hp.chg⟩
 have hll : a.length = b.length := by omega
 refine go ?_
 refine Ln_ underlying35 rfl (go ?_)
 refine wc_loop (fun L' w' mes => ∃ (k : Nat), L' = [(1, .slice Ab b.length cb), (2, .func (.func 68) #[] #[]), (15, .slice Aa a.length ca), (16, iv (a.length : Int)), (17, iv (k : Int))] ∧ (k ≤ a.length) ∧ (a.take k = b.take k) ∧ (GS pickR (fun b => b < w.heap.size) w' Aa ca a) ∧ (GS pickR (fun b => b < w.heap.size) w' Ab cb b) ∧ (HP w (fun _ => False) (fun b => b < w.heap.size) w' ([])) ∧ a.length - k = mes) [(1, .slice Ab b.length cb), (2, .func (.func 68) #[] #[]), (15, .slice Aa a.length ca), (16, iv (a.length : Int)), (17, iv (0 : Int))] (a.length - 0) (by
     refine ⟨0, rfl, ?_, ?_, ?_, ?_, ?_, rfl⟩
     · omega
     · simp
     · exact ha
     · exact hb
     · exact hp) ⟨rfl, rfl, rfl, rfl, rfl, trivial⟩ ?_
 rintro _ wr _ ⟨k, rfl, hk, htk, ha, hb, hp, rfl⟩ KL1 hKL1
 refine go ?_
 refine Ls_ rfl rfl (go ?_)
 refine Cd (fun hlt => ?_) fun hlt => ?_
 refine go ?_
 obtain ⟨ae1, pe1_0, qe1_0, hAe1, hate1, hIe1, he1_0⟩ := pickR_el ha k (by omega)
 refine wl_idx0 (by decide) sl35 rfl rfl hAe1 k rfl (by omega) ?_
 refine wl_loadA (by decide) ag66 rfl hate1.at_ rfl ?_
 refine wl_halloc (z := .agg #[iv 0, .int .u8 0, .int .u8 0, .int .u8 0, .int .u8 0, .int .u8 0, .int .u8 0, .int .u8 0, .int .u8 0, .int .u8 0, .int .u8 0, .int .u8 0, .int .u8 0, .int .u8 0, .int .u8 0, .int .u8 0, .int .u8 0, .int .u8 0, .int .u8 0, .int .u8 0, .int .u8 0, .int .u8 0, .int .u8 0, .int .u8 0, .int .u8 0, .int .u8 0, .int .u8 0, .int .u8 0, .int .u8 0, .int .u8 0, .int .u8 0, .int .u8 0, .int .u8 0, s0]) (by decide) (by kernel_rfl) hp ?_
 rintro gs8 w2 hp2 hE2
 have q0:=hE2
 replace hp:=hp2
 refine go ?_
 refine wl_hstore (i := 0) rfl rfl hp rfl sz66 leB_ (List.all_eq_true.1 rfl) ?_
 rintro w3 hp3 hC3
 have q1:=ha.tk.ext q0
 replace q1:=q1.fz hC3
 replace hp:=hp3
 refine go ?_
 obtain ⟨ae4, pe4_0, qe4_0, hAe4, hate4, hIe4, he4_0⟩ := pickR_el (hb.fr q1) k (by omega)
 refine wl_idx0 (by decide) sl35 rfl rfl hAe4 k rfl (by omega) ?_
 refine wl_loadA (by decide) ag66 rfl hate4.at_ rfl ?_
 refine wl_halloc (z := .agg #[iv 0, .int .u8 0, .int .u8 0, .int .u8 0, .int .u8 0, .int .u8 0, .int .u8 0, .int .u8 0, .int .u8 0, .int .u8 0, .int .u8 0, .int .u8 0, .int .u8 0, .int .u8 0, .int .u8 0, .int .u8 0, .int .u8 0, .int .u8 0, .int .u8 0, .int .u8 0, .int .u8 0, .int .u8 0, .int .u8 0, .int .u8 0, .int .u8 0, .int .u8 0, .int .u8 0, .int .u8 0, .int .u8 0, .int .u8 0, .int .u8 0, .int .u8 0, .int .u8 0, s0]) (by decide) (by kernel_rfl) hp ?_
 rintro gs9 w5 hp5 hE5
 replace q1:=q1.ext hE5
 have q2:=hE5
 replace hp:=hp5
 refine wl_hstore (i := 0) rfl rfl hp rfl sz66 leB_ (List.all_eq_true.1 rfl) ?_
 rintro w6 hp6 hC6
 replace q1:=q1.fz hC6
 have q3:=he4_0.tk.ext q2
 replace q3:=q3.fz hC6
 replace hp:=hp6
 refine go ?_
 refine Hx_ ([iv ((a.getD k pick0).seq)] ++ (digC ((a.getD k pick0).dig) ++ ([.slice pe1_0 ((a.getD k pick0).batch).length qe1_0]))) 1 ag66 rfl hp rfl rfl rfl ?_
 refine Hx_ ([iv ((b.getD k pick0).seq)] ++ (digC ((b.getD k pick0).dig) ++ ([.slice pe4_0 ((b.getD k pick0).batch).length qe4_0]))) 0 ag66 rfl hp rfl rfl rfl ?_
 have hcl:=same1_ok ⟨hIe1, _, _, rfl, (he1_0.fr q1)⟩ ⟨hIe4, _, _, rfl, (he4_0.fr q3)⟩
 refine wl_callv (f := 68) (first := []) (cap := []) (by decide) cl68 rfl rfl hcl ?_
 clear hcl
 rintro _ w7 ⟨rfl, hE7⟩
 replace q1:=q1.ext hE7
 replace hp:=hp.ext hE7
 first | refine Nd_ rfl ?_ | refine Nn_ rfl ?_
 refine go ?_
 refine Cd (fun hne2 => ?_) fun hne2 => ?_
 refine go ?_
 refine P1 results72 ?_
 exact ⟨_, rfl, bool_f (fun e => hne2 (by rw [e])), hp.chg⟩
 replace hne2:=Decidable.not_not.1 hne2
 refine go ?_
 refine wl_add (by decide) rfl rfl (w64 (by omega) (by omega)) (gl ?_)
 refine wk_drop [(1, .slice Ab b.length cb), (2, .func (.func 68) #[] #[]), (15, .slice Aa a.length ca), (16, iv (a.length : Int)), (17, iv ((k + 1) : Int))] ⟨rfl, rfl, rfl, rfl, rfl, trivial⟩ (hKL1 _ _ (m2 := a.length - (k + 1)) ?_ ?_)
 refine ⟨(k + 1), rfl, ?_, ?_, ?_, ?_, ?_, rfl⟩
 omega
 rw [take_snoc pick0 (by omega : k < a.length), take_snoc pick0 (by omega : k < b.length), htk, hne2]
 exact (ha.fr q1)
 exact (hb.fr q1)
 exact hp.tail.tail
 omega
 have hkl : k = a.length := by omega
 refine go ?_
 refine P1 results72 ?_
 exact ⟨_, rfl, bool_t (by rw [hkl, List.take_length, hll, List.take_length] at htk; exact htk), hp.chg⟩
end Go.Proofs.YtkdoomglflikkaaGreat
namespace Go.Eng
open Go.RowKit
section
variable {P : Program} {n : Nat} {ops : Array Oper} {L0 : List (Nat × Value)} {I : (Nat → Bool) → (Nat → Option Value) → World → Prop} {Rl : Nat → (Nat → Option Value) → Value → World → World → Prop} {Φ : Nat → Value → World → Prop}
structure DV (n : Nat) (ops : Array Oper) (L0 : List (Nat × Value)) (I : (Nat → Bool) → (Nat → Option Value) → World → Prop) (Φ : Nat → Value → World → Prop) (listed : Array Bool) (a : Act) (w : World) : Prop where
 lsz : listed.size = ops.size
 size : a.tmps.size = n
 defers : a.defers = []
 ext : I (fun j => listed.getD j true) (fun x => a.tmps[x]?) w
 closed : ∀ j, j < ops.size → listed.getD j true = true → ∀ e ∈ edgesOf ops j, listed.getD e false = true
 init : ∀ x v, lk L0 x = some v → (∀ j, j < ops.size → dstOf ops j = some x → listed.getD j true = false) → a.tmps[x]? = some v
 done : ∀ j, j < ops.size → listed.getD j true = true → ∀ d, dstOf ops j = some d → ∃ v, a.tmps[d]? = some v ∧ Φ j v w
theorem DV.listedOf {listed : Array Bool} {a : Act} {w : World} (h : DV n ops L0 I Φ listed a w) : ∀ (f i p : Nat), (∀ e ∈ edgesOf ops i, listed.getD e false = true) → anc ops f i p = true → listed.getD p false = true := by
 intro f
 induction f with
 | zero => intro i p _ hh; simp [anc] at hh
 | succ f ih =>
  intro i p he hh
  simp only [anc, List.any_eq_true, Bool.or_eq_true] at hh
  obtain ⟨e, hm, hor⟩ := hh
  rcases hor with hb | hb
  ·rw [← Nat.eq_of_beq_eq_true hb]; exact he e hm
  ·have h1 := he e hm
   have hlt : e < listed.size := by
    rcases Nat.lt_or_ge e listed.size with hl | hl
    ·exact hl
    ·rw [Array.getD_eq_getD_getElem?, Array.getElem?_eq_none hl] at h1; cases h1
   have h2 : listed.getD e true = true := by
    rw [Array.getD_eq_getD_getElem?, Array.getElem?_eq_getElem hlt] at h1 ⊢; exact h1
   exact ih e p (h.closed e (by rw [← h.lsz]; exact hlt) h2) hb
theorem DV.kn {listed : Array Bool} {a : Act} {w : World} (h : DV n ops L0 I Φ listed a w) {i : Nat} (hi : i ∈ Region.ready .any ops listed) : Kn ops L0 Φ i (fullL a) w := by
 obtain ⟨h0, o, ho, he⟩ := edges_listed hi
 refine ⟨fun x v hx hok => ?_, fun p hp d hd => ?_⟩
 ·rw [lk_full]
  refine h.init x v hx fun j hj hd => ?_
  simp only [okInit, List.all_eq_true, List.mem_range] at hok
  have := hok j hj
  rw [hd] at this
  have hxx : Nat.beq x x = true := by simp
  simp only [hxx, Bool.not_true, Bool.false_or, Bool.or_eq_true] at this
  rcases this with hb | hb
  ·rw [Nat.eq_of_beq_eq_true hb]; exact h0
  ·cases hl : listed.getD j true with
   | false => rfl
   | true =>
    have := getD_true_of_false (DV.listedOf h ops.size j i (h.closed j hj hl) hb)
    rw [h0] at this
    cases this
 ·rw [lk_full]
  have hl := DV.listedOf h ops.size i p he hp
  exact h.done p (by rw [← h.lsz]; exact lt_of_getD hl) (getD_true_of_false hl) d hd
theorem DV.next {listed : Array Bool} {a a' : Act} {w w' : World} (h : DV n ops L0 I Φ listed a w) (hst : ∀ i j v f T u w w', i ≠ j → f i = false → f j = true → (∀ p ∈ edgesOf ops i, f p = true) → I f T w → Rl i T u w w' → Φ j v w → Φ j v w') (hI : ∀ i f T T' v w w', f i = false → (∀ p ∈ edgesOf ops i, f p = true) → I f T w → Rl i T v w w' → (∀ x, dstOf ops i ≠ some x → ∀ u, T x = some u → T' x = some u) → (∀ d, dstOf ops i = some d → T' d = some v) → Φ i v w' → I (fun j => if j = i then true else f j) T' w') (h1 : oneEach ops = true)
  {i : Nat} (hi : i ∈ Region.ready .any ops listed) (hq : QR n (fullL a) (dstOf ops i) (fun v w' => Rl i (fun x => a.tmps[x]?) v w w' ∧ Φ i v w') .normal a' w') :
  DV n ops L0 I Φ (listed.setIfInBounds i true) a' w' := by
 obtain ⟨h0, o, ho, he⟩ := edges_listed hi
 have hlt : i < ops.size := (Array.getElem?_eq_some_iff.1 ho).1
 have hlt' : i < listed.size := by rw [h.lsz]; exact hlt
 obtain ⟨_, hq⟩ := hq
 have key : ∃ v, a'.tmps.size = n ∧ a'.defers = [] ∧ Rl i (fun x => a.tmps[x]?) v w w' ∧ (∀ x, dstOf ops i ≠ some x → ∀ v, a.tmps[x]? = some v → a'.tmps[x]? = some v) ∧ (∀ d, dstOf ops i = some d → a'.tmps[d]? = some v) ∧ Φ i v w' := by
  cases hd : dstOf ops i with
  | none =>
   rw [hd] at hq
   obtain ⟨hf, hE, hv⟩ := hq
   exact ⟨undef, hf.size, hf.defers, hE, fun x _ v hv => hf.get x v (by rw [lk_full]; exact hv), (fun d hd => by cases hd), hv⟩
  | some d =>
   rw [hd] at hq
   obtain ⟨v, hf, hE, hv⟩ := hq
   refine ⟨v, hf.size, hf.defers, hE, fun x hx u hu => hf.get x u ?_, fun d' hd' => ?_, hv⟩
   ·simp only [lk]
    have : Nat.beq x d = false := by
     cases hb : Nat.beq x d
     ·rfl
     ·exact absurd (by rw [Nat.eq_of_beq_eq_true hb]) hx
    rw [this, cond_false, lk_full]
    exact hu
   ·cases hd'
    refine hf.get d v ?_
    have : Nat.beq d d = true := by simp
    simp only [lk, this, cond_true]
 obtain ⟨v, k1, k2, k3, k4, k5, k6⟩ := key
 have hne : ∀ j, j < ops.size → j ≠ i → ∀ d, dstOf ops j = some d → dstOf ops i ≠ some d := by
  intro j hj hji d hd hd'
  simp only [oneEach, List.all_eq_true, List.mem_range, Bool.or_eq_true] at h1
  rcases h1 i hlt j hj with hb | hb
  ·exact hji (Nat.eq_of_beq_eq_true hb).symm
  ·rw [hd, hd'] at hb
   have : Nat.beq d d = true := by simp
   simp at hb
 refine ⟨by simpa using h.lsz, k1, k2, (by
  have := hI i _ _ (fun x => a'.tmps[x]?) v _ _ h0 (fun p hp => getD_true_of_false (he p hp)) h.ext k3 k4 k5 k6
  have e : (fun j => if j = i then true else listed.getD j true) = fun j => (listed.setIfInBounds i true).getD j true := funext fun j => (getD_set listed i j true hlt').symm
  rwa [e] at this), ?_, ?_, ?_⟩
 ·intro j hj hl e hm
  rw [getD_set _ _ _ _ hlt'] at hl ⊢
  split
  ·rfl
  ·by_cases e' : j = i
   ·subst e'; exact he e hm
   ·rw [if_neg e'] at hl; exact h.closed j hj hl e hm
 ·intro x v hx hn
  refine k4 x (fun hd => ?_) v (h.init x v hx fun j hj hd => ?_)
  ·have := hn i hlt hd
   rw [getD_set _ _ _ _ hlt', if_pos rfl] at this
   cases this
  ·have := hn j hj hd
   rw [getD_set _ _ _ _ hlt'] at this
   split at this
   ·cases this
   ·exact this
 ·intro j hj hl d hd
  rw [getD_set _ _ _ _ hlt'] at hl
  by_cases e : j = i
  ·subst e; exact ⟨v, k5 d hd, k6⟩
  ·rw [if_neg e] at hl
   obtain ⟨v, hv, hp⟩ := h.done j hj hl d hd
   exact ⟨v, k4 d (hne j hj e d hd) v hv, hst i j v _ _ _ w w' (Ne.symm e) h0 hl (fun p hp => getD_true_of_false (he p hp)) h.ext k3 hp⟩
theorem wc_drawV {id : Nat} {pre tl : List Oper} {Q : Exit → Act → World → Prop} {L : List (Nat × Value)} {w : World} (Φ : Nat → Value → World → Prop) (I : (Nat → Bool) → (Nat → Option Value) → World → Prop) (Rl : Nat → (Nat → Option Value) → Value → World → World → Prop) (hm : P.follows .mixedOrders = true)
  (hB : (fwd (pre ++ tl).toArray && oneEach (pre ++ tl).toArray && chainB (pre ++ tl).toArray pre.length) = true)
  (hI0 : ∀ f T k, (∀ j, j < (pre ++ tl).length → f j = false) → I f T { w with drawn := k }) (hI : ∀ i f T T' v w w', f i = false → (∀ p ∈ edgesOf (pre ++ tl).toArray i, f p = true) → I f T w → Rl i T v w w' → (∀ x, dstOf (pre ++ tl).toArray i ≠ some x → ∀ u, T x = some u → T' x = some u) → (∀ d, dstOf (pre ++ tl).toArray i = some d → T' d = some v) → Φ i v w' → I (fun j => if j = i then true else f j) T' w') (hst : ∀ i j v f T u w w', i ≠ j → f i = false → f j = true → (∀ p ∈ edgesOf (pre ++ tl).toArray i, f p = true) → I f T w → Rl i T u w w' → Φ j v w → Φ j v w')
  (H : ∀ i o, pre[i]? = some o → ∀ f F w', f i = false → (∀ p ∈ edgesOf (pre ++ tl).toArray i, f p = true) → I f (lk F) w' → Kn (pre ++ tl).toArray L Φ i F w' → WL P n (pre ++ tl).toArray (QR n F (dstOf (pre ++ tl).toArray i) fun v w'' => Rl i (lk F) v w' w'' ∧ Φ i v w'') [o] F w')
  (hQ : ∀ f F w', (∀ j, j < pre.length → f j = true) → I f (lk F) w' → (∀ x v, lk L x = some v → ((List.range pre.length).all fun j => match dstOf (pre ++ tl).toArray j with | some d => !Nat.beq d x | none => true) = true → lk F x = some v) →
   (∀ j d, j < pre.length → dstOf (pre ++ tl).toArray j = some d → ∃ v, lk F d = some v ∧ Φ j v w') → WL P n (pre ++ tl).toArray Q tl F w') :
  WK n ((Code.region id (pre ++ tl).toArray true).wp P Q) L w := by
 simp only [Bool.and_eq_true] at hB
 obtain ⟨⟨hf, h1⟩, hT⟩ := hB
 have hsz : (pre ++ tl).toArray.size = pre.length + tl.length := by simp
 intro a ha
 have key : ∀ (fuel : Nat) (listed : Array Bool) (a : Act) (w' : World), listed.toList.count false ≤ fuel → (∀ j, pre.length ≤ j → j < (pre ++ tl).toArray.size → listed.getD j true = false) → DV n (pre ++ tl).toArray L I Φ listed a w' → wpAny P .any (pre ++ tl).toArray Q fuel listed a w' := by
  intro fuel
  have atEnd : ∀ (listed : Array Bool) (a : Act) (w' : World), DV n (pre ++ tl).toArray L I Φ listed a w' → (∀ j, j < pre.length → listed.getD j true = true) → (∀ j, pre.length ≤ j → j < (pre ++ tl).toArray.size → listed.getD j true = false) →
    wpList P (pre ++ tl).toArray Q tl a w' := by
   intro listed a w' hD hall hnot
   have lkf : lk (fullL a) = fun x => a.tmps[x]? := funext fun x => lk_full a x
   refine hQ _ (fullL a) w' hall (by rw [lkf]; exact hD.ext) (fun x v hx hu => ?_) (fun j d hj hd => ?_) a (by have := fr_full a hD.defers; rwa [hD.size] at this)
   ·rw [lk_full]
    refine hD.init x v hx fun j hj hd => ?_
    rcases Nat.lt_or_ge j pre.length with hlt | hge
    ·simp only [List.all_eq_true, List.mem_range] at hu
     have := hu j hlt
     rw [hd] at this
     have hxx : Nat.beq x x = true := by simp
     simp at this
    ·exact hnot j hge hj
   ·rw [lk_full]
    exact hD.done j (by omega) (hall j hj) d hd
  have allIn : ∀ (listed : Array Bool) (a : Act) (w' : World) (fuel : Nat), DV n (pre ++ tl).toArray L I Φ listed a w' → (∀ j, j < pre.length → listed.getD j true = true) → (∀ j, pre.length ≤ j → j < (pre ++ tl).toArray.size → listed.getD j true = false) → listed.toList.count false ≤ fuel →
    wpAny P .any (pre ++ tl).toArray Q fuel listed a w' := by
   intro listed a w' fuel hD hall hnot hc
   refine tail_any (m := pre.length) hf hT fuel pre.length listed a w' (Nat.le_refl _) (by simp) hD.lsz hall hnot hc ?_
   rw [List.drop_left]
   exact atEnd listed a w' hD hall hnot
  induction fuel with
  | zero =>
   intro listed a w' hc hnt hD
   have hr := ready_of_count hD.lsz (by omega)
   have hall := all_listed hD.lsz hf hr
   exact allIn listed a w' 0 hD (fun j hj => hall j (by omega)) hnt hc
  | succ fuel ih =>
   intro listed a w' hc hnt hD
   by_cases hall : ∀ j, j < pre.length → listed.getD j true = true
   ·exact allIn listed a w' (fuel + 1) hD hall hnt hc
   ·refine ⟨fun hr => absurd (fun j hj => all_listed hD.lsz hf hr j (by omega)) hall, fun i hi => ?_⟩
    obtain ⟨h0, o, ho, he⟩ := edges_listed hi
    have hol : (pre ++ tl)[i]? = some o := by simpa using ho
    have hil : i < pre.length + tl.length := by rw [← hsz]; exact (Array.getElem?_eq_some_iff.1 ho).1
    have hlt : i < pre.length := by
     rcases Nat.lt_or_ge i pre.length with h | h
     ·exact h
     ·exfalso
      apply hall
      intro j hj
      have hT' := hT
      simp only [chainB, List.all_eq_true, List.mem_range, Bool.or_eq_true, decide_eq_true_eq] at hT'
      rcases hT' i (by omega) with h' | h'
      ·omega
      ·exact getD_true_of_false (DV.listedOf hD _ i j he (h' j (by omega)))
    have hop : pre[i]? = some o := by rwa [List.getElem?_append_left hlt] at hol
    have hfr := fr_full a hD.defers
    rw [hD.size] at hfr
    have lkf : lk (fullL a) = fun x => a.tmps[x]? := funext fun x => lk_full a x
    have hw := H i o hop _ (fullL a) w' h0 (fun p hp => getD_true_of_false (he p hp)) (by rw [lkf]; exact hD.ext) (hD.kn hi) a hfr
    rw [lkf] at hw
    have hnext : ∀ a' w'', QR n (fullL a) (dstOf (pre ++ tl).toArray i) (fun v w'' => Rl i (fun x => a.tmps[x]?) v w' w'' ∧ Φ i v w'') .normal a' w'' → wpAny P .any (pre ++ tl).toArray Q fuel (listed.setIfInBounds i true) a' w'' := fun a' w'' hq =>
     ih _ _ _ (by have := count_step h0; omega) (fun j hj hjl => by rw [getD_set _ _ _ _ (by rw [hD.lsz, hsz]; exact hil), if_neg (by omega)]; exact hnt j hj hjl) (hD.next hst hI h1 hi hq)
    unfold wpOp
    rw [ho]
    unfold wpList at hw
    simp only
    split
    ·rename_i hwn
     rw [if_pos hwn] at hw
     rcases hw with hw | ⟨_, a1, w1, hx, _⟩
     ·exact .inl (Oper.wp_mono2 (fun a' w'' h => hnext a' w'' h) (fun e a w hne h => absurd h.1 hne) hw)
     ·cases hx
    ·rename_i hwn
     rw [if_neg hwn] at hw
     exact hnext _ _ hw
 have hdi : DV n (pre ++ tl).toArray L I Φ (Array.replicate (pre ++ tl).toArray.size false) a { w with drawn := w.drawn + 1 } := by
  refine ⟨by simp, ha.size, ha.defers, hI0 _ _ _ (fun j hj => by rw [Array.getD_eq_getD_getElem?, Array.getElem?_replicate, if_pos (by simpa using hj)]; rfl), fun j hj hl => ?_, fun x v hx _ => ha.get x v hx, fun j hj hl => ?_⟩
  ·rw [Array.getD_eq_getD_getElem?, Array.getElem?_replicate, if_pos hj] at hl; cases hl
  ·rw [Array.getD_eq_getD_getElem?, Array.getElem?_replicate, if_pos hj] at hl; cases hl
 refine wp_region_any hm (key _ _ _ _ (by simp) (fun j _ hj => ?_) hdi)
 rw [Array.getD_eq_getD_getElem?, Array.getElem?_replicate, if_pos hj]
 rfl
end
end Go.Eng
namespace Go.Eng
open Go.RowKit
section
variable {P : Program} {n : Nat} {Q : Exit → Act → World → Prop} {L : List (Nat × Value)} {w : World}
def RlW (iA iB e tA eA : Nat) (zs xs : List Value) (i : Nat) (T : Nat → Option Value) (v : Value) (w w' : World) : Prop :=
 if i = e then ∃ g, T tA = some (.pointer (some ⟨g, 0, none⟩)) ∧ Chg (fun b => b = g) w w' ∧ Blk w' g eA xs
 else if i = iA ∨ i = iB then Ext w w' ∧ v = .pointer (some ⟨w.heap.size, 0, none⟩) ∧ Blk w' w.heap.size eA zs
 else Ext w w'
def okW (ops : Array Oper) (iA iB e tA tB : Nat) : Bool :=
 decide (iA ≠ e) && decide (iB ≠ e) && decide (iA ≠ iB) && decide (tA ≠ tB) && decide (iA < ops.size) && decide (iB < ops.size) && decide (e < ops.size) && (dstOf ops e == none) && (dstOf ops iA == some tA) && (dstOf ops iB == some tB) && (edgesOf ops e).contains iA && (edgesOf ops e).contains iB &&
  (List.range ops.size).all fun i => (decide (i = iA) || !(dstOf ops i == some tA)) && (decide (i = iB) || !(dstOf ops i == some tB))
theorem dst_lt {ops : Array Oper} {i d : Nat} (h : dstOf ops i = some d) : i < ops.size := by
 unfold dstOf at h
 rcases Nat.lt_or_ge i ops.size with hl | hl
 ·exact hl
 ·rw [Array.getElem?_eq_none hl] at h; cases h
theorem Blk.keepC {w w' : World} {K : Nat → Prop} {g e : Nat} {cs : List Value} (h : Blk w g e cs) (hc : Chg K w w') (hk : ¬ K g) : Blk w' g e cs :=
 (hc.block g (Array.getElem?_eq_some_iff.1 h).1 hk).trans h
theorem wc_drawW {id : Nat} (m iA iB e tA tB eA : Nat) (zs xs : List Value) {l : List Oper} (Φ : List SP) (hm : P.follows .mixedOrders = true) (hB : drawnB (l.take m) (l.drop m) = true) (hO : okW l.toArray iA iB e tA tB = true) (hem : (decide (e < m) && decide (iA < m) && decide (iB < m)) = true)
  (hS : AllSt (fun b => w.heap.size ≤ b) l.length 0 Φ) (hN : Φ.length ≤ l.length)
  (H : AllOps (fun i o => ∀ F w', Ext w w' → Kn l.toArray L (fun i => (spAt Φ i).p) i F w' → (i = e → ∃ g, lk F tA = some (.pointer (some ⟨g, 0, none⟩)) ∧ Blk w' g eA zs) → WL P n l.toArray (QR n F (dstOf l.toArray i) fun v w'' => RlW iA iB e tA eA zs xs i (lk F) v w' w'' ∧ (spAt Φ i).p v w'') [o] F w') 0 (l.take m))
  (hQ : ∀ F w', Ext w w' → (∀ x v, lk L x = some v → ((List.range (l.take m).length).all fun j => match dstOf l.toArray j with | some d => !Nat.beq d x | none => true) = true → lk F x = some v) →
   (∀ j d, j < (l.take m).length → dstOf l.toArray j = some d → ∃ v, lk F d = some v ∧ (spAt Φ j).p v w') →
   (∃ gA gB, gA ≠ gB ∧ w.heap.size ≤ gA ∧ w.heap.size ≤ gB ∧ lk F tA = some (.pointer (some ⟨gA, 0, none⟩)) ∧ lk F tB = some (.pointer (some ⟨gB, 0, none⟩)) ∧ Blk w' gA eA xs ∧ Blk w' gB eA zs) → WL P n l.toArray Q (l.drop m) F w') :
  WK n ((Code.region id l.toArray true).wp P Q) L w := by
 have e0 : l.take m ++ l.drop m = l := List.take_append_drop m l
 simp only [okW, Bool.and_eq_true, decide_eq_true_eq, beq_iff_eq, List.all_eq_true, List.mem_range, Bool.or_eq_true, Bool.not_eq_true', beq_eq_false_iff_ne, List.contains_iff_mem] at hO hem
 obtain ⟨⟨⟨⟨⟨⟨⟨⟨⟨⟨⟨⟨o1, o2⟩, o3⟩, o4⟩, o5⟩, o6⟩, o7⟩, o8⟩, o9⟩, o10⟩, o11⟩, o12⟩, o13⟩ := hO
 have uA : ∀ i, dstOf l.toArray i = some tA → i = iA := fun i hi => by
  rcases (o13 i (dst_lt hi)).1 with h | h
  ·exact h
  ·exact absurd hi h
 have uB : ∀ i, dstOf l.toArray i = some tB → i = iB := fun i hi => by
  rcases (o13 i (dst_lt hi)).2 with h | h
  ·exact h
  ·exact absurd hi h
 have hml : m ≤ l.length ∨ l.length < m := by omega
 have key := wc_drawV (P := P) (n := n) (id := id) (pre := l.take m) (tl := l.drop m) (Q := Q) (L := L) (w := w) (fun i => (spAt Φ i).p)
  (fun f T w' => Ext w w' ∧ (f e = true → f iA = true ∧ f iB = true) ∧ (f iA = true → ∃ g, T tA = some (.pointer (some ⟨g, 0, none⟩)) ∧ w.heap.size ≤ g ∧ Blk w' g eA (if f e = true then xs else zs)) ∧
   (f iB = true → ∃ g, T tB = some (.pointer (some ⟨g, 0, none⟩)) ∧ w.heap.size ≤ g ∧ Blk w' g eA zs ∧ (f iA = true → T tA ≠ some (.pointer (some ⟨g, 0, none⟩)))))
  (RlW iA iB e tA eA zs xs) hm hB
 rw [e0] at key
 refine key (fun f T k hf => ?_) (fun i f T T' v w1 w2 hfi hed hI hR hk hd hΦ => ?_) (fun i j v f T u w1 w2 hij hfi _ hed hI hR h => ?_) (fun i o ho f F w' hfi hed hI hK => ?_) (fun f F w' hf hI h2 h3 => ?_)
 ·refine ⟨⟨rfl, rfl, rfl, Nat.le_refl _, fun _ _ _ => rfl⟩, fun h => ?_, fun h => ?_, fun h => ?_⟩
  ·rw [hf e (by simpa using o7)] at h; cases h
  ·rw [hf iA (by simpa using o5)] at h; cases h
  ·rw [hf iB (by simpa using o6)] at h; cases h
 ·obtain ⟨hE, hcl, hA, hBB⟩ := hI
  unfold RlW at hR
  by_cases hie : i = e
  ·subst hie
   rw [if_pos rfl] at hR
   obtain ⟨g, hg, hch, hbx⟩ := hR
   have fA := hed iA o11
   have fB := hed iB o12
   obtain ⟨g', hg', hlo, _⟩ := hA fA
   obtain rfl : g' = g := by rw [hg] at hg'; injection hg' with h; injection h with h; injection h with h; injection h with h; exact h.symm
   obtain ⟨gB, hgB, hloB, hbB, hne⟩ := hBB fB
   refine ⟨hE.step hch (fun b hb hbg => by omega), fun _ => ⟨by simp [o1, fA], by simp [o2, fB]⟩, fun _ => ⟨g', hk tA (by rw [o8]; simp) _ hg, hlo, by simpa using hbx⟩, fun _ => ⟨gB, hk tB (by rw [o8]; simp) _ hgB, hloB, hbB.keepC hch (fun h => hne fA (by rw [h]; exact hg)), fun _ h => hne fA ?_⟩⟩
   rw [hk tA (by rw [o8]; simp) _ hg] at h
   rw [hg]; exact h
  ·rw [if_neg hie] at hR
   by_cases hAB : i = iA ∨ i = iB
   ·rw [if_pos hAB] at hR
    obtain ⟨hX, rfl, hb⟩ := hR
    rcases hAB with rfl | rfl
    ·have fe : f e = false := by
      cases h : f e with
      | false => rfl
      | true => have := (hcl h).1; rw [hfi] at this; cases this
     refine ⟨hE.trans hX, fun h => ?_, fun _ => ⟨_, hd tA o9, hE.size, ?_⟩, fun h => ?_⟩
     ·simp [Ne.symm hie, fe] at h
     ·simp only [Ne.symm hie, if_false, fe]; exact hb
     ·have fB : f iB = true := by simpa [Ne.symm o3] using h
      obtain ⟨gB, hgB, hloB, hbB, _⟩ := hBB fB
      refine ⟨gB, hk tB (by rw [o9]; intro h; injection h with h; exact o4 h) _ hgB, hloB, hbB.keepC hX (fun x => x), fun _ h => ?_⟩
      rw [hd tA o9] at h
      injection h with h; injection h with h; injection h with h; injection h with h
      have := (Array.getElem?_eq_some_iff.1 hbB).1
      omega
    ·have fe : f e = false := by
      cases h : f e with
      | false => rfl
      | true => have := (hcl h).2; rw [hfi] at this; cases this
     refine ⟨hE.trans hX, fun h => ?_, fun h => ?_, fun _ => ⟨_, hd tB o10, hE.size, hb, fun h => ?_⟩⟩
     ·simp [Ne.symm hie, fe] at h
     ·have fA : f iA = true := by simpa [o3] using h
      obtain ⟨gA, hgA, hloA, hbA⟩ := hA fA
      refine ⟨gA, hk tA (by rw [o10]; intro h; injection h with h; exact o4 h.symm) _ hgA, hloA, ?_⟩
      simp only [Ne.symm hie, if_false, fe] at hbA ⊢
      exact hbA.keepC hX (fun x => x)
     ·have fA : f iA = true := by simpa [o3] using h
      obtain ⟨gA, hgA, hloA, hbA⟩ := hA fA
      intro h'
      rw [hk tA (by rw [o10]; intro h; injection h with h; exact o4 h.symm) _ hgA] at h'
      injection h' with h'; injection h' with h'; injection h' with h'; injection h' with h'
      have := (Array.getElem?_eq_some_iff.1 hbA).1
      omega
   ·rw [if_neg hAB] at hR
    have nA : iA ≠ i := fun h => hAB (.inl h.symm)
    have nB : iB ≠ i := fun h => hAB (.inr h.symm)
    have ne : e ≠ i := fun h => hie h.symm
    simp only [nA, nB, ne, if_false]
    refine ⟨hE.trans hR, hcl, fun h => ?_, fun h => ?_⟩
    ·obtain ⟨g, a, b, c⟩ := hA h
     exact ⟨g, hk tA (fun h => hAB (.inl (uA i h))) _ a, b, c.keepC hR (fun x => x)⟩
    ·obtain ⟨g, a, b, c, d⟩ := hBB h
     refine ⟨g, hk tB (fun h => hAB (.inr (uB i h))) _ a, b, c.keepC hR (fun x => x), fun h' h'' => ?_⟩
     obtain ⟨g', a', _, _⟩ := hA h'
     have := hk tA (fun h => hAB (.inl (uA i h))) _ a'
     rw [this] at h''
     exact d h' (by rw [a']; exact h'')
 ·unfold RlW at hR
  by_cases hie : i = e
  ·rw [if_pos hie] at hR
   obtain ⟨g, hg, hch, _⟩ := hR
   subst hie
   obtain ⟨hE, hcl, hA, hBB⟩ := hI
   have : w.heap.size ≤ g := by
    obtain ⟨g', hg', hlo, _⟩ := hA (hed iA o11)
    rw [hg] at hg'; injection hg' with h; injection h with h; injection h with h; injection h with h
    omega
   rcases Nat.lt_or_ge j Φ.length with hj | hj
   ·exact hS.at_ j (by omega) v w1 w2 (hch.weak (fun b _ hb => by rw [hb]; exact this)) h
   ·have : spAt Φ j = SP.any := by unfold spAt; rw [List.getElem?_eq_none hj]; rfl
    rw [this]; trivial
  ·rw [if_neg hie] at hR
   have hX : Ext w1 w2 := by
    split at hR
    ·exact hR.1
    ·exact hR
   exact (spAt Φ j).st v w1 w2 hX h
 ·have := H.at_ i o ho
  rw [Nat.zero_add] at this
  refine this F w' hI.1 hK (fun hie => ?_)
  subst hie
  obtain ⟨g, a, _, c⟩ := hI.2.2.1 (hed iA o11)
  rw [hfi] at c
  exact ⟨g, a, by simpa using c⟩
 ·have hlen : ∀ j, j < m → j < l.length → f j = true := fun j a b => hf j (by rw [List.length_take]; omega)
  have fe := hlen e (by omega) (by simpa using o7)
  have fA := hlen iA (by omega) (by simpa using o5)
  have fB := hlen iB (by omega) (by simpa using o6)
  obtain ⟨hE, _, hA, hBB⟩ := hI
  obtain ⟨gA, a1, a2, a3⟩ := hA fA
  obtain ⟨gB, b1, b2, b3, b4⟩ := hBB fB
  rw [if_pos fe] at a3
  exact hQ F w' hE h2 h3 ⟨gA, gB, fun h => b4 fA (by rw [← h]; exact a1), a2, b2, a1, b1, a3, b3⟩
variable {tA eA iA iB e i : Nat} {zs xs : List Value} {T : Nat → Option Value} {v : Value} {w' w0 : World} {M0 Fz : Nat → Prop} {H : List It}
theorem RlW.o (h1 : i ≠ e) (h2 : i ≠ iA) (h3 : i ≠ iB) (h : Ext w w') : RlW iA iB e tA eA zs xs i T v w w' := by
 unfold RlW
 rw [if_neg h1, if_neg (fun h => h.elim h2 h3)]
 exact h
theorem RlW.a (h1 : i = iA ∨ i = iB) (h2 : i ≠ e) (hb : Blk w' w.heap.size eA zs) (h : Ext w w') : RlW iA iB e tA eA zs xs i T (.pointer (some ⟨w.heap.size, 0, none⟩)) w w' := by
 unfold RlW
 rw [if_neg h2, if_pos h1]
 exact ⟨h, rfl, hb⟩
theorem RlW.f {g : Nat} (hg : T tA = some (.pointer (some ⟨g, 0, none⟩))) (hc : Chg (fun b => b = g) w w') (hb : Blk w' g eA xs) : RlW iA iB e tA eA zs xs e T v w w' := by
 unfold RlW
 rw [if_pos rfl]
 exact ⟨g, hg, hc, hb⟩
theorem qr_none {F : List (Nat × Value)} {R : Value → World → Prop} (h : R undef w) : WK n (QR n F none R .normal) F w := fun _ ha => ⟨rfl, ha, h⟩
theorem HP.add2 (h : HP w0 M0 Fz w H) (hE : Ext w w') {gA gB e : Nat} {cs ds : List Value} (hA : Blk w' gA e cs) (hB : Blk w' gB e ds) (hne : gA ≠ gB) (lA : w.heap.size ≤ gA) (lB : w.heap.size ≤ gB) : HP w0 M0 Fz w' (itB gA e cs :: itB gB e ds :: H) := by
 have h' := h.ext hE
 obtain ⟨Ks, h1, h2, h3⟩ := h.ex
 have hlt : ∀ i, i < H.length → ∀ b, Ks i b → b < w.heap.size := fun i hi b hb => (H[i]).lt (h1 i H[i] (List.getElem?_eq_getElem hi)) b hb
 have hw : w0.heap.size ≤ w.heap.size := h.chg.size
 have hf : ∀ b, Fz b → b < w.heap.size := h.fz
 refine ⟨h'.chg, h'.fz, fun i => match i with | 0 => (fun b => b = gA) | 1 => (fun b => b = gB) | i + 2 => Ks i, ?_, ?_, ?_⟩
 ·intro i y hi
  match i with
  | 0 => simp only [List.getElem?_cons_zero, Option.some.injEq] at hi; subst hi; exact ⟨hA, fun _ => Iff.rfl⟩
  | 1 => simp only [List.getElem?_cons_succ, List.getElem?_cons_zero, Option.some.injEq] at hi; subst hi; exact ⟨hB, fun _ => Iff.rfl⟩
  | i + 2 =>
   simp only [List.getElem?_cons_succ] at hi
   have hil := (List.getElem?_eq_some_iff.1 hi).1
   exact y.st (fun b hb => hE.block b (hlt i hil b hb) (fun x => x)) (h1 i y hi)
 ·intro i hi b hb
  match i with
  | 0 => obtain rfl : b = gA := hb; exact ⟨.inl (by omega), fun hF => by have := hf _ hF; omega⟩
  | 1 => obtain rfl : b = gB := hb; exact ⟨.inl (by omega), fun hF => by have := hf _ hF; omega⟩
  | i + 2 => exact h2 i (by simpa using hi) b hb
 ·intro i j hi hj hij b hb hb'
  match i, j with
  | 0, 0 => exact hij rfl
  | 1, 1 => exact hij rfl
  | 0, 1 => obtain rfl : b = gA := hb; exact hne hb'
  | 1, 0 => obtain rfl : b = gB := hb; exact hne hb'.symm
  | 0, j + 2 => obtain rfl : b = gA := hb; have := hlt j (by simpa using hj) b hb'; omega
  | 1, j + 2 => obtain rfl : b = gB := hb; have := hlt j (by simpa using hj) b hb'; omega
  | i + 2, 0 => obtain rfl : b = gA := hb'; have := hlt i (by simpa using hi) b hb; omega
  | i + 2, 1 => obtain rfl : b = gB := hb'; have := hlt i (by simpa using hi) b hb; omega
  | i + 2, j + 2 => exact h3 i j (by simpa using hi) (by simpa using hj) (by omega) b hb hb'
theorem wl_storeB2 {ops : Array Oper} {rest : List Oper} {ty : TypeId} {pos : String} {af : Array Edge} {t e g o : Nat} {cs : List Value} {x y : Operand} {v : Value} (hx : ev L x = some (.pointer (some ⟨g, o, none⟩))) (hy : ev L y = some v) (hb : Blk w g e cs) (hs : szB P t v.cells.size = true)
  (hl : o + v.cells.size ≤ cs.length) (h1 : ∀ u ∈ v.cells.toList, u.oneCell' = true)
  (h : ∀ w', Blk w' g e (putL cs o v.cells.toList) → Chg (fun b => b = g) w w' → WL P n ops Q rest L w') :
  WL P n ops Q ({ dst := none, op := .store t x y, type := ty, pos := pos, after := af, guard := none } :: rest) L w := wl_storeB hs hx hy hb hl h1 h
end
end Go.Eng
namespace Go.Proofs.YtkdoomglflikkaaGreat
open Go.RowKit Go.Eng _root_.Go.Proofs.Tryz
set_option maxRecDepth 100000
variable {w0 w : World} {M0 Fz : Nat → Prop} {H : List It} {A : Option Addr} {c : Nat}
def SameL (a b : Nte) : Prop := a.changes = b.changes ∧ a.picks = b.picks ∧ a.digs = b.digs ∧ a.batch = b.batch ∧ a.data = b.data ∧ a.nodes = b.nodes
instance (a b : Nte) : Decidable (SameL a b) := by unfold SameL; infer_instance
theorem take_all {α : Type} {l m : List α} {k : Nat} (h : l.take k = m.take k) (h1 : k = l.length) (h2 : l.length = m.length) : l = m := by rw [h1, List.take_length, h2, List.take_length] at h; exact h
theorem SameL.lens {a b : Nte} (h : SameL a b) : a.changes.length = b.changes.length ∧ a.picks.length = b.picks.length ∧ a.digs.length = b.digs.length := by obtain ⟨h1, h2, h3, _⟩ := h; rw [h1, h2, h3]; exact ⟨rfl, rfl, rfl⟩
end Go.Proofs.YtkdoomglflikkaaGreat
