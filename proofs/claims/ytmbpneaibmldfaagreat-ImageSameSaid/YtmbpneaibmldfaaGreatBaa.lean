/- Part 1 of what the proof of ImageSame stands on: the engine, and facts on the program's tables. -/
import Derived.Test.YtmbpneaibmldfaaGreatAac
import Derived.WalkKit
import Derived.Laws.NewBlocks
import Derived.Orders
import Derived.Laws.CopyRow
import Derived.Laws.Tables
import Derived.Maps.Keyed
import Derived.DeepKeys3
import Derived.Laws.IdiomStrings
import Derived.Laws.Strings
import Derived.KernelRfl
import Derived.ProofKit
import Derived.SizedLaws
import Derived.Deep.Slices
import Derived.OpenShut
import Derived.Test.YtmbpneaibmldfaaGreatRows
import Derived.Lib.BytesEntry
import Derived.Lib.Bytealg
import Derived.Laws.Externs
import Derived.Lib.SlBytesConst
namespace Go.Eng
open Go.RowKit
def boolR : Rep Bool := oneR (fun b => .bool b) (fun _ => rfl)
end Go.Eng
namespace Go.Eng
open Go.RowKit Go.ChangeShapes Go.WideShapes Go.ChangeAt
def ReadsR {α : Type} (P : Program) (t : TypeId) (r : Rep α) (good : α → Prop) : Prop :=
 ∀ (H : Type) (enc : TypeId × Value → H) (w : World) (base : Nat) (sp : Nat → Bool) (held : Bool) (fuel : Nat) (cs : List Value) (x : DataW H × List MemPlace), DataW.trod enc P w base sp held fuel t cs = some x →
  (∀ y ∈ x.2, y.block < w.heap.size) → (x.1.weights P t).all (· ≤ reachBytes) = true → ∃ v, r.rd (fun b => b < w.heap.size) w cs v ∧ good v
section
variable {P : Program} {t e : TypeId}
theorem reads_int (hu : P.underlying t = some (.int .i64)) : ReadsR P t intR (fun n => -9223372036854775808 ≤ n ∧ n ≤ 9223372036854775807) := by
 intro H enc w base sp held fuel cs x h _ _
 cases fuel with
 | zero => simp [DataW.trod] at h
 | succ fuel =>
  rw [DataW.trod_step] at h
  unfold DataW.trodStep at h
  simp only [hu] at h
  split at h <;> simp_all
  rename_i k q n _ _ hk
  subst hk
  obtain ⟨⟨_, hw⟩, _⟩ := h
  refine ⟨n, rfl, ?_⟩
  simp [Lit.wf, IntKind.min, IntKind.max, IntKind.signed, IntKind.bits] at hw
  omega
theorem reads_byte (hu : P.underlying t = some (.int .u8)) : ReadsR P t byteR (fun _ => True) := by
 intro H enc w base sp held fuel cs x h _ _
 cases fuel with
 | zero => simp [DataW.trod] at h
 | succ fuel =>
  rw [DataW.trod_step] at h
  unfold DataW.trodStep at h
  simp only [hu] at h
  split at h <;> simp_all
  rename_i k q n _ _ hk
  subst hk
  obtain ⟨⟨_, hw⟩, _⟩ := h
  simp [Lit.wf, IntKind.min, IntKind.max, IntKind.signed, IntKind.bits] at hw
  refine ⟨UInt8.ofNat n.toNat, ?_⟩
  show [Value.int .u8 n] = [bv _]
  simp only [bv, UInt8.toNat_ofNat']
  congr 2
  omega
theorem reads_bool (hu : P.underlying t = some .bool) : ReadsR P t boolR (fun _ => True) := by
 intro H enc w base sp held fuel cs x h _ _
 obtain ⟨b, rfl, _⟩ := DataW.trod_bool hu h
 exact ⟨b, rfl, trivial⟩
theorem weightsAll_mem' {H : Type} {P : Program} {e : TypeId} : ∀ {l : List (DataW H)} {d : DataW H}, d ∈ l → ∀ n ∈ d.weights P e, n ∈ DataW.weightsAll P e l
 | c :: r, d, hd, n, hn => by
  simp only [DataW.weightsAll, List.mem_append]
  rcases List.mem_cons.1 hd with rfl | h
  ·exact Or.inl hn
  ·exact Or.inr (weightsAll_mem' h n hn)
 | [], _, h, _, _ => by simp at h
theorem weightsEach_get {H : Type} {P : Program} : ∀ {ts : List TypeId} {l : List (DataW H)} {i : Nat} {u : TypeId} {d : DataW H}, ts[i]? = some u → l[i]? = some d → ∀ n ∈ d.weights P u, n ∈ DataW.weightsEach P ts l
 | c :: r, d :: l, 0, u, y, h1, h2, n, hn => by
  simp only [List.getElem?_cons_zero, Option.some.injEq] at h1 h2
  subst h1; subst h2
  exact List.mem_append_left _ hn
 | c :: r, d :: l, i + 1, u, y, h1, h2, n, hn => by
  simp only [List.getElem?_cons_succ] at h1 h2
  exact List.mem_append_right _ (weightsEach_get h1 h2 n hn)
 | [], _, _, _, _, h, _, _, _ => by simp at h
 | _ :: _, [], _, _, _, _, h, _, _ => by simp at h
theorem list_of {α : Type} {p : Nat → α → Prop} : ∀ (n : Nat), (∀ i, i < n → ∃ x, p i x) → ∃ l : List α, l.length = n ∧ ∀ i (h : i < l.length), p i l[i]
 | 0, _ => ⟨[], rfl, fun i h => absurd h (by simp)⟩
 | n + 1, h => by
  obtain ⟨l, hl, hp⟩ := list_of n (fun i hi => h i (by omega))
  obtain ⟨x, hx⟩ := h n (by omega)
  refine ⟨l ++ [x], by simp [hl], fun i hi => ?_⟩
  by_cases e : i < l.length
  ·rw [List.getElem_append_left e]; exact hp i e
  ·have : i = l.length := by rw [List.length_append, List.length_singleton] at hi; omega
   subst this
   simp only [List.getElem_append_right (Nat.le_refl _), Nat.sub_self, List.getElem_singleton]
   rw [hl]; exact hx
theorem reads_slice {α : Type} {r : Rep α} {good : α → Prop} {size bytes : Nat} (ht : P.underlying t = some (.slice e)) (hs : r.size = size) (h0 : 0 < size) (hc : P.cellsOf e = size) (hb : P.bytesOf e = bytes) (hb0 : 0 < bytes) (hr : ReadsR P e r good) :
  ReadsR P t (sliceR r) (fun l => (∀ x ∈ l, good x) ∧ l.length * bytes ≤ 140737488355328) := by
 intro H enc w base sp held fuel cs x h hlt hw
 rcases Deep.open_slice ht h with ⟨rfl, rfl⟩ | ⟨a, len, cap, m, n, D, Pl, rfl, _, hl, hm, hmm, rfl, hx⟩
 ·exact ⟨[], ⟨none, 0, rfl, GS.nil _ _ _ _ _⟩, by simp, by simp⟩
 ·have hlen : len * bytes ≤ 140737488355328 := by
   have := List.all_eq_true.1 hw ((((List.range len).map D).length + ((List.range (m - len)).map fun j => D (len + j)).length) * P.bytesOf e) (by simp [DataW.weights, ht])
   simp only [List.length_map, List.length_range, reachBytes, decide_eq_true_eq, hb] at this
   have h2 := Nat.mul_le_mul_right bytes (Nat.le_add_right len (m - len))
   omega
  have hlm : len ≤ m := by rw [hmm]; split <;> omega
  obtain ⟨l, hll, hlp⟩ := list_of (p := fun i v => (∃ cs', At w (a.add (i * size)) cs' ∧ a.block < w.heap.size ∧ r.rd (fun b => b < w.heap.size) w cs' v) ∧ good v) len (fun i hi => by
   obtain ⟨cs', h1, h2⟩ := hx i (by omega)
   obtain ⟨_, hcl, hcell⟩ := World.cells?_some h1
   rw [hc] at hcl hcell
   obtain ⟨v, hv, hg⟩ := hr H enc w base sp held n cs' (D i, Pl i) h2 (fun y hy => hlt y (List.mem_append_right _ (List.mem_flatMap.2 ⟨i, List.mem_range.2 (by omega), hy⟩))) (List.all_eq_true.2 (fun z hz => List.all_eq_true.1 hw z (by
    simp only [DataW.weights, ht]
    exact List.mem_cons_of_mem _ (List.mem_append_left _ (weightsAll_mem' (List.mem_map.2 ⟨i, List.mem_range.2 hi, rfl⟩) z hz)))))
   have hat : At w (a.add (i * size)) cs' := fun j u hu => by
    have hj := (List.getElem?_eq_some_iff.1 hu).1
    rw [hcell j (by omega)]; exact hu
   refine ⟨v, ⟨cs', hat, ?_, hv⟩, hg⟩
   have := hat.lt (by intro e; rw [e] at hcl; simp at hcl; omega)
   rwa [block_add] at this)
  have hlen2 : len ≤ len * bytes := Nat.le_mul_of_pos_right _ hb0
  refine ⟨l, ⟨some a, cap, by rw [hll], ⟨by omega, by omega, fun i hi => ?_⟩⟩, ?_, by rw [hll]; exact hlen⟩
  ·obtain ⟨⟨cs', h1, h2, h3⟩, _⟩ := hlp i hi
   exact ⟨a, cs', rfl, h2, h2, by rw [hs]; exact h1, h3⟩
  ·intro y hy
   obtain ⟨i, hi, rfl⟩ := List.mem_iff_getElem.1 hy
   exact (hlp i hi).2
theorem reads_field {α : Type} {r : Rep α} {good : α → Prop} {fs : Array Field} {i : Nat} {f : Field} (ht : P.underlying t = some (.struct fs)) (hi : fs[i]? = some f) (hr : ReadsR P f.type r good)
  {H : Type} {enc : TypeId × Value → H} {w : World} {base : Nat} {sp : Nat → Bool} {held : Bool} {fuel : Nat} {cs : List Value} {x : DataW H × List MemPlace} (h : DataW.trod enc P w base sp held fuel t cs = some x)
  (hlt : ∀ y ∈ x.2, y.block < w.heap.size) (hw : (x.1.weights P t).all (· ≤ reachBytes) = true) : ∃ v, r.rd (fun b => b < w.heap.size) w ((cs.drop f.offset).take (P.cellsOf f.type)) v ∧ good v := by
 obtain ⟨xs, n, rfl, rfl, _, hxl, hx⟩ := DataW.trod_struct ht h
 have h1 := hx i f hi
 have hil : i < xs.length := by rw [hxl]; exact (Array.getElem?_eq_some_iff.1 hi).1
 rw [List.getElem?_eq_getElem hil] at h1
 refine hr H enc w base sp held n _ _ h1 (fun y hy => hlt y (List.mem_flatMap.2 ⟨_, List.getElem_mem hil, hy⟩)) (List.all_eq_true.2 (fun z hz => List.all_eq_true.1 hw z ?_))
 simp only [DataW.weights, ht]
 refine weightsEach_get (i := i) (u := f.type) (d := xs[i].1) ?_ ?_ z hz
 ·rw [List.getElem?_map, Array.getElem?_toList, hi]; rfl
 ·rw [List.getElem?_map, List.getElem?_eq_getElem hil]; rfl
theorem trod_structLen {fs : Array Field} (ht : P.underlying t = some (.struct fs))
  {H : Type} {enc : TypeId × Value → H} {w : World} {base : Nat} {sp : Nat → Bool} {held : Bool} {fuel : Nat} {cs : List Value} {x : DataW H × List MemPlace} (h : DataW.trod enc P w base sp held fuel t cs = some x) : cs.length = P.cellsOf t := by
 obtain ⟨xs, n, rfl, rfl, h1, _⟩ := DataW.trod_struct ht h
 exact h1
end
section
variable {H : Type} {enc : TypeId × Value → H} {P : Program} {W : World}
theorem arg_reads {α : Type} {r : Rep α} {good : α → Prop} {base : Nat} {t : TypeId} {v : Value} {d : DataW H} (hr : ReadsR P t r good) (h : ∃ p, Arg enc P W base t v d p) : ∃ x, r.rd (fun b => b < W.heap.size) W v.cells.toList x ∧ good x := by
 obtain ⟨p, h⟩ := h
 obtain ⟨fuel, hf⟩ := h.rd
 exact hr H enc W 0 _ true fuel _ _ hf h.lt h.wt
end
end Go.Eng
namespace Go.Eng
open Go.RowKit Go.ChangeShapes Go.WideShapes Go.ChangeAt
theorem reads_digest {P : Program} {t e : TypeId} (ht : P.underlying t = some (.array 32 e)) (he : P.underlying e = some (.int .u8)) (hc : P.cellsOf e = 1) (hct : P.cellsOf t = 32) : ReadsR P t digR (fun _ => True) := by
 intro H enc w base sp held fuel cs x h hlt hw
 obtain ⟨xs, m, rfl, rfl, hl, hxl, hx⟩ := DataW.trod_array ht h
 rw [hct] at hl
 obtain ⟨l, hll, hlp⟩ := list_of (p := fun i (b : UInt8) => (cs.drop (i * 1)).take 1 = [bv b]) 32 (fun i hi => by
  have h1 := hx i hi
  rw [hc, List.getElem?_eq_getElem (by omega)] at h1
  obtain ⟨b, hb, _⟩ := reads_byte he H enc w base sp held m _ _ h1 (fun y hy => hlt y (List.mem_flatMap.2 ⟨_, List.getElem_mem _, hy⟩)) (List.all_eq_true.2 (fun z hz => List.all_eq_true.1 hw z (by
   simp only [DataW.weights, ht]
   exact weightsAll_mem' (List.mem_map.2 ⟨_, List.getElem_mem _, rfl⟩) z hz)))
  exact ⟨b, hb⟩)
 have hcs : cs = l.map bv := by
  apply List.ext_getElem
  ·rw [hl, List.length_map, hll]
  ·intro i h1 h2
   have hi : i < l.length := by rw [hll]; omega
   have h3 := congrArg (fun z => z[0]?) (hlp i hi)
   simp only [Nat.mul_one, List.getElem?_cons_zero] at h3
   rw [List.getElem?_take_of_lt (by omega), List.getElem?_drop, Nat.add_zero, List.getElem?_eq_getElem h1] at h3
   simp only [Option.some.injEq] at h3
   rw [h3, List.getElem_map]
 refine ⟨⟨l, hll⟩, ?_, trivial⟩
 show cs = digC _
 rw [digC_map]
 exact hcs
theorem seg_cons {cs s : List Value} {o n m : Nat} (hm : m = o + n) (hs : (cs.drop o).take n = s) : cs.drop o = s ++ cs.drop m := by
 subst hm
 rw [← hs, ← List.drop_drop, List.take_append_drop]
section
variable {H : Type} {enc : TypeId × Value → H} {P : Program} {W : World}
theorem arg_struct {α : Type} {r : Rep α} {good : α → Prop} {base : Nat} {t : TypeId} {v : Value} {d : DataW H} {fs : Array Field} (ht : P.underlying t = some (.struct fs)) (hr : ReadsR P t r good) (h : ∃ p, Arg enc P W base t v d p) :
  ∃ cs x, v = .agg cs.toArray ∧ r.rd (fun b => b < W.heap.size) W cs x ∧ good x := by
 obtain ⟨x, hx, hg⟩ := arg_reads hr h
 obtain ⟨p, h⟩ := h
 obtain ⟨cs, rfl, _⟩ := okWide_struct ht h.ok
 exact ⟨cs.toList, x, by simp, hx, hg⟩
end
end Go.Eng
