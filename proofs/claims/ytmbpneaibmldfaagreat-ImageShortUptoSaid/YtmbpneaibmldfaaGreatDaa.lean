/- Part 1 of what the proof of ImageShortUpto stands on: the engine, and facts on the program's tables. -/
import Derived.Test.YtmbpneaibmldfaaGreatAac
import Derived.WalkKit
import Derived.Laws.NewBlocks
import Derived.Orders
import Derived.Laws.CopyRow
import Derived.Laws.Tables
import Derived.Maps.Keyed
import Derived.DeepKeys3
import Derived.Laws.IdiomStrings
import Derived.Laws.Strings
import Derived.KernelRfl
import Derived.ProofKit
import Derived.SizedLaws
import Derived.Deep.Slices
import Derived.OpenShut
import Derived.Test.YtmbpneaibmldfaaGreatRows
import Derived.Deep.CondSized
import Derived.Lib.BytesEntry
import Derived.Lib.Bytealg
import Derived.Laws.Externs
import Derived.Lib.SlBytesConst
namespace Go.Eng
open Go.RowKit
def boolR : Rep Bool := oneR (fun b => .bool b) (fun _ => rfl)
end Go.Eng
namespace Go.Eng
def brg (i n : Int) : Int := if n ≤ 0 then 0 else i % n
theorem brg_tmod (i n : Int) (h : 0 < n) : brg i n = if i.tmod n < 0 then i.tmod n + n else i.tmod n := by
 unfold brg
 rw [if_neg (by omega)]
 have e : i % n = (i.tmod n) % n := by
  conv => lhs; rw [← Int.mul_tdiv_add_tmod i n]
  rw [Int.add_comm, Int.add_mul_emod_self_left]
 have ht1 : -n < i.tmod n := by have := Int.lt_tmod_of_pos i h; omega
 have ht2 : i.tmod n < n := Int.tmod_lt_of_pos i h
 rw [e]
 split
 ·rw [← Int.add_emod_right, Int.emod_eq_of_lt (by omega) (by omega)]
 ·rw [Int.emod_eq_of_lt (by omega) ht2]
theorem brg_lo (i n : Int) : 0 ≤ brg i n := by
 unfold brg; split
 ·omega
 ·exact Int.emod_nonneg _ (by omega)
theorem brg_hi (i n : Int) (h : 0 < n) : brg i n < n := by
 unfold brg; rw [if_neg (by omega)]; exact Int.emod_lt_of_pos _ h
end Go.Eng
namespace Go.Eng
open Go.RowKit
section
variable {P : Program} {n : Nat} {L : List (Nat × Value)} {w w0 : World} {M0 Fz : Nat → Prop} {H : List It} {Q : Exit → Act → World → Prop} {ops : Array Oper} {rest : List Oper} {ty : TypeId} {pos : String} {af : Array Edge} {d : Nat}
theorem Lq_ {k : IntKind} {x y : Operand} {a b : Int} {t u : TypeId} (hx : ev L x = some (.int k a)) (hy : ev L y = some (.int k b)) (h : WL P n ops Q rest ((d, .bool (decide (a ≤ b))) :: L) w) (hd : d < n := by decide) : WL P n ops Q ({ dst := some d, op := .binOp .leq t x y u, type := ty, pos := pos, after := af, guard := none } :: rest) L w := wl_leq hd hx hy h
end
end Go.Eng
namespace Go.Eng
open Go.RowKit Go.ChangeShapes Go.WideShapes Go.ChangeAt
section
variable {H : Type} {enc : TypeId × Value → H} {P : Program} {W : World}
theorem arg_int {base : Nat} {t : TypeId} {v : Value} {d : DataW H} (ht : P.underlying t = some (.int .i64)) (h : ∃ p, Arg enc P W base t v d p) : ∃ n : Int, v = .int .i64 n ∧ -9223372036854775808 ≤ n ∧ n ≤ 9223372036854775807 := by
 obtain ⟨p, h⟩ := h
 obtain ⟨n, rfl, _, _, hw⟩ := open_int ht h.ok h.rd
 refine ⟨n, rfl, ?_⟩
 simp [Lit.wf, IntKind.min, IntKind.max, IntKind.signed, IntKind.bits] at hw
 omega
end
end Go.Eng
namespace Go.Eng
open Go.RowKit Go.ChangeShapes Go.WideShapes Go.ChangeAt
def ReadsR {α : Type} (P : Program) (t : TypeId) (r : Rep α) (good : α → Prop) : Prop :=
 ∀ (H : Type) (enc : TypeId × Value → H) (w : World) (base : Nat) (sp : Nat → Bool) (held : Bool) (fuel : Nat) (cs : List Value) (x : DataW H × List MemPlace), DataW.trod enc P w base sp held fuel t cs = some x →
  (∀ y ∈ x.2, y.block < w.heap.size) → (x.1.weights P t).all (· ≤ reachBytes) = true → ∃ v, r.rd (fun b => b < w.heap.size) w cs v ∧ good v
section
variable {P : Program} {t e : TypeId}
theorem reads_int (hu : P.underlying t = some (.int .i64)) : ReadsR P t intR (fun n => -9223372036854775808 ≤ n ∧ n ≤ 9223372036854775807) := by
 intro H enc w base sp held fuel cs x h _ _
 cases fuel with
 | zero => simp [DataW.trod] at h
 | succ fuel =>
  rw [DataW.trod_step] at h
  unfold DataW.trodStep at h
  simp only [hu] at h
  split at h <;> simp_all
  rename_i k q n _ _ hk
  subst hk
  obtain ⟨⟨_, hw⟩, _⟩ := h
  refine ⟨n, rfl, ?_⟩
  simp [Lit.wf, IntKind.min, IntKind.max, IntKind.signed, IntKind.bits] at hw
  omega
theorem reads_byte (hu : P.underlying t = some (.int .u8)) : ReadsR P t byteR (fun _ => True) := by
 intro H enc w base sp held fuel cs x h _ _
 cases fuel with
 | zero => simp [DataW.trod] at h
 | succ fuel =>
  rw [DataW.trod_step] at h
  unfold DataW.trodStep at h
  simp only [hu] at h
  split at h <;> simp_all
  rename_i k q n _ _ hk
  subst hk
  obtain ⟨⟨_, hw⟩, _⟩ := h
  simp [Lit.wf, IntKind.min, IntKind.max, IntKind.signed, IntKind.bits] at hw
  refine ⟨UInt8.ofNat n.toNat, ?_⟩
  show [Value.int .u8 n] = [bv _]
  simp only [bv, UInt8.toNat_ofNat']
  congr 2
  omega
theorem reads_bool (hu : P.underlying t = some .bool) : ReadsR P t boolR (fun _ => True) := by
 intro H enc w base sp held fuel cs x h _ _
 obtain ⟨b, rfl, _⟩ := DataW.trod_bool hu h
 exact ⟨b, rfl, trivial⟩
theorem weightsAll_mem' {H : Type} {P : Program} {e : TypeId} : ∀ {l : List (DataW H)} {d : DataW H}, d ∈ l → ∀ n ∈ d.weights P e, n ∈ DataW.weightsAll P e l
 | c :: r, d, hd, n, hn => by
  simp only [DataW.weightsAll, List.mem_append]
  rcases List.mem_cons.1 hd with rfl | h
  ·exact Or.inl hn
  ·exact Or.inr (weightsAll_mem' h n hn)
 | [], _, h, _, _ => by simp at h
theorem weightsEach_get {H : Type} {P : Program} : ∀ {ts : List TypeId} {l : List (DataW H)} {i : Nat} {u : TypeId} {d : DataW H}, ts[i]? = some u → l[i]? = some d → ∀ n ∈ d.weights P u, n ∈ DataW.weightsEach P ts l
 | c :: r, d :: l, 0, u, y, h1, h2, n, hn => by
  simp only [List.getElem?_cons_zero, Option.some.injEq] at h1 h2
  subst h1; subst h2
  exact List.mem_append_left _ hn
 | c :: r, d :: l, i + 1, u, y, h1, h2, n, hn => by
  simp only [List.getElem?_cons_succ] at h1 h2
  exact List.mem_append_right _ (weightsEach_get h1 h2 n hn)
 | [], _, _, _, _, h, _, _, _ => by simp at h
 | _ :: _, [], _, _, _, _, h, _, _ => by simp at h
theorem list_of {α : Type} {p : Nat → α → Prop} : ∀ (n : Nat), (∀ i, i < n → ∃ x, p i x) → ∃ l : List α, l.length = n ∧ ∀ i (h : i < l.length), p i l[i]
 | 0, _ => ⟨[], rfl, fun i h => absurd h (by simp)⟩
 | n + 1, h => by
  obtain ⟨l, hl, hp⟩ := list_of n (fun i hi => h i (by omega))
  obtain ⟨x, hx⟩ := h n (by omega)
  refine ⟨l ++ [x], by simp [hl], fun i hi => ?_⟩
  by_cases e : i < l.length
  ·rw [List.getElem_append_left e]; exact hp i e
  ·have : i = l.length := by rw [List.length_append, List.length_singleton] at hi; omega
   subst this
   simp only [List.getElem_append_right (Nat.le_refl _), Nat.sub_self, List.getElem_singleton]
   rw [hl]; exact hx
theorem reads_slice {α : Type} {r : Rep α} {good : α → Prop} {size bytes : Nat} (ht : P.underlying t = some (.slice e)) (hs : r.size = size) (h0 : 0 < size) (hc : P.cellsOf e = size) (hb : P.bytesOf e = bytes) (hb0 : 0 < bytes) (hr : ReadsR P e r good) :
  ReadsR P t (sliceR r) (fun l => (∀ x ∈ l, good x) ∧ l.length * bytes ≤ 140737488355328) := by
 intro H enc w base sp held fuel cs x h hlt hw
 rcases Deep.open_slice ht h with ⟨rfl, rfl⟩ | ⟨a, len, cap, m, n, D, Pl, rfl, _, hl, hm, hmm, rfl, hx⟩
 ·exact ⟨[], ⟨none, 0, rfl, GS.nil _ _ _ _ _⟩, by simp, by simp⟩
 ·have hlen : len * bytes ≤ 140737488355328 := by
   have := List.all_eq_true.1 hw ((((List.range len).map D).length + ((List.range (m - len)).map fun j => D (len + j)).length) * P.bytesOf e) (by simp [DataW.weights, ht])
   simp only [List.length_map, List.length_range, reachBytes, decide_eq_true_eq, hb] at this
   have h2 := Nat.mul_le_mul_right bytes (Nat.le_add_right len (m - len))
   omega
  have hlm : len ≤ m := by rw [hmm]; split <;> omega
  obtain ⟨l, hll, hlp⟩ := list_of (p := fun i v => (∃ cs', At w (a.add (i * size)) cs' ∧ a.block < w.heap.size ∧ r.rd (fun b => b < w.heap.size) w cs' v) ∧ good v) len (fun i hi => by
   obtain ⟨cs', h1, h2⟩ := hx i (by omega)
   obtain ⟨_, hcl, hcell⟩ := World.cells?_some h1
   rw [hc] at hcl hcell
   obtain ⟨v, hv, hg⟩ := hr H enc w base sp held n cs' (D i, Pl i) h2 (fun y hy => hlt y (List.mem_append_right _ (List.mem_flatMap.2 ⟨i, List.mem_range.2 (by omega), hy⟩))) (List.all_eq_true.2 (fun z hz => List.all_eq_true.1 hw z (by
    simp only [DataW.weights, ht]
    exact List.mem_cons_of_mem _ (List.mem_append_left _ (weightsAll_mem' (List.mem_map.2 ⟨i, List.mem_range.2 hi, rfl⟩) z hz)))))
   have hat : At w (a.add (i * size)) cs' := fun j u hu => by
    have hj := (List.getElem?_eq_some_iff.1 hu).1
    rw [hcell j (by omega)]; exact hu
   refine ⟨v, ⟨cs', hat, ?_, hv⟩, hg⟩
   have := hat.lt (by intro e; rw [e] at hcl; simp at hcl; omega)
   rwa [block_add] at this)
  have hlen2 : len ≤ len * bytes := Nat.le_mul_of_pos_right _ hb0
  refine ⟨l, ⟨some a, cap, by rw [hll], ⟨by omega, by omega, fun i hi => ?_⟩⟩, ?_, by rw [hll]; exact hlen⟩
  ·obtain ⟨⟨cs', h1, h2, h3⟩, _⟩ := hlp i hi
   exact ⟨a, cs', rfl, h2, h2, by rw [hs]; exact h1, h3⟩
  ·intro y hy
   obtain ⟨i, hi, rfl⟩ := List.mem_iff_getElem.1 hy
   exact (hlp i hi).2
theorem reads_field {α : Type} {r : Rep α} {good : α → Prop} {fs : Array Field} {i : Nat} {f : Field} (ht : P.underlying t = some (.struct fs)) (hi : fs[i]? = some f) (hr : ReadsR P f.type r good)
  {H : Type} {enc : TypeId × Value → H} {w : World} {base : Nat} {sp : Nat → Bool} {held : Bool} {fuel : Nat} {cs : List Value} {x : DataW H × List MemPlace} (h : DataW.trod enc P w base sp held fuel t cs = some x)
  (hlt : ∀ y ∈ x.2, y.block < w.heap.size) (hw : (x.1.weights P t).all (· ≤ reachBytes) = true) : ∃ v, r.rd (fun b => b < w.heap.size) w ((cs.drop f.offset).take (P.cellsOf f.type)) v ∧ good v := by
 obtain ⟨xs, n, rfl, rfl, _, hxl, hx⟩ := DataW.trod_struct ht h
 have h1 := hx i f hi
 have hil : i < xs.length := by rw [hxl]; exact (Array.getElem?_eq_some_iff.1 hi).1
 rw [List.getElem?_eq_getElem hil] at h1
 refine hr H enc w base sp held n _ _ h1 (fun y hy => hlt y (List.mem_flatMap.2 ⟨_, List.getElem_mem hil, hy⟩)) (List.all_eq_true.2 (fun z hz => List.all_eq_true.1 hw z ?_))
 simp only [DataW.weights, ht]
 refine weightsEach_get (i := i) (u := f.type) (d := xs[i].1) ?_ ?_ z hz
 ·rw [List.getElem?_map, Array.getElem?_toList, hi]; rfl
 ·rw [List.getElem?_map, List.getElem?_eq_getElem hil]; rfl
theorem trod_structLen {fs : Array Field} (ht : P.underlying t = some (.struct fs))
  {H : Type} {enc : TypeId × Value → H} {w : World} {base : Nat} {sp : Nat → Bool} {held : Bool} {fuel : Nat} {cs : List Value} {x : DataW H × List MemPlace} (h : DataW.trod enc P w base sp held fuel t cs = some x) : cs.length = P.cellsOf t := by
 obtain ⟨xs, n, rfl, rfl, h1, _⟩ := DataW.trod_struct ht h
 exact h1
end
section
variable {H : Type} {enc : TypeId × Value → H} {P : Program} {W : World}
theorem arg_reads {α : Type} {r : Rep α} {good : α → Prop} {base : Nat} {t : TypeId} {v : Value} {d : DataW H} (hr : ReadsR P t r good) (h : ∃ p, Arg enc P W base t v d p) : ∃ x, r.rd (fun b => b < W.heap.size) W v.cells.toList x ∧ good x := by
 obtain ⟨p, h⟩ := h
 obtain ⟨fuel, hf⟩ := h.rd
 exact hr H enc W 0 _ true fuel _ _ hf h.lt h.wt
end
end Go.Eng
namespace Go.Eng
open Go.RowKit Go.ChangeShapes Go.WideShapes Go.ChangeAt
theorem reads_digest {P : Program} {t e : TypeId} (ht : P.underlying t = some (.array 32 e)) (he : P.underlying e = some (.int .u8)) (hc : P.cellsOf e = 1) (hct : P.cellsOf t = 32) : ReadsR P t digR (fun _ => True) := by
 intro H enc w base sp held fuel cs x h hlt hw
 obtain ⟨xs, m, rfl, rfl, hl, hxl, hx⟩ := DataW.trod_array ht h
 rw [hct] at hl
 obtain ⟨l, hll, hlp⟩ := list_of (p := fun i (b : UInt8) => (cs.drop (i * 1)).take 1 = [bv b]) 32 (fun i hi => by
  have h1 := hx i hi
  rw [hc, List.getElem?_eq_getElem (by omega)] at h1
  obtain ⟨b, hb, _⟩ := reads_byte he H enc w base sp held m _ _ h1 (fun y hy => hlt y (List.mem_flatMap.2 ⟨_, List.getElem_mem _, hy⟩)) (List.all_eq_true.2 (fun z hz => List.all_eq_true.1 hw z (by
   simp only [DataW.weights, ht]
   exact weightsAll_mem' (List.mem_map.2 ⟨_, List.getElem_mem _, rfl⟩) z hz)))
  exact ⟨b, hb⟩)
 have hcs : cs = l.map bv := by
  apply List.ext_getElem
  ·rw [hl, List.length_map, hll]
  ·intro i h1 h2
   have hi : i < l.length := by rw [hll]; omega
   have h3 := congrArg (fun z => z[0]?) (hlp i hi)
   simp only [Nat.mul_one, List.getElem?_cons_zero] at h3
   rw [List.getElem?_take_of_lt (by omega), List.getElem?_drop, Nat.add_zero, List.getElem?_eq_getElem h1] at h3
   simp only [Option.some.injEq] at h3
   rw [h3, List.getElem_map]
 refine ⟨⟨l, hll⟩, ?_, trivial⟩
 show cs = digC _
 rw [digC_map]
 exact hcs
theorem seg_cons {cs s : List Value} {o n m : Nat} (hm : m = o + n) (hs : (cs.drop o).take n = s) : cs.drop o = s ++ cs.drop m := by
 subst hm
 rw [← hs, ← List.drop_drop, List.take_append_drop]
section
variable {H : Type} {enc : TypeId × Value → H} {P : Program} {W : World}
theorem arg_struct {α : Type} {r : Rep α} {good : α → Prop} {base : Nat} {t : TypeId} {v : Value} {d : DataW H} {fs : Array Field} (ht : P.underlying t = some (.struct fs)) (hr : ReadsR P t r good) (h : ∃ p, Arg enc P W base t v d p) :
  ∃ cs x, v = .agg cs.toArray ∧ r.rd (fun b => b < W.heap.size) W cs x ∧ good x := by
 obtain ⟨x, hx, hg⟩ := arg_reads hr h
 obtain ⟨p, h⟩ := h
 obtain ⟨cs, rfl, _⟩ := okWide_struct ht h.ok
 exact ⟨cs.toList, x, by simp, hx, hg⟩
theorem arg_byte {base : Nat} {t : TypeId} {v : Value} {d : DataW H} (ht : P.underlying t = some (.int .u8)) (h : ∃ p, Arg enc P W base t v d p) : ∃ b : UInt8, v = bv b := by
 obtain ⟨x, hx, _⟩ := arg_reads (reads_byte ht) h
 obtain ⟨p, h⟩ := h
 obtain ⟨n, rfl⟩ := okWide_int ht h.ok
 have h1 : [Value.int .u8 n] = [bv x] := hx
 exact ⟨x, by simpa using h1⟩
end
end Go.Eng
namespace Go.Eng
theorem parse_short {r : Rpl} (h : RplMay r) (k : Nat) (hk : k < (rplE r).length) : parseS ((rplE r).take k) = (rpl0, 4) := by
 refine parse_none fun h0 => ?_
 obtain ⟨h1, h2⟩ := parse_some h0
 have e1 := rpl_cod.rd _ ((rplE r).drop k) h1.2
 rw [← h2, List.take_append_drop] at e1
 have e2 := rpl_cod.rd r [] h.2
 rw [List.append_nil, e1] at e2
 simp only [Option.some.injEq, Prod.mk.injEq, List.drop_eq_nil_iff] at e2
 omega
theorem parse_more {r : Rpl} (h : RplMay r) (x : UInt8) : parseS (rplE r ++ [x]) = (rpl0, 4) := by
 refine parse_none fun h0 => ?_
 unfold parseS at h0
 rw [rpl_cod.rd r [x] h.2] at h0
 cases h0
theorem bat_len {x : Bat} (h : batOk x) : (batE x).length ≤ 294 := by
 obtain ⟨_, h1, h2⟩ := h
 have e1 := flatE_len witemE x.wishes 64 (fun y hy => by
  have := wish_len (h2 y hy)
  have e := numE_small (n := ((wishE y).length : Int)) (by omega) (by omega)
  unfold witemE strE
  simp only [numE, Int.toNat_natCast] at e
  simp only [List.length_append]
  omega)
 have e2 := numE_small (n := (x.wishes.length : Int)) (by omega) (by omega)
 have e3 : (blistE x.wishes).length ≤ 258 := by
  unfold blistE listE
  simp only [List.length_append]
  omega
 have e4 := strE_len (blistE x.wishes) (by omega)
 have e5 := x.dig.h
 unfold batE batchE digE
 simp only [List.length_append]
 omega
theorem listE_len {α : Type} {e : α → List UInt8} {l : List α} {m k : Nat} (hm : l.length ≤ m) (h2 : m < 256) (h : ∀ x ∈ l, (e x).length ≤ k) : (listE e l).length ≤ 2 + m * k := by
 have e1 := flatE_len e l k h
 have e2 := numE_small (n := (l.length : Int)) (by omega) (by omega)
 have e3 := Nat.mul_le_mul_right k hm
 unfold listE
 simp only [List.length_append]
 omega
theorem yesE_len (x : Bool) : (yesE x).length ≤ 2 := by cases x <;> exact numE_small (by decide) (by decide)
theorem rpl_len {r : Rpl} (h : rplOk r) : (rplE r).length ≤ 32768 := by
 obtain ⟨h1, h2, h3, ⟨h4, h5⟩, ⟨i1, _, i3, ⟨i4, i5⟩, ⟨i6, i7⟩, ⟨i8, i9⟩, i10, ⟨i11, i12⟩, _, i13, i14⟩, _, h7, h8⟩ := h
 have e1 := numE_len h1.1
 have e2 := numE_len h2.1
 have e3 := numE_len h3.1
 have e4 := listE_len (e := inodeE) (l := r.nodes) (m := 7) (k := 8) (by omega) (by decide) (fun x hx => numE_len (h5 x hx).1)
 have e5 := numE_len i1.1
 have e6 := markE_len i3
 have e7 := listE_len (e := markE) (l := r.img.own) (m := 4) (k := 40) (by omega) (by decide) (fun x hx => markE_len (i5 x hx))
 have st : ∀ x, istandOk x → (istandE x).length ≤ 48 := fun x hx => standE_len ⟨hx.1, trivial, hx.2.2.1⟩
 have e8 := listE_len (e := istandE) (l := r.img.p) (m := 8) (k := 48) (by omega) (by decide) (fun x hx => st x (i7 x hx))
 have e9 := listE_len (e := istandE) (l := r.img.q) (m := 32) (k := 48) (by omega) (by decide) (fun x hx => st x (i9 x hx))
 have e10 := numE_len i10
 have e11 := listE_len (e := markE) (l := r.img.done) (m := 8) (k := 40) (by omega) (by decide) (fun x hx => markE_len (i12 x hx))
 have e12 := listE_len (e := batE) (l := r.img.batches) (m := 40) (k := 294) (by omega) (by decide) (fun x hx => bat_len (i14 x hx))
 have e13 := strE_len r.state (by omega)
 have e14 : (optE r.left r.change).length ≤ 2180 := by
  unfold optE
  split
  ·rename_i hl
   unfold optOk at h7
   rw [if_pos hl] at h7
   have a1 := changeE_len (change_fine h7)
   have a2 := strE_len (changeE r.change) (by omega)
   unfold chgTE
   omega
  ·exact Nat.zero_le _
 have y1 := yesE_len r.left
 have y2 := yesE_len r.img.active
 have y3 := yesE_len r.img.ended
 simp only [rplE, imgE, List.length_append]
 omega
end Go.Eng
namespace Go.Eng
open Go.RowKit Go.ChangeShapes Go.WideShapes Go.ChangeAt
abbrev blkD {H : Type} (d : DataW H) : Nat := Go.Proofs.YtmbpneaibmldfaaGreat.Rows.uptoBulk d
theorem blk_one {H : Type} (d : DataW H) : 1 ≤ blkD d := by
 cases d with
 | lit l => cases l <;> simp [blkD, Go.Proofs.YtmbpneaibmldfaaGreat.Rows.uptoBulk]
 | nil => simp [blkD, Go.Proofs.YtmbpneaibmldfaaGreat.Rows.uptoBulk]
 | ptr d => simp [blkD, Go.Proofs.YtmbpneaibmldfaaGreat.Rows.uptoBulk]
 | slice elems spare => simp [blkD, Go.Proofs.YtmbpneaibmldfaaGreat.Rows.uptoBulk]
 | agg parts => simp [blkD, Go.Proofs.YtmbpneaibmldfaaGreat.Rows.uptoBulk]
 | iface t d => simp [blkD, Go.Proofs.YtmbpneaibmldfaaGreat.Rows.uptoBulk]
 | map entries => simp [blkD, Go.Proofs.YtmbpneaibmldfaaGreat.Rows.uptoBulk]
 | held h => simp [blkD, Go.Proofs.YtmbpneaibmldfaaGreat.Rows.uptoBulk]
theorem blk_mem {H : Type} {d : DataW H} : ∀ {l : List (DataW H)}, d ∈ l → blkD d ≤ Go.Proofs.YtmbpneaibmldfaaGreat.Rows.uptoBulkAll l
 | x :: r, h => by
  simp only [Go.Proofs.YtmbpneaibmldfaaGreat.Rows.uptoBulkAll]
  rcases List.mem_cons.1 h with rfl | h
  ·exact Nat.le_add_right _ _
  ·exact Nat.le_trans (blk_mem h) (Nat.le_add_left _ _)
theorem blk_hd {H : Type} {d : DataW H} {r : List (DataW H)} {n : Nat} (h : Go.Proofs.YtmbpneaibmldfaaGreat.Rows.uptoBulkAll (d :: r) ≤ n) : blkD d ≤ n := by
 simp only [Go.Proofs.YtmbpneaibmldfaaGreat.Rows.uptoBulkAll] at h
 exact Nat.le_trans (Nat.le_add_right _ _) h
theorem blk_len {H : Type} : ∀ (l : List (DataW H)), l.length ≤ Go.Proofs.YtmbpneaibmldfaaGreat.Rows.uptoBulkAll l
 | [] => Nat.le_refl _
 | x :: r => by
  have h1 := blk_one x
  have h2 := blk_len r
  simp only [Go.Proofs.YtmbpneaibmldfaaGreat.Rows.uptoBulkAll, List.length_cons]
  simp only [blkD] at h1
  omega
section
variable {H : Type} {enc : TypeId × Value → H} {P : Program} {w : World} {base : Nat} {sp : Nat → Bool} {held : Bool} {fuel : Nat} {cs : List Value} {x : DataW H × List MemPlace} {t : TypeId}
theorem trod_len {e : TypeId} {A : Option Addr} {n c : Nat} (ht : P.underlying t = some (.slice e)) (h : DataW.trod enc P w base sp held fuel t cs = some x) (hc : cs = [.slice A n c]) : n ≤ blkD x.1 := by
 rcases Deep.open_slice ht h with ⟨hx, h0⟩ | ⟨a, len, cap, m, k, D, Pl, hx, _, hl, hm, hmm, h0, _⟩
 ·first
   | (rw [hx] at hc; simp at hc; omega)
   | (rw [h0] at hc; simp at hc; omega)
 ·have hn : n = len := by
   first
    | (rw [hx] at hc; simp at hc; omega)
    | (rw [h0] at hc; simp at hc; omega)
  subst hn
  subst h0
  have h1 := blk_len ((List.range n).map D)
  simp only [List.length_map, List.length_range] at h1
  simp only [blkD, Go.Proofs.YtmbpneaibmldfaaGreat.Rows.uptoBulk]
  omega
theorem trod_field {fs : Array Field} {f : Field} (ht : P.underlying t = some (.struct fs)) (i : Nat) (hi : fs[i]? = some f) (h : DataW.trod enc P w base sp held fuel t cs = some x) :
  ∃ k y, DataW.trod enc P w base sp held k f.type ((cs.drop f.offset).take (P.cellsOf f.type)) = some y ∧ blkD y.1 ≤ blkD x.1 := by
 obtain ⟨xs, n, rfl, rfl, _, hxl, hx⟩ := DataW.trod_struct ht h
 have h1 := hx i f hi
 have hil : i < xs.length := by rw [hxl]; exact (Array.getElem?_eq_some_iff.1 hi).1
 rw [List.getElem?_eq_getElem hil] at h1
 refine ⟨n, _, h1, ?_⟩
 have h2 := blk_mem (List.mem_map.2 ⟨xs[i], List.getElem_mem hil, rfl⟩ : xs[i].1 ∈ xs.map (·.1))
 show blkD xs[i].1 ≤ Go.Proofs.YtmbpneaibmldfaaGreat.Rows.uptoBulk (.agg (xs.map (·.1)))
 simp only [Go.Proofs.YtmbpneaibmldfaaGreat.Rows.uptoBulk]
 omega
end
section
variable {H : Type} {enc : TypeId × Value → H}
theorem args_consD {P : Program} {W : World} {base : Nat} {t : TypeId} {ts : List TypeId} {vs : List Value} {ds : List (DataW H)} (h : Args enc P W base (t :: ts) vs ds) :
  ∃ v vs' d ds', vs = v :: vs' ∧ ds = d :: ds' ∧ (∃ p, Arg enc P W base t v d p) ∧ Args enc P W base ts vs' ds' := by
 cases vs with
 | nil => cases ds <;> exact h.elim
 | cons v vs' =>
  cases ds with
  | nil => exact h.elim
  | cons d ds' => exact ⟨v, vs', d, ds', rfl, rfl, h.1, h.2⟩
theorem law_liftedU {C : Checked} {os : Os} {f : FuncId} {fn : Func} {s : ChangeSpec} {tb : TypeId} {F : Stop.Interp} (own : ownKnob C.prog.godebug = none) (started : os.Started) (noInit : C.prog.inits.idxOf? f = none) (hfn : C.prog.funcs[f]? = some fn)
  (witness : ∃ (w : World) (tape : Tape) (i : Input), w.os = os ∧ (w.forCall tape i).Shaped C.prog ∧ i.vars = [] ∧ Input.okWide C.prog (w.forCall tape i) .any w.heap.size f i ∧
   (Go.Proofs.YtmbpneaibmldfaaGreat.Rows.OpenSpec.upto s).pre6 enc C.prog fn [] false (w.forCall tape i).memory i.args ∧ ({} : Assume).holds C.prog (lone (Frame.enter C.prog f i.args .normal) [] (w.forCall tape i)))
  (hlo : laidOutB C.prog = true) (hrd : readB C.prog fn.params.toList = true) (hvars : s.vars = []) (hres : fn.resultTypes = #[tb]) (htb : C.prog.underlying tb = some .bool)
  (hs : ∀ ds : List (DataW H), ds.length = fn.params.toList.length → s.fn H ds = { results := [.lit (.bool true)], args := ds })
  (walk : ∀ (W : World) (base : Nat) (args : Array Value) (ds : List (DataW H)), Args enc C.prog W base fn.params.toList args.toList ds → Go.Proofs.YtmbpneaibmldfaaGreat.Rows.uptoBulkAll ds ≤ 1048576 → Ret C.prog f args W fun v w' => v = .bool true ∧ Ext W w') :
  ReturnsInHanded {} C os f .any ((Go.Proofs.YtmbpneaibmldfaaGreat.Rows.OpenSpec.upto s).pre6 enc C.prog fn [] false) (((Go.Proofs.YtmbpneaibmldfaaGreat.Rows.OpenSpec.upto s).at F).post enc C.prog fn false true false false) := by
 refine returnsInHanded_of_cond_sized (s := Go.Proofs.YtmbpneaibmldfaaGreat.Rows.OpenSpec.upto s) (k := Go.Proofs.YtmbpneaibmldfaaGreat.Rows.uptoSmall) rfl own started noInit hfn witness ?_
 intro W base args ds gs before hval hW _ hk hsz _
 have hW' := hW
 obtain ⟨p, q, hA, hV, rfl, hfz, hnd⟩ := hW
 have hv2 : (Go.Proofs.YtmbpneaibmldfaaGreat.Rows.OpenSpec.upto s).vars = [] := hvars
 have hvt : DataSpec.varTypes C.prog (Go.Proofs.YtmbpneaibmldfaaGreat.Rows.OpenSpec.upto s).bare.plain = [] := by
  show s.plain.varTypes C.prog = []
  simp [ChangeSpec.plain, DataSpec.varTypes, hvars]
 rw [hv2] at hV
 obtain ⟨rfl, rfl⟩ := trodVars_none hV
 rw [hvt, List.append_nil, List.append_nil] at hsz
 rw [List.append_nil] at hk
 simp only [List.append_nil] at hW'
 have hb1 := of_decide_eq_true hk
 have hlt : ∀ x ∈ p, x.block < W.heap.size := fun x hx => hW'.lt x hx
 have hargs := args_of fn.params.toList args.toList ds p (fun j t v h1 h2 => hval j t v (by simpa using h1) (by simpa using h2)) hA hlt hsz
 refine Calls.mono (walk W base args ds hargs hb1) fun e W' ⟨v, he, hv, hE⟩ => ⟨v, he, ?_⟩
 subst hv
 have hds := hs ds (trodAll_len _ _ _ _ hA)
 have hb := hE.below
 show s.post enc C.prog fn false true false false W args _ W'
 refine ⟨ds, [], p, [], p, [], hW', ?_, ?_, ?_, hb.frame _, fun h => by cases h⟩
 ·rw [List.append_nil, hds, hres]
  exact trodAll_mk1 (shut_bool htb true)
 ·rw [List.append_nil, hds]
  exact trodAll_below hlo hb _ _ _ _ hrd hA hlt
 ·rw [List.append_nil, hds, hvars]
  rfl
end
end Go.Eng
