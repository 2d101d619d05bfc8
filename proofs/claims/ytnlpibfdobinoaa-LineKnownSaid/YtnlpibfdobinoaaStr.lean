/- Variables, structs, values of functions. Program-independent. -/
import Derived.Test.YtnlpibfdobinoaaOpt
import Derived.Laws.CopyRow
import Derived.Laws.Tables
namespace Go.Eng
open Go.RowKit

/-- A block that holds just these cells. -/
def Blk (w : World) (g : Nat) (e : TypeId) (cs : List Value) : Prop := w.heap[g]? = some (.cells cs.toArray e (0, 0))
section
variable {w w' : World} {M : Nat → Prop} {g o : Nat} {e : TypeId} {cs : List Value}
theorem Blk.lt (h : Blk w g e cs) : g < w.heap.size := (Array.getElem?_eq_some_iff.1 h).1
theorem Blk.keep (ch : Chg M w w') (hm : ¬ M g) (h : Blk w g e cs) : Blk w' g e cs := (ch.block g h.lt hm).trans h
theorem Blk.ext (h : Blk w g e cs) (ch : Ext w w') : Blk w' g e cs := h.keep ch (fun x => x)
theorem Blk.cell (h : Blk w g e cs) {v : Value} (hv : cs[o]? = some v) : w.cell? ⟨g, o, none⟩ = some v := by
  unfold Blk at h
  simp [World.cell?, h, hv]
theorem Blk.at_ (h : Blk w g e cs) (o : Nat) : At w ⟨g, o, none⟩ (cs.drop o) := fun j v hv => by
  rw [add_lit']
  refine h.cell ?_
  rw [List.getElem?_drop] at hv
  exact hv
theorem Blk.at0 (h : Blk w g e cs) : At w ⟨g, 0, none⟩ cs := h.at_ 0
theorem Blk.fresh (w : World) (e : TypeId) (cs : List Value) : Blk (w.alloc (.cells cs.toArray e)) w.heap.size e cs := heap_alloc_new w _
theorem Blk.set (h : Blk w g e cs) (cs' : List Value) : Blk (w.setRow g cs'.toArray) g e cs' := setRow_heap w g _ _ _ _ h
theorem Chg.setRow (w : World) (g : Nat) (cs : Array Value) : Chg (fun b => b = g) w (w.setRow g cs) :=
  ⟨rfl, rfl, rfl, by simp [World.setRow], fun k _ hk => setRow_other w g k cs hk⟩
end

section
variable {P : Program} {n : Nat} {L : List (Nat × Value)} {w w' : World} {Q : Exit → Act → World → Prop} {ops : Array Oper} {rest : List Oper} {ty : TypeId} {pos : String} {af : Array Edge} {d : Nat}

/-- A struct's field: its address. -/
theorem fldB_out {s f off : Nat} (h : fldB P s f off = true) : ∃ fs fd i, P.underlying s = some (.struct fs) ∧ fs[f]? = some fd ∧ fd.offset = off ∧ P.info? fd.type = some i ∧ i.size ≠ 0 := by
  unfold fldB at h
  split at h
  · rename_i fs hu
    split at h
    · rename_i fd hf
      simp only [Bool.and_eq_true, beq_iff_eq] at h
      obtain ⟨h1, h2⟩ := h
      split at h2
      · rename_i i hi
        exact ⟨fs, fd, i, hu, hf, h1, hi, by simpa using h2⟩
      · cases h2
    · cases h
  · cases h
theorem wl_fld {s f off : Nat} {x : Operand} {p : Addr} (hd : d < n) (hF : fldB P s f off = true) (hx : ev L x = some (.pointer (some p))) (h : WL P n ops Q rest ((d, .pointer (some (p.add off))) :: L) w) :
    WL P n ops Q ({ dst := some d, op := .fieldAddr s x f, type := ty, pos := pos, after := af, guard := none } :: rest) L w := by
  obtain ⟨fs, fd, i, hu, hf, rfl, hi, h0⟩ := fldB_out hF
  exact wl_run hd (fun a ha => by simp [execOp, ha.eval hx, Instr.fieldAt, run_underlying hu, hf, Instr.sureAddr, fieldPlace, sizeOf, typeInfo, hi, h0]) h
/-- The same, at an address that is written out. -/
theorem wl_fld' {s f off g o o' : Nat} {x : Operand} (hd : d < n) (hF : fldB P s f off = true) (hx : ev L x = some (.pointer (some ⟨g, o, none⟩))) (ho : o + off = o') (h : WL P n ops Q rest ((d, .pointer (some ⟨g, o', none⟩)) :: L) w) :
    WL P n ops Q ({ dst := some d, op := .fieldAddr s x f, type := ty, pos := pos, after := af, guard := none } :: rest) L w :=
  wl_fld hd hF hx (by rw [add_lit', ho]; exact h)
/-- A new variable. -/
theorem wl_box {e : TypeId} {x : Operand} {v : Value} (hd : d < n) (hx : ev L x = some v)
    (h : ∀ g w', g = w.heap.size → Blk w' g e v.cells.toList → Ext w w' → WL P n ops Q rest ((d, .pointer (some ⟨g, 0, none⟩)) :: L) w') :
    WL P n ops Q ({ dst := some d, op := .box e x, type := ty, pos := pos, after := af, guard := none } :: rest) L w := by
  refine wl_run hd (fun a ha => ?_) (h w.heap.size (w.alloc (.cells v.cells e)) rfl ?_ (Ext.alloc _ _))
  · simp [execOp, ha.eval hx, Instr.box, newVar, newRow, newObj, Sem.run]
  · have := Blk.fresh w e v.cells.toList
    rwa [Array.toArray_toList] at this
theorem wl_alloc {e : TypeId} {z : Value} (hd : d < n) (hz : (P.info? e).bind (·.zero) = some z)
    (h : ∀ g w', g = w.heap.size → Blk w' g e z.cells.toList → Ext w w' → WL P n ops Q rest ((d, .pointer (some ⟨g, 0, none⟩)) :: L) w') :
    WL P n ops Q ({ dst := some d, op := .alloc e, type := ty, pos := pos, after := af, guard := none } :: rest) L w := by
  refine wl_run hd (fun a ha => ?_) (h w.heap.size (w.alloc (.cells z.cells e)) rfl ?_ (Ext.alloc _ _))
  · cases hi : P.info? e with
    | none => rw [hi] at hz; cases hz
    | some i =>
      rw [hi] at hz
      simp only [Option.bind_some] at hz
      simp [execOp, Instr.alloc, zeroValue, typeInfo, hi, hz, newVar, newRow, newObj, Sem.run]
  · have := Blk.fresh w e z.cells.toList
    rwa [Array.toArray_toList] at this
/-- A load out of such a block. -/
theorem wl_loadB {t e g o : Nat} {cs : List Value} {x : Operand} {v : Value} (hd : d < n) (hs : scB P t = true) (hx : ev L x = some (.pointer (some ⟨g, o, none⟩))) (hb : Blk w g e cs) (hv : cs[o]? = some v)
    (h : WL P n ops Q rest ((d, v) :: L) w) :
    WL P n ops Q ({ dst := some d, op := .load t x, type := ty, pos := pos, after := af, guard := none } :: rest) L w := wl_load hd hs hx (hb.cell hv) h
theorem wl_loadBA {t e g k : Nat} {cs : List Value} {x : Operand} (hd : d < n) (hs : agB P t k = true) (hx : ev L x = some (.pointer (some ⟨g, 0, none⟩))) (hb : Blk w g e cs) (hl : cs.length = k)
    (h : WL P n ops Q rest ((d, .agg cs.toArray) :: L) w) :
    WL P n ops Q ({ dst := some d, op := .load t x, type := ty, pos := pos, after := af, guard := none } :: rest) L w := wl_loadA hd hs hx hb.at0 hl h
/-- What lies at a place of a list is put anew. -/
def putL (cs : List Value) (o : Nat) (vs : List Value) : List Value := cs.take o ++ vs ++ cs.drop (o + vs.length)
theorem run_storeAt {t : TypeId} {g o : Nat} {e : TypeId} {cur : Array Value} {v : Value} (hs : szB P t v.cells.size = true) (hb : w.heap[g]? = some (.cells cur e (0, 0))) (hl : o + v.cells.size ≤ cur.size)
    (h1 : ∀ u ∈ v.cells.toList, u.oneCell' = true) :
    (Instr.storeAt t (.pointer (some ⟨g, o, none⟩)) v).run P w = .ok () (w.setRow g (putL cur.toList o v.cells.toList).toArray) := by
  have hsz : (sizeOf t).run P w = .ok v.cells.size w := by
    unfold szB at hs
    rw [beq_iff_eq] at hs
    cases hi : P.info? t with
    | none => rw [hi] at hs; cases hs
    | some i => rw [hi] at hs; simp at hs; simp [sizeOf, typeInfo, hi, hs]
  have hst := run_storeCells_at (P := P) g o e v.cells.toList 0 cur w hb (by simpa using hl) h1
  simp only [Nat.add_zero] at hst
  simp only [Instr.storeAt, Instr.sureAddr, storeVar, Sem.run_bind, Sem.run_pure, Result.andThen_ok, hsz]
  simp only [ne_eq, not_true, if_false]
  exact hst
theorem wl_storeB {t e g o : Nat} {cs : List Value} {x y : Operand} {v : Value} (hs : szB P t v.cells.size = true) (hx : ev L x = some (.pointer (some ⟨g, o, none⟩))) (hy : ev L y = some v) (hb : Blk w g e cs)
    (hl : o + v.cells.size ≤ cs.length) (h1 : ∀ u ∈ v.cells.toList, u.oneCell' = true)
    (h : ∀ w', Blk w' g e (putL cs o v.cells.toList) → Chg (fun b => b = g) w w' → WL P n ops Q rest L w') :
    WL P n ops Q ({ dst := none, op := .store t x y, type := ty, pos := pos, after := af, guard := none } :: rest) L w := by
  have hr := run_storeAt (P := P) (w := w) (t := t) (v := v) hs hb (by simpa using hl) h1
  refine wl_eff (fun a ha => ?_) (h _ (hb.set _) (Chg.setRow w g _))
  simp only [execOp, ha.eval hx, ha.eval hy, Sem.run_bind, hr, Result.andThen_ok, Sem.run_pure]
/-- A store into a row of the call's own. -/
theorem OwnRow.put {e size lo k c : Nat} {A : Option Addr} {xs : List Value} {g : Nat} (h : OwnRow e size lo w A k c xs) (hA : A = some ⟨g, 0, none⟩) (vs : List Value) (o : Nat) (ho : o + vs.length ≤ xs.length) (hn : vs ≠ []) :
    ∃ cur, w.heap[g]? = some (.cells cur e (0, 0)) ∧ o + vs.length ≤ cur.size ∧ OwnRow e size lo (w.setRow g (putL cur.toList o vs).toArray) A k c (putL xs o vs) := by
  subst hA
  rcases h.row with ⟨_, h0⟩ | ⟨g', cur, hA, hb, hg, hsz, ht⟩
  · have := h.len
    subst h0
    have := List.length_pos_iff.2 hn
    omega
  · obtain rfl : g' = g := by injection hA with hA; injection hA with hA _; exact hA.symm
    have hkc : k * size ≤ c * size := Nat.mul_le_mul_right _ h.le
    have hxl := h.len
    have hcl : o + vs.length ≤ cur.size := by omega
    refine ⟨cur, hg, hcl, ⟨?_, h.le, h.mx, .inr ⟨g', _, rfl, hb, setRow_heap w g' cur _ e _ hg, ?_, ?_⟩⟩⟩
    · simp only [putL, List.length_append, List.length_take, List.length_drop]; omega
    · simp only [putL, List.size_toArray, List.length_append, List.length_take, List.length_drop, Array.length_toList]; omega
    · rw [← ht, putL, putL]
      have hlt : cur.toList.length = cur.size := Array.length_toList
      apply List.ext_getElem?
      intro i
      simp only [List.getElem?_take, List.getElem?_append, List.length_append, List.length_take, List.getElem?_drop, hlt]
      rw [show min o cur.size = o by omega, show min o (min (k * size) cur.size) = o by omega]
      by_cases h1 : i < o
      · have : i < k * size := by omega
        simp [h1, this, show i < o + vs.length by omega]
      · by_cases h2 : i < o + vs.length
        · have : i < k * size := by omega
          simp [h1, h2, this]
        · simp only [h1, h2, if_false]
          rw [show o + vs.length + (i - (o + vs.length)) = i by omega]
theorem wl_storeR {t e size lo k c g o : Nat} {A : Option Addr} {xs : List Value} {x y : Operand} {v : Value} (hs : szB P t v.cells.size = true) (hx : ev L x = some (.pointer (some ⟨g, o, none⟩))) (hy : ev L y = some v)
    (hown : OwnRow e size lo w A k c xs) (hA : A = some ⟨g, 0, none⟩) (hl : o + v.cells.size ≤ xs.length) (hn : v.cells.size ≠ 0) (h1 : ∀ u ∈ v.cells.toList, u.oneCell' = true)
    (h : ∀ w', OwnRow e size lo w' A k c (putL xs o v.cells.toList) → Chg (fun b => b = g) w w' → WL P n ops Q rest L w') :
    WL P n ops Q ({ dst := none, op := .store t x y, type := ty, pos := pos, after := af, guard := none } :: rest) L w := by
  obtain ⟨cur, hg, hcl, ho⟩ := hown.put hA v.cells.toList o (by simpa using hl) (by intro e; apply hn; rw [← Array.length_toList, e]; rfl)
  have hr := run_storeAt (P := P) (w := w) (t := t) (v := v) hs hg (by simpa using hcl) h1
  refine wl_eff (fun a ha => ?_) (h _ ho (Chg.setRow w g _))
  simp only [execOp, ha.eval hx, ha.eval hy, Sem.run_bind, hr, Result.andThen_ok, Sem.run_pure]

/-! ### Values of structs -/
theorem evs_one {x : Operand} {v : Value} (h : ev L x = some v) : evs L [x] = some [v] := by simp [evs, h]
/-- Parts of a struct that is written out. -/
def evp (L : List (Nat × Value)) : List (Nat × Operand) → Option (List (Nat × Value))
  | [] => some []
  | (i, x) :: t => match ev L x, evp L t with
    | some v, some vs => some ((i, v) :: vs)
    | _, _ => none
theorem evp_map {a : Act} (ha : Fr n a L) : ∀ {xs : List (Nat × Operand)} {vs : List (Nat × Value)}, evp L xs = some vs → xs.map (fun p => (p.1, a.eval p.2)) = vs := by
  intro xs
  induction xs with
  | nil => intro vs h; simp [evp] at h; simp [h]
  | cons x t ih =>
    obtain ⟨i, x⟩ := x
    intro vs h
    simp only [evp] at h
    split at h
    · rename_i v us hv hus
      simp only [Option.some.injEq] at h
      subst h
      simp [ha.eval hv, ih hus]
    · cases h
theorem wl_build {t : TypeId} {ps : List (Nat × Operand)} {vs : List (Nat × Value)} {cells : List Value} (hd : d < n) (hv : evp L ps = some vs) (hb : P.built t vs = some cells.toArray)
    (h : WL P n ops Q rest ((d, .agg cells.toArray) :: L) w) :
    WL P n ops Q ({ dst := some d, op := .build t ps.toArray, type := ty, pos := pos, after := af, guard := none } :: rest) L w := by
  refine wl_run hd (fun a ha => ?_) h
  have hm := evp_map ha hv
  have hr := run_build (P := P) w t (ps.toArray.map fun p => (p.1, a.eval p.2)) cells.toArray (by simp [hm, hb])
  simp only [execOp, Sem.run_bind]
  rw [hr]
  rfl
/-- A field of a struct's value: one cell; a struct or an array. -/
def fvB (P : Program) (s f off : Nat) : Bool :=
  match P.underlying s with
  | some (.struct fs) => (match fs[f]? with | some fd => fd.offset == off && scB P fd.type | none => false)
  | _ => false
def faB (P : Program) (s f off k : Nat) : Bool :=
  match P.underlying s with
  | some (.struct fs) => (match fs[f]? with | some fd => fd.offset == off && agB P fd.type k | none => false)
  | _ => false
theorem run_notAgg {t : TypeId} (hs : scB P t = true) (w : World) : (isAgg t).run P w = .ok false w := by
  unfold scB at hs
  split at hs
  · cases hs
  · cases hs
  · cases hs
  · rename_i hu h1 h2 h3
    cases hd : P.underlying t with
    | none => exact absurd hd h3
    | some dd =>
      unfold isAgg
      rw [Sem.run_bind, run_underlying hd]
      cases dd <;> simp_all
theorem wl_fieldV {s f off : Nat} {x : Operand} {cs : Array Value} {v : Value} (hd : d < n) (hF : fvB P s f off = true) (hx : ev L x = some (.agg cs)) (hv : cs[off]? = some v) (h : WL P n ops Q rest ((d, v) :: L) w) :
    WL P n ops Q ({ dst := some d, op := .field s x f, type := ty, pos := pos, after := af, guard := none } :: rest) L w := by
  refine wl_run hd (fun a ha => ?_) h
  unfold fvB at hF
  split at hF
  · rename_i fs hu
    split at hF
    · rename_i fd hf
      simp only [Bool.and_eq_true, beq_iff_eq] at hF
      obtain ⟨rfl, h2⟩ := hF
      simp [execOp, ha.eval hx, Instr.field, run_underlying hu, hf, asAgg, part, run_notAgg h2, hv]
    · cases hF
  · cases hF
theorem wl_fieldA {s f off k : Nat} {x : Operand} {cs : Array Value} (hd : d < n) (hF : faB P s f off k = true) (hx : ev L x = some (.agg cs)) (h : WL P n ops Q rest ((d, .agg (cs.extract off (off + k))) :: L) w) :
    WL P n ops Q ({ dst := some d, op := .field s x f, type := ty, pos := pos, after := af, guard := none } :: rest) L w := by
  refine wl_run hd (fun a ha => ?_) h
  unfold faB at hF
  split at hF
  · rename_i fs hu
    split at hF
    · rename_i fd hf
      simp only [Bool.and_eq_true, beq_iff_eq] at hF
      obtain ⟨rfl, h2⟩ := hF
      simp [execOp, ha.eval hx, Instr.field, run_underlying hu, hf, asAgg, part, (run_isAgg h2 w).1, (run_isAgg h2 w).2]
    · cases hF
  · cases hF
theorem wl_makeFunc {f : Fn} {first cap : List Operand} {vs us : List Value} (hd : d < n) (hv : evs L first = some vs) (hu : evs L cap = some us) (h : WL P n ops Q rest ((d, .func f vs.toArray us.toArray) :: L) w) :
    WL P n ops Q ({ dst := some d, op := .makeFunc f first.toArray cap.toArray, type := ty, pos := pos, after := af, guard := none } :: rest) L w :=
  wl_run hd (fun a ha => by simp [execOp, Instr.makeFunc, evs_map ha hv, evs_map ha hu]) h
theorem wl_nilCheck {x : Operand} {p : Addr} (hd : d < n) (hx : ev L x = some (.pointer (some p))) (h : WL P n ops Q rest ((d, .pointer (some p)) :: L) w) :
    WL P n ops Q ({ dst := some d, op := .nilCheck x, type := ty, pos := pos, after := af, guard := none } :: rest) L w :=
  wl_run hd (fun a ha => by simp [execOp, ha.eval hx]) h
theorem wl_iface {t : TypeId} {x : Operand} {v : Value} (hd : d < n) (ht : P.concrete t = true) (hx : ev L x = some v) (h : WL P n ops Q rest ((d, .iface t v) :: L) w) :
    WL P n ops Q ({ dst := some d, op := .makeInterface t x, type := ty, pos := pos, after := af, guard := none } :: rest) L w :=
  wl_run hd (fun a ha => by simp [execOp, ha.eval hx, run_makeInterface w t v ht]) h
end
end Go.Eng

namespace Go.Eng
open Go.RowKit
/-- Parts put into cells, as lists. -/
def fillL (places : List (Nat × Nat)) : List Value → List (Nat × Value) → Option (List Value)
  | cs, [] => some cs
  | cs, (i, v) :: rest => match places[i]? with
    | none => none
    | some (off, size) => bif Nat.beq v.cells.toList.length size && Nat.ble (off + v.cells.toList.length) cs.length then fillL places (putL cs off v.cells.toList) rest else none
theorem fill_list (places : List (Nat × Nat)) (pf : Nat → Option (Nat × Nat)) (hpf : ∀ i p, places[i]? = some p → pf i = some p) : ∀ (parts : List (Nat × Value)) (cs out : List Value), fillL places cs parts = some out → Instr.fill pf cs.toArray parts = some out.toArray
  | [], cs, out, h => by simp [fillL] at h; simp [Instr.fill, h]
  | (i, v) :: rest, cs, out, h => by
    rw [fillL] at h
    rw [Instr.fill]
    cases hp : places[i]? with
    | none => rw [hp] at h; cases h
    | some p =>
      obtain ⟨off, size⟩ := p
      rw [hp] at h
      simp only at h
      cases hb : Nat.beq v.cells.toList.length size && Nat.ble (off + v.cells.toList.length) cs.length with
      | false => rw [hb] at h; cases h
      | true =>
        rw [hb, cond_true] at h
        rw [Bool.and_eq_true] at hb
        have h1 : v.cells.size = size := by rw [← Array.length_toList]; exact Nat.eq_of_beq_eq_true hb.1
        have h2 : off + v.cells.size ≤ cs.length := by rw [← Array.length_toList]; exact Nat.le_of_ble_eq_true hb.2
        have ih := fill_list places pf hpf rest _ out h
        simp only [hpf i _ hp]
        rw [if_neg (by
          intro h
          simp only [Bool.or_eq_true, decide_eq_true_eq, List.size_toArray] at h
          omega)]
        have e : v.cells.zipIdx.foldl (fun cs (x : Value × Nat) => cs.setIfInBounds (off + x.2) x.1) cs.toArray = (putL cs off v.cells.toList).toArray := by
          have := foldl_put v.cells.toList off (cs.take off) (cs.drop off) (by rw [List.length_take]; omega) (by rw [List.length_drop, Array.length_toList]; omega)
          rw [List.take_append_drop] at this
          rw [← Array.foldl_toList, Array.toList_zipIdx]
          rw [this, putL, List.drop_drop]
        rw [e]
        exact ih
/-- Where a struct's or an array's parts go, and its noughts. -/
def bldB (P : Program) (t : TypeId) (places : List (Nat × Nat)) (zs : Array Value → Bool) : Bool :=
  match P.info? t, P.underlying t with
  | some it, some (.struct fields) => (match it.zero, fields.toList.mapM (fun f => (P.info? f.type).map fun i => (f.offset, i.size)) with
    | some z, some pl => pl == places && zs z.cells
    | _, _ => false)
  | some it, some (.array n e) => (match it.zero, P.info? e with
    | some z, some ie => (List.range n).map (fun i => (i * ie.size, ie.size)) == places && zs z.cells
    | _, _ => false)
  | _, _ => false
/-- Cells that are told by a test. -/
def isCells : List Value → List Value → Bool
  | [], [] => true
  | .bool a :: s, .bool b :: t => a == b && isCells s t
  | .int k a :: s, .int k' b :: t => k == k' && a == b && isCells s t
  | .slice none 0 0 :: s, .slice none 0 0 :: t => isCells s t
  | .map none :: s, .map none :: t => isCells s t
  | .pointer none :: s, .pointer none :: t => isCells s t
  | .nilFunc :: s, .nilFunc :: t => isCells s t
  | .nilIface :: s, .nilIface :: t => isCells s t
  | _, _ => false
theorem isCells_eq : ∀ {a b : List Value}, isCells a b = true → a = b := by
  intro a
  induction a with
  | nil => intro b h; cases b <;> simp [isCells] at h ⊢
  | cons x s ih =>
    intro b h
    cases b with
    | nil => cases x <;> simp [isCells] at h
    | cons y t =>
      unfold isCells at h
      split at h <;> simp_all <;> first | exact ih h | exact ih h.2
theorem built_of {P : Program} {t : TypeId} {places : List (Nat × Nat)} {zl : List Value} {vs : List (Nat × Value)} {cells : List Value} (hB : bldB P t places (fun z => isCells z.toList zl) = true) (hf : fillL places zl vs = some cells) : P.built t vs = some cells.toArray := by
  unfold bldB at hB
  split at hB
  · rename_i it fields hi hu
    split at hB
    · rename_i z pl hz hpl
      rw [Bool.and_eq_true, beq_iff_eq] at hB
      obtain ⟨rfl, h2⟩ := hB
      have e := isCells_eq h2
      unfold Program.built
      rw [hi, hu]
      simp only [hz, hpl]
      have := fill_list pl (fun i => pl[i]?) (fun _ _ h => h) vs _ _ hf
      rw [← e, Array.toArray_toList] at this
      simpa using this
    · cases hB
  · rename_i it m e hi hu
    split at hB
    · rename_i z ie hz hie
      rw [Bool.and_eq_true, beq_iff_eq] at hB
      obtain ⟨rfl, h2⟩ := hB
      have e1 := isCells_eq h2
      unfold Program.built
      rw [hi, hu]
      simp only [hz, hie]
      have := fill_list _ (fun i => some (i * ie.size, ie.size)) (fun i p h => by
        rw [List.getElem?_map] at h
        cases hr : (List.range m)[i]? with
        | none => rw [hr] at h; cases h
        | some j =>
          rw [hr] at h
          obtain ⟨_, rfl⟩ := List.getElem?_eq_some_iff.1 hr
          rw [List.getElem_range] at h
          exact h) vs _ _ hf
      rw [← e1, Array.toArray_toList] at this
      exact this
    · cases hB
  · cases hB
theorem wl_built {P : Program} {n : Nat} {L : List (Nat × Value)} {w : World} {Q : Exit → Act → World → Prop} {ops : Array Oper} {rest : List Oper} {ty : TypeId} {pos : String} {af : Array Edge} {d : Nat}
    {t : TypeId} {ps : List (Nat × Operand)} {places : List (Nat × Nat)} {zl : List Value} {vs : List (Nat × Value)} {cells : List Value} (hd : d < n) (hB : bldB P t places (fun z => isCells z.toList zl) = true) (hv : evp L ps = some vs) (hf : fillL places zl vs = some cells)
    (h : WL P n ops Q rest ((d, .agg cells.toArray) :: L) w) :
    WL P n ops Q ({ dst := some d, op := .build t ps.toArray, type := ty, pos := pos, after := af, guard := none } :: rest) L w := wl_build hd hv (built_of hB hf) h
end Go.Eng

namespace Go.Eng
open Go.RowKit
/-- What a function's results come to. -/
def ResOK (P : Program) (L : List (Nat × Value)) (w : World) : List ResultVar → List Value → Prop
  | [], vs => vs = []
  | .tmp t :: rs, vs => ∃ v us, vs = v :: us ∧ lk L t = some v ∧ ResOK P L w rs us
  | .cell t ty :: rs, vs => ∃ v us p, vs = v :: us ∧ lk L t = some (.pointer (some p)) ∧ (loadVar ty p).run P w = .ok v w ∧ ResOK P L w rs us
theorem loadVar_one {P : Program} {w : World} {t : TypeId} {p : Addr} {v : Value} (hs : scB P t = true) (hc : w.cell? p = some v) : (loadVar t p).run P w = .ok v w := by
  simp [loadVar, run_notAgg hs, load, Sem.run, hc]
theorem loadVar_agg {P : Program} {w : World} {t k : Nat} {p : Addr} {cs : List Value} (hs : agB P t k = true) (hat : At w p cs) (hl : cs.length = k) : (loadVar t p).run P w = .ok (.agg cs.toArray) w := by
  subst hl
  have hl := run_loadCells_list (P := P) w p cs hat
  simp [loadVar, (run_isAgg hs w).1, (run_isAgg hs w).2, hl]
theorem run_resOK {P : Program} {n : Nat} {L : List (Nat × Value)} {w : World} {a : Act} (ha : Fr n a L) (f : ResultVar → Sem Value) (hf1 : ∀ t, f (.tmp t) = pure (a.tmps.getD t undef)) (hf2 : ∀ t ty, f (.cell t ty) = (do loadVar ty (← asAddr (a.tmps.getD t undef)))) :
    ∀ (rs : List ResultVar) (vs : List Value), ResOK P L w rs vs → (rs.mapM f).run P w = .ok vs w
  | [], vs, h => by subst h; simp
  | .tmp t :: rs, vs, h => by
    obtain ⟨v, us, rfl, h1, h2⟩ := h
    have ih := run_resOK ha f hf1 hf2 rs us h2
    have e : a.tmps.getD t undef = v := by rw [Array.getD_eq_getD_getElem?, ha.get t v h1]; rfl
    simp [List.mapM_cons, hf1, e, ih]
  | .cell t ty :: rs, vs, h => by
    obtain ⟨v, us, p, rfl, h1, h2, h3⟩ := h
    have ih := run_resOK ha f hf1 hf2 rs us h3
    have e : a.tmps.getD t undef = .pointer (some p) := by rw [Array.getD_eq_getD_getElem?, ha.get t _ h1]; rfl
    simp [List.mapM_cons, hf2, e, asAddr, h2, ih]
/-- One value, or a tuple. -/
def tupV : List Value → Value
  | [v] => v
  | vs => .tuple vs.toArray
theorem wk_postR {P : Program} {n : Nat} {L : List (Nat × Value)} {w : World} {fn : Func} {R : Ending → World → Prop} {e : Exit} {rs : List ResultVar} {vs : List Value} (he : e = .ret ∨ e = .normal) (hr : fn.results = rs.toArray) (hv : ResOK P L w rs vs)
    (h : R (.returned (tupV vs)) w) : WK n (bodyPost P fn R e) L w := by
  intro a ha
  have hm : ∀ f : ResultVar → Sem Value, (∀ t, f (.tmp t) = pure (a.tmps.getD t undef)) → (∀ t ty, f (.cell t ty) = (do loadVar ty (← asAddr (a.tmps.getD t undef)))) → (rs.mapM f).run P w = .ok vs w := fun f h1 h2 => run_resOK ha f h1 h2 rs vs hv
  have hrun : (results fn a.tmps).run P w = .ok (tupV vs) w := by
    unfold results
    rw [hr, Array.mapM_eq_mapM_toList]
    simp only [Sem.run_bind, Sem.run_map]
    rw [hm _ (fun _ => rfl) (fun _ _ => rfl)]
    match vs with
    | [] => simp [tupV]
    | [v] => simp [tupV]
    | v :: u :: t => simp [tupV]
  rcases he with rfl | rfl <;> exact ⟨ha.defers, _, hrun, h⟩
end Go.Eng
