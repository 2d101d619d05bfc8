/- More of the engine's rules: guards, slices cut, slices built, structs in memory. Program-independent. -/
import Derived.Test.YtnlpibfdobinoaaDraw
namespace Go.Eng
open Go.RowKit

section
variable {P : Program} {n : Nat} {L : List (Nat × Value)} {w w' : World} {Q : Exit → Act → World → Prop} {ops : Array Oper} {rest : List Oper} {ty : TypeId} {pos : String} {af : Array Edge} {d : Nat}

theorem wl_gsplit {dj : Nat} {b : Bool} (hv : lk L dj = some (.bool b)) (ht : b = true → WL P n ops Q rest ((dj, .bool true) :: L) w) (hf : b = false → WL P n ops Q rest ((dj, .bool false) :: L) w) : WL P n ops Q rest L w := by
  intro a ha
  have key : ∀ u, Value.bool b = u → Fr n a ((dj, u) :: L) := by
    rintro u rfl
    refine ⟨ha.size, ha.defers, fun k v hk => ?_⟩
    simp only [lk] at hk
    cases hb : Nat.beq k dj with
    | true =>
      rw [hb] at hk
      simp only [cond_true, Option.some.injEq] at hk
      subst hk
      rw [Nat.eq_of_beq_eq_true hb]
      exact ha.get _ _ hv
    | false => rw [hb] at hk; exact ha.get _ _ hk
  cases b with
  | true => exact ht rfl a (key _ rfl)
  | false => exact hf rfl a (key _ rfl)

theorem qr_re {F : List (Nat × Value)} {R : Value → World → Prop} {v u : Value} (h : R v w) : WK n (QR n F (some d) R .normal) ((d, v) :: (d, u) :: F) w := by
  intro a ha
  refine ⟨rfl, v, ⟨ha.size, ha.defers, fun k x hk => ha.get k x ?_⟩, h⟩
  simp only [lk] at hk ⊢
  cases hb : Nat.beq k d with
  | true => rw [hb] at hk; exact hk
  | false => rw [hb] at hk; exact hk
/-- A slot's value, said otherwise. -/
theorem wl_re {k : Nat} {u v : Value} (hv : lk L k = some u) (e : u = v) (h : WL P n ops Q rest ((k, v) :: L) w) : WL P n ops Q rest L w := by
  subst e
  intro a ha
  refine h a ⟨ha.size, ha.defers, fun k' v' hk => ?_⟩
  simp only [lk] at hk
  cases hb : Nat.beq k' k with
  | true =>
    rw [hb] at hk
    simp only [cond_true, Option.some.injEq] at hk
    subst hk
    rw [Nat.eq_of_beq_eq_true hb]
    exact ha.get _ _ hv
  | false => rw [hb] at hk; exact ha.get _ _ hk

/-- A store of one cell. -/
def szB (P : Program) (t k : Nat) : Bool := (P.info? t).map (·.size) == some k
theorem wl_store {x y : Operand} {t : TypeId} {p : Addr} {v u : Value} (hs : szB P t 1 = true) (hx : ev L x = some (.pointer (some p))) (hy : ev L y = some v) (h1 : v.oneCell' = true) (hc : w.cell? p = some u) (hf : w.frozen? p = false)
    (h : WL P n ops Q rest L (w.setCell p v)) :
    WL P n ops Q ({ dst := none, op := .store t x y, type := ty, pos := pos, after := af, guard := none } :: rest) L w := by
  refine wl_eff (fun a ha => ?_) h
  have hsz : (sizeOf t).run P w = .ok 1 w := by
    unfold szB at hs
    rw [beq_iff_eq] at hs
    cases hi : P.info? t with
    | none => rw [hi] at hs; cases hs
    | some i => rw [hi] at hs; simp at hs; simp [sizeOf, typeInfo, hi, hs]
  have hst := run_store P w p v .plain h1
  have e : v.cells = #[v] := by cases v <;> simp_all [Value.cells, Value.oneCell']
  simp [execOp, ha.eval hx, ha.eval hy, Instr.storeAt, Instr.sureAddr, storeVar, e, hsz, storeCells, add_zero', hst, stored, hc, hf]

/-- Bools held against each other. -/
def boB (P : Program) (t : TypeId) : Bool := match P.underlying t with | some .bool => true | _ => false
theorem boB_out {t : TypeId} (h : boB P t = true) : P.underlying t = some .bool := by
  unfold boB at h
  split at h
  · assumption
  · cases h
theorem wl_eqlb {x y : Operand} {a b : Bool} {t u : TypeId} (hd : d < n) (ht : boB P t = true) (hx : ev L x = some (.bool a)) (hy : ev L y = some (.bool b)) (h : WL P n ops Q rest ((d, .bool (decide (a = b))) :: L) w) :
    WL P n ops Q ({ dst := some d, op := .binOp .eql t x y u, type := ty, pos := pos, after := af, guard := none } :: rest) L w :=
  wl_run hd (fun c hc => by
    have hq : ∀ k : Nat, (Op.equalIn (k + 1) t (.bool a) (.bool b)).run P w = .ok (a == b) w := fun k => by simp [Op.equalIn, run_underlying (boB_out ht)]
    have hb : (binOp .eql t (.bool a) (.bool b)).run P w = .ok (.bool (decide (a = b))) w := by
      simp only [binOp, Op.equal, Sem.run_bind]
      rw [show Op.maxDepth = 9999 + 1 from rfl, hq 9999]
      cases a <;> cases b <;> simp
    have hg : (eqGuard .eql t x y (.bool a) (.bool b)).run P w = .ok () w := by simp [eqGuard]
    simp only [execOp, hc.eval hx, hc.eval hy, Sem.run_bind, hg, Result.andThen_ok, hb, Sem.run_pure]) h
theorem wl_neqb {x y : Operand} {a b : Bool} {t u : TypeId} (hd : d < n) (ht : boB P t = true) (hx : ev L x = some (.bool a)) (hy : ev L y = some (.bool b)) (h : WL P n ops Q rest ((d, .bool (decide (a ≠ b))) :: L) w) :
    WL P n ops Q ({ dst := some d, op := .binOp .neq t x y u, type := ty, pos := pos, after := af, guard := none } :: rest) L w :=
  wl_run hd (fun c hc => by
    have hq : ∀ k : Nat, (Op.equalIn (k + 1) t (.bool a) (.bool b)).run P w = .ok (a == b) w := fun k => by simp [Op.equalIn, run_underlying (boB_out ht)]
    have hb : (binOp .neq t (.bool a) (.bool b)).run P w = .ok (.bool (decide (a ≠ b))) w := by
      simp only [binOp, Op.equal, Sem.run_bind]
      rw [show Op.maxDepth = 9999 + 1 from rfl, hq 9999]
      cases a <;> cases b <;> simp
    have hg : (eqGuard .neq t x y (.bool a) (.bool b)).run P w = .ok () w := by simp [eqGuard]
    simp only [execOp, hc.eval hx, hc.eval hy, Sem.run_bind, hg, Result.andThen_ok, hb, Sem.run_pure]) h

/-! ### A slice cut -/
theorem run_cut {P : Program} (w : World) {t e size bytes k c : Nat} {A : Option Addr} (hT : slB P t e size bytes = true) (lo hi : Nat) (kl kh : IntKind) (h1 : lo ≤ hi) (h2 : hi ≤ c) :
    (Instr.sliceAt t (.slice A k c) (some (.int kl (lo : Int))) (some (.int kh (hi : Int))) none).run P w = .ok (.slice (if c = lo then A else A.map (·.add (lo * size))) (hi - lo) (c - lo)) w := by
  obtain ⟨i0, z, ht, hi0, _, hs, _, _, _, _⟩ := slB_out hT
  simp [Instr.sliceAt, run_underlying ht, Instr.slice, Instr.sliceBounds, Instr.sliceBound, asIntOf, sizeOf, typeInfo, hi0, hs, h1, h2]
theorem run_cut_lo {P : Program} (w : World) {t e size bytes k c : Nat} {A : Option Addr} (hT : slB P t e size bytes = true) (lo : Nat) (kl : IntKind) (h1 : lo ≤ k) :
    (Instr.sliceAt t (.slice A k c) (some (.int kl (lo : Int))) none none).run P w = .ok (.slice (if c = lo then A else A.map (·.add (lo * size))) (k - lo) (c - lo)) w := by
  obtain ⟨i0, z, ht, hi0, _, hs, _, _, _, _⟩ := slB_out hT
  simp [Instr.sliceAt, run_underlying ht, Instr.slice, Instr.sliceBounds, Instr.sliceBound, asIntOf, sizeOf, typeInfo, hi0, hs, h1]
theorem run_cut_hi {P : Program} (w : World) {t e size bytes k c : Nat} {A : Option Addr} (hT : slB P t e size bytes = true) (hi : Nat) (kh : IntKind) (h2 : hi ≤ c) :
    (Instr.sliceAt t (.slice A k c) none (some (.int kh (hi : Int))) none).run P w = .ok (.slice A hi c) w := by
  obtain ⟨i0, z, ht, hi0, _, hs, _, _, _, _⟩ := slB_out hT
  have e : Option.map (fun x : Addr => x.add 0) A = A := by cases A <;> simp [Addr.add]
  simp [Instr.sliceAt, run_underlying ht, Instr.slice, Instr.sliceBounds, Instr.sliceBound, asIntOf, sizeOf, typeInfo, hi0, hs, h2, e]
theorem wl_from {α : Type} {r : Rep α} {S : Nat → Prop} {A : Option Addr} {c t e bytes : Nat} {l : List α} {x lo : Operand} {k : IntKind} {i : Int} (hd : d < n) (hT : slB P t e r.size bytes = true)
    (hx : ev L x = some (.slice A l.length c)) (hi : ev L lo = some (.int k i)) (g : GS r S w A c l) (j : Nat) (hj : i = (j : Int)) (hle : j ≤ l.length)
    (h : ∀ A' c', GS r S w A' c' (l.drop j) → WL P n ops Q rest ((d, .slice A' (l.drop j).length c') :: L) w) :
    WL P n ops Q ({ dst := some d, op := .slice t x (some lo) none none, type := ty, pos := pos, after := af, guard := none } :: rest) L w := by
  subst hj
  refine wl_run (w' := w) (v := .slice (if c = j then A else A.map (·.add (j * r.size))) (l.length - j) (c - j)) hd (fun a ha => ?_) ?_
  · simp [execOp, ha.eval hx, ha.eval hi, run_cut_lo w hT j k hle]
  · have := h _ _ (g.drop j hle)
    rwa [List.length_drop] at this
theorem wl_to {α : Type} {r : Rep α} {S : Nat → Prop} {A : Option Addr} {c t e bytes : Nat} {l : List α} {x up : Operand} {k : IntKind} {i : Int} (hd : d < n) (hT : slB P t e r.size bytes = true)
    (hx : ev L x = some (.slice A l.length c)) (hi : ev L up = some (.int k i)) (g : GS r S w A c l) (j : Nat) (hj : i = (j : Int)) (hle : j ≤ l.length)
    (h : GS r S w A c (l.take j) → WL P n ops Q rest ((d, .slice A (l.take j).length c) :: L) w) :
    WL P n ops Q ({ dst := some d, op := .slice t x none (some up) none, type := ty, pos := pos, after := af, guard := none } :: rest) L w := by
  subst hj
  refine wl_run (w' := w) (v := .slice A j c) hd (fun a ha => ?_) ?_
  · have := g.le
    have hr := run_cut_hi (A := A) (k := l.length) (c := c) w hT j k (by omega)
    simp [execOp, ha.eval hx, ha.eval hi, hr]
  · have := h (g.take j)
    rwa [List.length_take, Nat.min_eq_left hle] at this
/-- 's[:0:0]' -/
theorem wl_cut0 {A : Option Addr} {c t e size bytes m : Nat} {x lo hi mx : Operand} {k1 k2 : IntKind} (hd : d < n) (hT : slB P t e size bytes = true)
    (hx : ev L x = some (.slice A m c)) (hh : ev L hi = some (.int k1 0)) (hm : ev L mx = some (.int k2 0)) (h : WL P n ops Q rest ((d, .slice A 0 0) :: L) w) :
    WL P n ops Q ({ dst := some d, op := .slice t x none (some hi) (some mx), type := ty, pos := pos, after := af, guard := none } :: rest) L w := by
  obtain ⟨i0, z, ht, hi0, _, hs, _, _, _, _⟩ := slB_out hT
  refine wl_run hd (fun a ha => ?_) h
  simp [execOp, ha.eval hx, ha.eval hh, ha.eval hm, Instr.sliceAt, run_underlying ht, Instr.slice, Instr.sliceBounds, Instr.sliceBound, asIntOf, sizeOf, typeInfo, hi0, hs]

/-! ### A slice written out -/
/-- The parts of a slice that is written out, in order. -/
def partsOf : Nat → List Operand → List (Nat × Operand)
  | _, [] => []
  | k, x :: t => (k, x) :: partsOf (k + 1) t
theorem partsOf_map {a : Act} : ∀ (xs : List Operand) (k : Nat), (partsOf k xs).map (fun p => (p.1, a.eval p.2)) = ((xs.map a.eval).zipIdx k).map (fun p => (p.2, p.1))
  | [], _ => rfl
  | x :: t, k => by simp [partsOf, partsOf_map t (k + 1), List.zipIdx_cons]
theorem foldl_put : ∀ (cs : List Value) (off : Nat) (pre post : List Value), pre.length = off → cs.length ≤ post.length →
    ((cs.zipIdx).foldl (fun (acc : Array Value) (p : Value × Nat) => acc.setIfInBounds (off + p.2) p.1) (pre ++ post).toArray) = (pre ++ cs ++ post.drop cs.length).toArray := by
  intro cs
  have key : ∀ (cs : List Value) (j off : Nat) (pre post : List Value), pre.length = off + j → cs.length ≤ post.length →
      ((cs.zipIdx j).foldl (fun (acc : Array Value) (p : Value × Nat) => acc.setIfInBounds (off + p.2) p.1) (pre ++ post).toArray) = (pre ++ cs ++ post.drop cs.length).toArray := by
    intro cs
    induction cs with
    | nil => intro j off pre post _ _; simp
    | cons c t ih =>
      intro j off pre post hp hl
      obtain ⟨y, ys, rfl⟩ : ∃ y ys, post = y :: ys := by
        cases post with
        | nil => simp at hl
        | cons y ys => exact ⟨y, ys, rfl⟩
      rw [List.zipIdx_cons, List.foldl_cons]
      have e : (pre ++ y :: ys).toArray.setIfInBounds (off + j) c = ((pre ++ [c]) ++ ys).toArray := by
        rw [List.setIfInBounds_toArray, ← hp, List.set_append_right _ _ (Nat.le_refl _)]
        simp
      rw [e, ih (j + 1) off (pre ++ [c]) ys (by simp; omega) (by simpa using hl)]
      simp
  intro off pre post hp hl
  exact key cs 0 off pre post (by simpa using hp) hl
theorem fill_seq {size : Nat} : ∀ (vs : List Value) (k : Nat) (pre post : List Value), (∀ v ∈ vs, v.cells.size = size) → pre.length = k * size → post.length = vs.length * size →
    Instr.fill (fun i => some (i * size, size)) (pre ++ post).toArray ((vs.zipIdx k).map (fun p => (p.2, p.1))) = some (pre ++ (vs.map (fun v => v.cells.toList)).flatten).toArray := by
  intro vs
  induction vs with
  | nil =>
    intro k pre post _ _ hl
    have : post = [] := List.eq_nil_of_length_eq_zero (by simpa using hl)
    subst this
    simp [Instr.fill]
  | cons v t ih =>
    intro k pre post hs hp hl
    have hv := hs v (by simp)
    have hl' : post.length = size + t.length * size := by rw [hl, List.length_cons, Nat.add_mul, Nat.one_mul, Nat.add_comm]
    rw [List.zipIdx_cons, List.map_cons]
    simp only [Instr.fill]
    have h1 : ¬ ((decide (v.cells.size ≠ size) || decide (k * size + v.cells.size > (pre ++ post).toArray.size)) = true) := by
      simp [hv, hp, hl']
    simp only [hv, ne_eq, not_true_eq_false, decide_false, Bool.false_or, decide_eq_true_eq, List.size_toArray, List.length_append, hp, hl'] at h1 ⊢
    rw [if_neg (by omega)]
    have h2 := foldl_put v.cells.toList (k * size) pre post hp (by simp [hv, hl'])
    have h3 : v.cells.zipIdx.foldl (fun cs x => cs.setIfInBounds (k * size + x.2) x.1) (pre ++ post).toArray = (pre ++ v.cells.toList ++ post.drop size).toArray := by
      rw [← Array.foldl_toList, Array.toList_zipIdx]
      have : v.cells.toList.length = size := by simpa using hv
      rw [this] at h2
      exact h2
    have h4 : (v.cells.zipIdx.foldl (fun cs (c, j) => cs.setIfInBounds (k * size + j) c) (pre ++ post).toArray) = (pre ++ v.cells.toList ++ post.drop size).toArray := h3
    rw [h4, ih (k + 1) (pre ++ v.cells.toList) (post.drop size) (fun u hu => hs u (by simp [hu])) (by simp [hp, hv, Nat.add_mul]) (by simp [hl'])]
    simp
theorem run_buildSlice {P : Program} (w : World) {t e size bytes : Nat} (hT : slB P t e size bytes = true) (vs : List Value) (hs : ∀ v ∈ vs, v.cells.size = size) (hm : vs.length * size ≤ 16777216) :
    (Instr.buildSlice t vs.length ((vs.zipIdx.map (fun p => (p.2, p.1))).toArray)).run P w =
      .ok (.slice (some ⟨w.heap.size, 0, none⟩) vs.length vs.length) (w.alloc (.cells (vs.map (fun v => v.cells.toList)).flatten.toArray e)) := by
  obtain ⟨i0, z, ht, hi0, hz, hsz, _, hzs, _, _⟩ := slB_out hT
  have hm' : ¬ 16777216 < vs.length * size := by omega
  by_cases h0 : vs.length * size = 0
  · have hf := fill_seq (size := size) vs 0 [] [] hs (by simp) (by simpa using h0.symm)
    simp only [List.append_nil, List.nil_append] at hf
    have hr0 : Array.range 0 = #[] := rfl
    simp [Instr.buildSlice, run_underlying ht, sizeOf, typeInfo, hi0, hsz, h0, hf, newRow, hr0]
  · have hf := fill_seq (size := size) vs 0 [] ((Array.range (vs.length * size)).map (fun x => z.cells[x % z.cells.size]!)).toList hs (by simp) (by simp)
    simp only [List.nil_append, Array.toArray_toList] at hf
    simp [Instr.buildSlice, run_underlying ht, sizeOf, typeInfo, hi0, hsz, h0, hm', zeroValue, hz, newRow]
    rw [hf]
    simp
theorem wl_bslice {t e size bytes : Nat} {xs : List Operand} {vs : List Value} {k : Nat} {ps : Array (Nat × Operand)} (hd : d < n) (hT : slB P t e size bytes = true) (hp : ps = (partsOf 0 xs).toArray) (hv : evs L xs = some vs) (hk : k = vs.length)
    (hs : ∀ v ∈ vs, v.cells.size = size) (hm : vs.length * size ≤ 16777216) (lo : Nat) (hlo : lo ≤ w.heap.size)
    (h : ∀ g w', g = w.heap.size → OwnRow e size lo w' (some ⟨g, 0, none⟩) k k (vs.map (fun v => v.cells.toList)).flatten → Ext w w' → WL P n ops Q rest ((d, .slice (some ⟨g, 0, none⟩) k k) :: L) w') :
    WL P n ops Q ({ dst := some d, op := .buildSlice t k ps, type := ty, pos := pos, after := af, guard := none } :: rest) L w := by
  subst hp
  subst hk
  obtain ⟨_, _, _, _, _, _, _, _, hpos, _⟩ := slB_out hT
  refine wl_run (w' := w.alloc (.cells (vs.map (fun v => v.cells.toList)).flatten.toArray e)) hd (fun a ha => ?_) (h w.heap.size _ rfl ⟨?_, Nat.le_refl _, ?_, .inr ⟨_, _, rfl, hlo, heap_alloc_new w _, ?_, ?_⟩⟩ (Ext.alloc w _))
  · have hm' := evs_map ha hv
    have e : ((partsOf 0 xs).toArray.map fun p => (p.1, a.eval p.2)) = (vs.zipIdx.map (fun p => (p.2, p.1))).toArray := by
      rw [List.map_toArray, partsOf_map, hm']
    have hr := run_buildSlice (P := P) w hT vs hs hm
    simp only [execOp]
    have e2 : (Array.map (fun x => match x with | (i, x) => (i, a.eval x)) (partsOf 0 xs).toArray) = (vs.zipIdx.map (fun p => (p.2, p.1))).toArray := e
    rw [e2]
    simp [hr]
  · rw [flat_len _ size (fun x hx => by obtain ⟨v, hv, rfl⟩ := List.mem_map.1 hx; simpa using hs v hv)]
    simp
  · have := Nat.le_mul_of_pos_right vs.length hpos
    omega
  · simp only [List.size_toArray]
    rw [flat_len _ size (fun x hx => by obtain ⟨v, hv, rfl⟩ := List.mem_map.1 hx; simpa using hs v hv)]
    simp
  · simp only []
    refine List.take_of_length_le ?_
    rw [flat_len _ size (fun x hx => by obtain ⟨v, hv, rfl⟩ := List.mem_map.1 hx; simpa using hs v hv)]
    simp
/-- Of elements of one cell. -/
theorem flat_cells1 : ∀ (vs : List Value), (∀ v ∈ vs, v.oneCell' = true) → (vs.map (fun v => v.cells.toList)).flatten = vs := by
  intro vs
  induction vs with
  | nil => intro _; rfl
  | cons v t ih =>
    intro h
    have h1 : v.cells.toList = [v] := by
      have := h v (by simp)
      cases v <;> simp_all [Value.cells, Value.oneCell']
    rw [List.map_cons, List.flatten_cons, h1, ih (fun u hu => h u (by simp [hu]))]
    rfl
theorem wl_bsliceB {t e : Nat} {xs : List Operand} {bs : List UInt8} {k : Nat} {ps : Array (Nat × Operand)} (hd : d < n) (hT : slB P t e 1 1 = true) (hp : ps = (partsOf 0 xs).toArray) (hv : evs L xs = some (bs.map bv)) (hk : k = bs.length)
    (hm : bs.length ≤ 16777216) (lo : Nat) (hlo : lo ≤ w.heap.size)
    (h : ∀ g w', g = w.heap.size → OwnB e lo w' (some ⟨g, 0, none⟩) k bs → Ext w w' → WL P n ops Q rest ((d, .slice (some ⟨g, 0, none⟩) k k) :: L) w') :
    WL P n ops Q ({ dst := some d, op := .buildSlice t k ps, type := ty, pos := pos, after := af, guard := none } :: rest) L w := by
  refine wl_bslice (vs := bs.map bv) hd hT hp hv (by simp [hk]) ?_ (by simpa using hm) lo hlo ?_
  · intro v hv
    obtain ⟨b, _, rfl⟩ := List.mem_map.1 hv
    rfl
  · intro g w' hg ho hE
    rw [flat_cells1 _ (by intro v hv; obtain ⟨b, _, rfl⟩ := List.mem_map.1 hv; rfl)] at ho
    refine h g w' hg ?_ hE
    subst hk
    exact ho

/-! ### Every order, with the words bundled -/
structure SP where
  p : Value → World → Prop
  st : ∀ v w w', Ext w w' → p v w → p v w'
def SP.eq (e : Value) : SP := ⟨fun v _ => v = e, fun _ _ _ _ h => h⟩
def SP.any : SP := ⟨fun _ _ => True, fun _ _ _ _ h => h⟩
/-- An address at which these cells lie. -/
def SP.ptr (S : Nat → Prop) (cs : List Value) : SP := ⟨fun v w => ∃ a : Addr, v = .pointer (some a) ∧ a.block < w.heap.size ∧ S a.block ∧ At w a cs, by
  rintro _ w w' ch ⟨a, rfl, hb, hs, h⟩
  exact ⟨a, rfl, Nat.lt_of_lt_of_le hb ch.size, hs, h.keep ch (fun _ x => x)⟩⟩
/-- A slice that reads so. -/
def SP.gs {α : Type} (r : Rep α) (S : Nat → Prop) (l : List α) : SP := ⟨fun v w => ∃ A c, v = .slice A l.length c ∧ GS r S w A c l, by
  rintro _ w w' ch ⟨A, c, rfl, h⟩
  exact ⟨A, c, rfl, h.ext ch⟩⟩
/-- A row of the call's own. -/
def SP.own (e size lo n : Nat) (xs : List Value) : SP := ⟨fun v w => ∃ A c, v = .slice A n c ∧ OwnRow e size lo w A n c xs, by
  rintro _ w w' ch ⟨A, c, rfl, h⟩
  exact ⟨A, c, rfl, h.ext ch⟩⟩

def AllOps (p : Nat → Oper → Prop) : Nat → List Oper → Prop
  | _, [] => True
  | k, o :: t => p k o ∧ AllOps p (k + 1) t
theorem AllOps.at_ {p : Nat → Oper → Prop} : ∀ {l : List Oper} {k : Nat}, AllOps p k l → ∀ i o, l[i]? = some o → p (k + i) o := by
  intro l
  induction l with
  | nil => intro k _ i o h; simp at h
  | cons x t ih =>
    intro k h i o ho
    cases i with
    | zero => simp only [List.getElem?_cons_zero, Option.some.injEq] at ho; subst ho; exact h.1
    | succ i =>
      have := ih h.2 i o (by simpa using ho)
      rwa [show k + (i + 1) = k + 1 + i by omega]
def spAt (Φ : List SP) (i : Nat) : SP := Φ[i]?.getD SP.any
theorem wc_drawL {id : Nat} {l : List Oper} (Φ : List SP) (hm : P.follows .mixedOrders = true)
    (hB : (fwd l.toArray && oneEach l.toArray) = true)
    (H : AllOps (fun i o => ∀ F w', Ext w w' → Kn l.toArray L (fun i => (spAt Φ i).p) i F w' → WL P n l.toArray (QR n F (dstOf l.toArray i) fun v w'' => Ext w' w'' ∧ (spAt Φ i).p v w'') [o] F w') 0 l)
    (hQ : ∀ F w', Ext w w' → (∀ x v, lk L x = some v → unwritten l.toArray x = true → lk F x = some v) → (∀ j d, dstOf l.toArray j = some d → ∃ v, lk F d = some v ∧ (spAt Φ j).p v w') → WK n (Q .normal) F w') :
    WK n ((Code.region id l.toArray true).wp P Q) L w :=
  wc_draw (fun i => (spAt Φ i).p) hm hB (fun i v w w' ch h => (spAt Φ i).st v w w' ch h) (fun i o ho => by have := H.at_ i o ho; rwa [Nat.zero_add] at this) hQ
end
end Go.Eng

namespace Go.Eng
theorem bool_f {p : Prop} [Decidable p] (h : ¬ p) : Value.bool false = Value.bool (decide p) := by simp [h]
theorem bool_t {p : Prop} [Decidable p] (h : p) : Value.bool true = Value.bool (decide p) := by simp [h]
theorem Chg.off {M : Nat → Prop} {w w' : World} (h : Chg M w w') (hn : ∀ b, b < w.heap.size → ¬ M b) : Ext w w' := h.weak (fun b hb x => hn b hb x)
/-- What a call's own rows may have turned lies behind w0. -/
theorem Ext.own {w0 w w' : World} {c lo : Nat} {A : Option Addr} (h : Ext w0 w) (k : Chg (fun b => c ≠ 0 ∧ lo ≤ b ∧ blk A b) w w') (hlo : w0.heap.size ≤ lo) : Ext w0 w' :=
  h.step k (fun b hb x => by have := x.2.1; omega)
end Go.Eng

namespace Go.Eng
open Go.RowKit
/-- Slices that read so. -/
def SlicesOf {α : Type} (r : Rep α) (S : Nat → Prop) (w : World) : List Value → List (List α) → Prop
  | [], [] => True
  | v :: vs, l :: ls => (∃ A c, v = .slice A l.length c ∧ GS r S w A c l) ∧ SlicesOf r S w vs ls
  | _, _ => False
theorem SlicesOf.nil {α : Type} {r : Rep α} {S : Nat → Prop} {w : World} : SlicesOf r S w [] [] := trivial
theorem SlicesOf.cons {α : Type} {r : Rep α} {S : Nat → Prop} {w : World} {A : Option Addr} {c : Nat} {l : List α} {vs : List Value} {ls : List (List α)} (h : GS r S w A c l) (t : SlicesOf r S w vs ls) : SlicesOf r S w (.slice A l.length c :: vs) (l :: ls) :=
  ⟨⟨A, c, rfl, h⟩, t⟩
theorem SlicesOf.len {α : Type} {r : Rep α} {S : Nat → Prop} {w : World} : ∀ {vs : List Value} {ls : List (List α)}, SlicesOf r S w vs ls → vs.length = ls.length ∧ (∀ v ∈ vs, v.oneCell' = true)
  | [], [], _ => ⟨rfl, by simp⟩
  | v :: vs, l :: ls, h => by
    obtain ⟨⟨A, c, rfl, _⟩, h2⟩ := h
    obtain ⟨h3, h4⟩ := SlicesOf.len h2
    refine ⟨by simp [h3], fun u hu => ?_⟩
    rcases List.mem_cons.1 hu with rfl | hu
    · rfl
    · exact h4 u hu
  | [], _ :: _, h => h.elim
  | _ :: _, [], h => h.elim
theorem SlicesOf.at_ {α : Type} {r : Rep α} {S : Nat → Prop} {w : World} : ∀ {vs : List Value} {ls : List (List α)}, SlicesOf r S w vs ls → ∀ i (h : i < ls.length), ∃ v, vs[i]? = some v ∧ (sliceR r).rd S w [v] ls[i]
  | v :: vs, l :: ls, h, i, hi => by
    obtain ⟨⟨A, c, rfl, hg⟩, h2⟩ := h
    cases i with
    | zero => exact ⟨_, rfl, A, c, rfl, hg⟩
    | succ i => simpa using SlicesOf.at_ h2 i (by simpa using hi)
  | [], [], _, i, hi => by simp at hi
  | [], _ :: _, h, _, _ => h.elim
  | _ :: _, [], h, _, _ => h.elim
section
variable {P : Program} {n : Nat} {L : List (Nat × Value)} {w : World} {Q : Exit → Act → World → Prop} {ops : Array Oper} {rest : List Oper} {ty : TypeId} {pos : String} {af : Array Edge} {d : Nat}
theorem wl_bsliceS {α : Type} {r : Rep α} {t e bytes : Nat} {xs : List Operand} {vs : List Value} {ls : List (List α)} {k : Nat} {ps : Array (Nat × Operand)} (hd : d < n) (hT : slB P t e 1 bytes = true) (hp : ps = (partsOf 0 xs).toArray) (hv : evs L xs = some vs)
    (hk : k = ls.length) (hm : k ≤ 16777216) (hls : SlicesOf r (fun _ => True) w vs ls)
    (h : ∀ g w', GS (sliceR r) (fun _ => True) w' (some ⟨g, 0, none⟩) k ls → Ext w w' → WL P n ops Q rest ((d, .slice (some ⟨g, 0, none⟩) ls.length k) :: L) w') :
    WL P n ops Q ({ dst := some d, op := .buildSlice t k ps, type := ty, pos := pos, after := af, guard := none } :: rest) L w := by
  obtain ⟨h1, h2⟩ := hls.len
  have h0 : ∀ v ∈ vs, v.cells.size = 1 := fun v hv => by have := h2 v hv; cases v <;> simp_all [Value.cells, Value.oneCell']
  subst hk
  refine wl_bslice (vs := vs) hd hT hp hv h1.symm h0 (by omega) w.heap.size (Nat.le_refl _) ?_
  intro g w' hg ho hE
  rw [flat_cells1 vs h2] at ho
  have hr : GS (sliceR r) (fun _ => True) w' (some ⟨g, 0, none⟩) ls.length ls := by
    by_cases hz : ls.length = 0
    · have := List.eq_nil_of_length_eq_zero hz
      subst this
      exact GS.nil _ _ _ _ _
    · refine GS.of_rows (vs.map fun v => [v]) ?_ (ho.lt0 hz) trivial (Nat.le_refl _) ho.mx (fun i hi => ?_)
      · have e : (vs.map fun v => [v]).flatten = vs := (flat_ones (fun v : Value => v) vs).trans (List.map_id' vs)
        rw [e]
        exact ho.at0
      · obtain ⟨v, hv1, hv2⟩ := hls.at_ i hi
        exact ⟨[v], by simp [hv1], (sliceR r).keep hE (fun _ _ _ x => x) hv2⟩
  exact h g w' hr hE
end
end Go.Eng

namespace Go.Eng
open Go.RowKit
theorem range_rep (s : Nat) (f : Nat → Value) : ∀ n : Nat, (List.range (n * s)).map (fun i => f (i % s)) = (List.replicate n ((List.range s).map f)).flatten
  | 0 => by simp
  | n + 1 => by
    rw [Nat.add_mul, Nat.one_mul, List.range_add, List.map_append, range_rep s f n, List.replicate_succ', List.flatten_append]
    congr 1
    rw [List.map_map]
    simp only [List.flatten_cons, List.flatten_nil, List.append_nil]
    apply List.map_congr_left
    intro j hj
    have hj' := List.mem_range.1 hj
    simp only [Function.comp]
    rw [Nat.add_comm, Nat.add_mul_mod_self_right, Nat.mod_eq_of_lt hj']
theorem made_rep (z : Array Value) (n : Nat) : (madeCells z (n * z.size)).toList = (List.replicate n z.toList).flatten := by
  unfold madeCells
  rw [Array.toList_map, Array.toList_range, range_rep z.size (fun i => z[i]!) n]
  congr 2
  apply List.ext_getElem (by simp)
  intro i h1 h2
  simp only [List.getElem_map, List.getElem_range]
  have h3 : i < z.size := by simpa using h2
  rw [getElem!_pos z i h3]
  simp
section
variable {P : Program} {n : Nat} {L : List (Nat × Value)} {w : World} {Q : Exit → Act → World → Prop} {ops : Array Oper} {rest : List Oper} {ty : TypeId} {pos : String} {af : Array Edge} {d : Nat}
theorem wl_make {t e size bytes k : Nat} {z : Value} {x y : Operand} {kl kc : IntKind} (hd : d < n) (hT : slB P t e size bytes = true) (hz : (P.info? e).bind (·.zero) = some z) (hx : ev L x = some (.int kl (k : Int))) (hy : ev L y = some (.int kc (k : Int)))
    (hb : bytes * k ≤ 140737488355328) (lo : Nat) (hlo : lo ≤ w.heap.size)
    (h : ∀ g w', g = w.heap.size → OwnRow e size lo w' (some ⟨g, 0, none⟩) k k (List.replicate k z.cells.toList).flatten → Ext w w' → WL P n ops Q rest ((d, .slice (some ⟨g, 0, none⟩) k k) :: L) w') :
    WL P n ops Q ({ dst := some d, op := .makeSlice t x y, type := ty, pos := pos, after := af, guard := none } :: rest) L w := by
  obtain ⟨i, z', ht, hi, hz', hs, hby, hzs, hs0, hb0⟩ := slB_out hT
  have e1 : z' = z := by rw [hi] at hz; simp only [Option.bind_some, hz'] at hz; exact Option.some.inj hz
  subst e1
  subst hs
  subst hby
  have hmx : k ≤ 140737488355328 := Nat.le_trans (Nat.le_mul_of_pos_left _ hb0) hb
  have hb' : (i.bytes : Int) * (k : Int) ≤ 281474976710656 := by
    have h : ((i.bytes * k : Nat) : Int) ≤ 281474976710656 := by omega
    rwa [Int.natCast_mul] at h
  have hr := run_make (P := P) w t e i z' ht hi hz' kl kc (k : Int) (k : Int) (by omega) (Int.le_refl _) hb' (by omega)
  simp only [Int.toNat_natCast] at hr
  refine wl_run (w' := w.alloc (.cells (madeCells z'.cells (k * i.size)) e)) hd (fun a ha => by simp [execOp, ha.eval hx, ha.eval hy, hr]) (h w.heap.size _ rfl ⟨?_, Nat.le_refl _, hmx, .inr ⟨_, _, rfl, hlo, heap_alloc_new w _, ?_, ?_⟩⟩ (Ext.alloc w _))
  · rw [flat_len _ i.size (fun x hx => by rw [(List.mem_replicate.1 hx).2]; simpa using hzs), List.length_replicate]
  · rw [size_madeCells]
  · rw [← hzs, made_rep]
    refine List.take_of_length_le ?_
    rw [flat_len _ z'.cells.size (fun x hx => by rw [(List.mem_replicate.1 hx).2]; simp), List.length_replicate]
    exact Nat.le_refl _
end
end Go.Eng

namespace Go.Eng
theorem OwnRow.zeros {e lo k c : Nat} {w : World} {A : Option Addr} (h : OwnRow e 1 lo w A k c (List.replicate k (Value.int .u8 0).cells.toList).flatten) : OwnB e lo w A c (List.replicate k 0) := by
  have e1 : (List.replicate k (Value.int .u8 0).cells.toList).flatten = (List.replicate k (0 : UInt8)).map bv := by
    rw [List.map_replicate]
    show (List.replicate k [Value.int .u8 0]).flatten = _
    clear h
    induction k with
    | zero => rfl
    | succ k ih => rw [List.replicate_succ, List.flatten_cons, ih, List.replicate_succ]; rfl
  rw [e1] at h
  show OwnRow e 1 lo w A (List.replicate k (0 : UInt8)).length c _
  rw [List.length_replicate]
  exact h
end Go.Eng
