/- A small engine of rules for walking Go code: a frame is known by a list of slots, the world by stable facts. Program-independent. -/
import Derived.WalkKit
import Derived.Laws.NewBlocks
namespace Go.Eng
open Go.RowKit

/-- What is known of a frame: slot and value, the newest first. -/
def lk : List (Nat × Value) → Nat → Option Value
  | [], _ => none
  | (j, v) :: t, k => bif Nat.beq k j then some v else lk t k

structure Fr (n : Nat) (a : Act) (L : List (Nat × Value)) : Prop where
  size : a.tmps.size = n
  defers : a.defers = []
  get : ∀ k v, lk L k = some v → a.tmps[k]? = some v

def ev (L : List (Nat × Value)) : Operand → Option Value
  | .tmp t => lk L t
  | .const v => some v
  | .global g => some (.pointer (some ⟨g, 0, none⟩))
  | .func f => some (.func (.func f) #[] #[])

section
variable {P : Program} {n : Nat} {a : Act} {L : List (Nat × Value)} {w w' : World}

theorem Fr.eval (h : Fr n a L) {x : Operand} {v : Value} (hx : ev L x = some v) : a.eval x = v := by
  cases x with
  | tmp t => simp [Act.eval, h.get t v hx]
  | const c => simpa [ev, Act.eval] using hx
  | global g => simpa [ev, Act.eval] using hx
  | func f => simpa [ev, Act.eval] using hx

theorem Fr.put (h : Fr n a L) {d : Nat} (hd : d < n) (v : Value) : Fr n (a.put (some d) v) ((d, v) :: L) := by
  refine ⟨by simp [Act.put, h.size], by simp [Act.put, h.defers], fun k u hk => ?_⟩
  have hs := h.size
  simp only [lk] at hk
  by_cases e : k = d
  · subst e
    have : Nat.beq k k = true := by simp
    rw [this] at hk
    simp only [cond_true, Option.some.injEq] at hk
    subst hk
    simp only [Act.put]
    rw [Array.getElem?_setIfInBounds, if_pos rfl, if_pos (by omega)]
  · have : Nat.beq k d = false := by
      cases hb : Nat.beq k d
      · rfl
      · exact absurd (Nat.eq_of_beq_eq_true hb) e
    rw [this] at hk
    simp only [cond_false] at hk
    simp only [Act.put]
    rw [Array.getElem?_setIfInBounds, if_neg (Ne.symm e)]
    exact h.get k u hk

/-- Every frame of which L is known meets K. -/
def WK (n : Nat) (K : Act → World → Prop) (L : List (Nat × Value)) (w : World) : Prop := ∀ a, Fr n a L → K a w
/-- The operations that are left, likewise. -/
def WL (P : Program) (n : Nat) (ops : Array Oper) (Q : Exit → Act → World → Prop) (rest : List Oper) (L : List (Nat × Value)) (w : World) : Prop :=
  ∀ a, Fr n a L → wpList P ops Q rest a w

/-- What is known in L' is known in L. -/
def subL : List (Nat × Value) → List (Nat × Value) → Prop
  | [], _ => True
  | (k, v) :: t, L => lk L k = some v ∧ subL t L

theorem subL.lk {L' L : List (Nat × Value)} (h : subL L' L) : ∀ k v, lk L' k = some v → Eng.lk L k = some v := by
  induction L' with
  | nil => intro k v hk; simp [Eng.lk] at hk
  | cons p t ih =>
    obtain ⟨j, u⟩ := p
    intro k v hk
    simp only [Eng.lk] at hk
    cases hb : Nat.beq k j with
    | true =>
      rw [hb] at hk
      simp only [cond_true, Option.some.injEq] at hk
      rw [Nat.eq_of_beq_eq_true hb, ← hk]
      exact h.1
    | false =>
      rw [hb] at hk
      exact ih h.2 k v hk

theorem Fr.sub (h : Fr n a L) {L' : List (Nat × Value)} (hs : subL L' L) : Fr n a L' := ⟨h.size, h.defers, fun k v hk => h.get k v (hs.lk k v hk)⟩

theorem wk_drop {K : Act → World → Prop} (L' : List (Nat × Value)) (hs : subL L' L) (h : WK n K L' w) : WK n K L w := fun a ha => h a (ha.sub hs)

/-! ### Code -/
variable {Q : Exit → Act → World → Prop} {K : Act → World → Prop}
theorem wc_seq {x y : Code} (h : WK n (x.wp P (Exit.then (y.wp P Q) Q)) L w) : WK n ((Code.seq x y).wp P Q) L w := fun a ha => wp_seq (h a ha)
/-- A sequence, what stands behind it walked once: Φ says what is known there. -/
theorem wc_seq_cut {x y : Code} (Φ : List (Nat × Value) → World → Prop)
    (h : ∀ K : Act → World → Prop, (∀ L' w', Φ L' w' → WK n K L' w') → WK n (x.wp P (Exit.then K Q)) L w)
    (hy : ∀ L' w', Φ L' w' → WK n (y.wp P Q) L' w') : WK n ((Code.seq x y).wp P Q) L w :=
  fun a ha => wp_seq (h _ hy a ha)
theorem wc_skip (h : WK n (Q .normal) L w) : WK n (Code.skip.wp P Q) L w := fun a ha => wp_skip (h a ha)
theorem wc_ret (h : WK n (Q .ret) L w) : WK n (Code.ret.wp P Q) L w := fun a ha => wp_ret (h a ha)
theorem wc_exit {id : Nat} (h : WK n (Q (.exit id)) L w) : WK n ((Code.exit id).wp P Q) L w := fun a ha => wp_exit (h a ha)
theorem wc_block {id : Nat} {c : Code} (h : WK n (c.wp P (Exit.inBlock id Q)) L w) : WK n ((Code.block id c).wp P Q) L w := fun a ha => wp_block (h a ha)
theorem wc_cond {c : Operand} {x y : Code} {b : Bool} (hc : ev L c = some (.bool b)) (ht : b = true → WK n (x.wp P Q) L w) (hf : b = false → WK n (y.wp P Q) L w) :
    WK n ((Code.cond c x y).wp P Q) L w := fun a ha => wp_cond_split (ha.eval hc) (fun e => ht e a ha) (fun e => hf e a ha)
theorem wc_cond_t {c : Operand} {x y : Code} (hc : ev L c = some (.bool true)) (ht : WK n (x.wp P Q) L w) :
    WK n ((Code.cond c x y).wp P Q) L w := fun a ha => wp_cond_true (ha.eval hc) (ht a ha)
theorem wc_cond_f {c : Operand} {x y : Code} (hc : ev L c = some (.bool false)) (hf : WK n (y.wp P Q) L w) :
    WK n ((Code.cond c x y).wp P Q) L w := fun a ha => wp_cond_false (ha.eval hc) (hf a ha)
theorem wc_region {id : Nat} {l : List Oper} (h : WL P n l.toArray Q l L w) : WK n ((Code.region id l.toArray false).wp P Q) L w := fun a ha => wp_region_lit (h a ha)
theorem wk_norm (h : WK n K L w) : WK n (Exit.then K Q .normal) L w := h
theorem wk_then_ret (h : WK n (Q .ret) L w) : WK n (Exit.then K Q .ret) L w := h
theorem wk_then_exit {id : Nat} (h : WK n (Q (.exit id)) L w) : WK n (Exit.then K Q (.exit id)) L w := h
theorem wk_blk_norm {id : Nat} (h : WK n (Q .normal) L w) : WK n (Exit.inBlock id Q .normal) L w := h
theorem wk_blk_ret {id : Nat} (h : WK n (Q .ret) L w) : WK n (Exit.inBlock id Q .ret) L w := h
theorem wk_blk_exit {id : Nat} (h : WK n (Q .normal) L w) : WK n (Exit.inBlock id Q (.exit id)) L w := fun a ha => by simpa [Exit.inBlock] using h a ha
theorem wk_blk_exit_ne {id id' : Nat} (hne : id' ≠ id) (h : WK n (Q (.exit id')) L w) : WK n (Exit.inBlock id Q (.exit id')) L w := fun a ha => by simpa [Exit.inBlock, hne] using h a ha

/-- A loop: Inv says what is known of frame and world at the head of each round, and a number that each round lowers. -/
theorem wc_loop {c : Code} (Inv : List (Nat × Value) → World → Nat → Prop) (L0 : List (Nat × Value)) (m0 : Nat) (h0 : Inv L0 w m0) (hs : subL L0 L)
    (round : ∀ L' w' m, Inv L' w' m → ∀ K : Act → World → Prop, (∀ L2 w2 m2, Inv L2 w2 m2 → m2 < m → WK n K L2 w2) → WK n (c.wp P (Exit.then K Q)) L' w') :
    WK n ((Code.loop c).wp P Q) L w := by
  intro a ha b k cs
  have key : ∀ m L' w' a', Inv L' w' m → Fr n a' L' →
      ∃ e a₂ w₂, Q e a₂ w₂ ∧ Arrives P (lone (b.at a' (.code c :: .inLoop c :: k)) cs w') b k cs e a₂ w₂ := by
    intro m
    induction m using Nat.strongRecOn with
    | _ m ih =>
      intro L' w' a' hI hF
      obtain ⟨e, a₁, w₁, hq, harr⟩ := round L' w' m hI
        (fun a'' w'' => ∃ L2 m2, Inv L2 w'' m2 ∧ m2 < m ∧ Fr n a'' L2) (fun L2 w2 m2 h2 hlt a'' hF2 => ⟨L2, m2, h2, hlt, hF2⟩) a' hF b (.inLoop c :: k) cs
      cases e with
      | normal =>
        obtain ⟨L2, m2, hI2, hlt, hF2⟩ := hq
        obtain ⟨e₂, a₂, w₂, hq₂, harr₂⟩ := ih m2 hlt L2 w₁ a₁ hI2 hF2
        exact ⟨e₂, a₂, w₂, hq₂, .of_steps (Steps.trans harr (.one step_inLoop)) harr₂⟩
      | exit id => exact ⟨_, a₁, w₁, hq, .pass (x := .inLoop c) rfl (fun _ _ => .inl (by simp)) harr⟩
      | goto l => exact ⟨_, a₁, w₁, hq, .pass (x := .inLoop c) rfl (fun _ _ => .inl (by simp)) harr⟩
      | ret => exact ⟨_, a₁, w₁, hq, .pass (x := .inLoop c) rfl (fun _ _ => .inl (by simp)) harr⟩
      | panic ch => exact ⟨_, a₁, w₁, hq, .pass (x := .inLoop c) rfl (fun _ _ => .inl (by simp)) harr⟩
      | outgrown => exact ⟨_, a₁, w₁, hq, .pass (x := .inLoop c) rfl (fun _ _ => .inl (by simp)) harr⟩
  obtain ⟨e, a', w', hq, harr⟩ := key m0 L0 w a h0 (ha.sub hs)
  exact ⟨e, a', w', hq, .of_steps (.one step_loop) harr⟩

/-! ### Leaving a function -/
variable {fn : Func} {R : Ending → World → Prop}
theorem wk_post0 {e : Exit} (he : e = .ret ∨ e = .normal) (hr : fn.results = #[]) (h : R (.returned (.tuple #[])) w) : WK n (bodyPost P fn R e) L w := by
  intro a ha
  rcases he with rfl | rfl <;> exact ⟨ha.defers, _, by simp [results, hr], h⟩
theorem wk_post1 {e : Exit} (he : e = .ret ∨ e = .normal) {t : Nat} {v : Value} (hr : fn.results = #[.tmp t]) (hv : lk L t = some v) (h : R (.returned v) w) : WK n (bodyPost P fn R e) L w := by
  intro a ha
  have := ha.get t v hv
  rcases he with rfl | rfl <;> exact ⟨ha.defers, v, by simp [results, hr, this], h⟩
theorem wk_post2 {e : Exit} (he : e = .ret ∨ e = .normal) {t u : Nat} {v x : Value} (hr : fn.results = #[.tmp t, .tmp u]) (hv : lk L t = some v) (hx : lk L u = some x) (h : R (.returned (.tuple #[v, x])) w) : WK n (bodyPost P fn R e) L w := by
  intro a ha
  have h1 := ha.get t v hv
  have h2 := ha.get u x hx
  rcases he with rfl | rfl <;> exact ⟨ha.defers, _, by simp [results, hr, h1, h2], h⟩
theorem wk_post3 {e : Exit} (he : e = .ret ∨ e = .normal) {t u s : Nat} {v x y : Value} (hr : fn.results = #[.tmp t, .tmp u, .tmp s]) (hv : lk L t = some v) (hx : lk L u = some x) (hy : lk L s = some y)
    (h : R (.returned (.tuple #[v, x, y])) w) : WK n (bodyPost P fn R e) L w := by
  intro a ha
  have h1 := ha.get t v hv
  have h2 := ha.get u x hx
  have h3 := ha.get s y hy
  rcases he with rfl | rfl <;> exact ⟨ha.defers, _, by simp [results, hr, h1, h2, h3], h⟩

/-! ### Entering a function, calling one -/
/-- The call returns, with a value and a world that meet R. -/
def Ret (P : Program) (f : FuncId) (args : Array Value) (w : World) (R : Value → World → Prop) : Prop :=
  Calls P f args w fun e w' => ∃ v, e = .returned v ∧ R v w'
theorem Ret.mono {f : FuncId} {args : Array Value} {R R' : Value → World → Prop} (h : Ret P f args w R) (hr : ∀ v w', R v w' → R' v w') : Ret P f args w R' :=
  Calls.mono h fun _ _ ⟨v, he, hv⟩ => ⟨v, he, hr _ _ hv⟩

def slots : Nat → List Value → List (Nat × Value)
  | _, [] => []
  | k, v :: t => (k, v) :: slots (k + 1) t
theorem slots_lk : ∀ (l : List Value) (s k : Nat) (v : Value), lk (slots s l) k = some v → ∃ j, k = s + j ∧ l[j]? = some v := by
  intro l
  induction l with
  | nil => intro s k v h; simp [slots, lk] at h
  | cons x t ih =>
    intro s k v h
    simp only [slots, lk] at h
    cases hb : Nat.beq k s with
    | true =>
      rw [hb] at h
      simp only [cond_true, Option.some.injEq] at h
      exact ⟨0, Nat.eq_of_beq_eq_true hb, by simp [h]⟩
    | false =>
      rw [hb] at h
      obtain ⟨j, e, hj⟩ := ih (s + 1) k v h
      exact ⟨j + 1, by omega, by simpa using hj⟩
theorem ret_of_wk {f : FuncId} {c : Code} {args : List Value} {R : Value → World → Prop} (hf : P.funcs[f]? = some fn) (hb : fn.body = some c) (hn : fn.ntmps = n) (hle : args.length ≤ n)
    (h : WK n (c.wp P (bodyPost P fn fun e w' => ∃ v, e = .returned v ∧ R v w')) (slots 0 args) w) : Ret P f args.toArray w R := by
  refine calls_of_wp hf hb (h _ ⟨?_, rfl, fun k v hk => ?_⟩)
  · simp only [Array.size_append, List.size_toArray, Array.size_replicate, hn]
    omega
  · obtain ⟨j, e, hj⟩ := slots_lk args 0 k v hk
    have hlt : j < args.length := (List.getElem?_eq_some_iff.1 hj).1
    have : k = j := by omega
    subst this
    rw [Array.getElem?_append_left (by simpa using hlt)]
    simpa using hj

/-! ### Operations -/
variable {ops : Array Oper} {rest : List Oper} {ty : TypeId} {pos : String} {af : Array Edge} {d : Nat}
theorem wl_nil (h : WK n (Q .normal) L w) : WL P n ops Q [] L w := h
theorem wl_run {op : Op} {v : Value} (hd : d < n)
    (hrun : ∀ a, Fr n a L → (execOp a.eval { dst := some d, op := op, type := ty, pos := pos, after := af, guard := none }).run P w = .ok (.value v) w')
    (h : WL P n ops Q rest ((d, v) :: L) w') : WL P n ops Q ({ dst := some d, op := op, type := ty, pos := pos, after := af, guard := none } :: rest) L w := by
  intro a ha
  refine wpList_plain rfl fun K hK => ?_
  unfold Oper.wp
  rw [hrun a ha]
  exact hK _ _ (h _ (ha.put hd v))
theorem wl_eff {op : Op} (hrun : ∀ a, Fr n a L → (execOp a.eval { dst := none, op := op, type := ty, pos := pos, after := af, guard := none }).run P w = .ok .skip w')
    (h : WL P n ops Q rest L w') : WL P n ops Q ({ dst := none, op := op, type := ty, pos := pos, after := af, guard := none } :: rest) L w := by
  intro a ha
  refine wpList_plain rfl fun K hK => ?_
  unfold Oper.wp
  rw [hrun a ha]
  exact hK _ _ (h _ ha)
/-- A guard that says yes; one that says no. -/
theorem wl_gyes {op : Op} {dst : Option Nat} {j dj : Nat} {want : Bool} (hj : ((ops[j]?).bind (·.dst)) = some dj) (hv : lk L dj = some (.bool want))
    (h : WL P n ops Q ({ dst := dst, op := op, type := ty, pos := pos, after := af, guard := none } :: rest) L w) :
    WL P n ops Q ({ dst := dst, op := op, type := ty, pos := pos, after := af, guard := some (j, want) } :: rest) L w := by
  intro a ha
  have hy : yielded ops a.tmps j = some want := by
    unfold yielded
    rw [hj]
    simp [ha.get dj _ hv]
  have h1 := h a ha
  unfold wpList at h1 ⊢
  rw [if_pos (by simp [Region.wanted])] at h1
  rw [if_pos (by simp [Region.wanted, hy])]
  exact h1
theorem wl_gno {op : Op} {j dj : Nat} {want : Bool} {u : Value} (hd : d < n) (hj : ((ops[j]?).bind (·.dst)) = some dj) (hv : lk L dj = some u) (hu : u = .bool (!want) ∨ u = undef)
    (h : WL P n ops Q rest ((d, undef) :: L) w) : WL P n ops Q ({ dst := some d, op := op, type := ty, pos := pos, after := af, guard := some (j, want) } :: rest) L w := by
  intro a ha
  have hy : yielded ops a.tmps j ≠ some want := by
    unfold yielded
    rw [hj]
    simp only [Option.bind_some, ha.get dj _ hv]
    rcases hu with rfl | rfl
    · cases want <;> simp
    · simp [undef]
  unfold wpList
  rw [if_neg (by simpa [Region.wanted] using hy)]
  exact h _ (ha.put hd undef)
theorem wl_gno0 {op : Op} {j dj : Nat} {want : Bool} {u : Value} (hj : ((ops[j]?).bind (·.dst)) = some dj) (hv : lk L dj = some u) (hu : u = .bool (!want) ∨ u = undef)
    (h : WL P n ops Q rest L w) : WL P n ops Q ({ dst := none, op := op, type := ty, pos := pos, after := af, guard := some (j, want) } :: rest) L w := by
  intro a ha
  have hy : yielded ops a.tmps j ≠ some want := by
    unfold yielded
    rw [hj]
    simp only [Option.bind_some, ha.get dj _ hv]
    rcases hu with rfl | rfl
    · cases want <;> simp
    · simp [undef]
  unfold wpList
  rw [if_neg (by simpa [Region.wanted] using hy)]
  exact h _ ha
end
end Go.Eng
