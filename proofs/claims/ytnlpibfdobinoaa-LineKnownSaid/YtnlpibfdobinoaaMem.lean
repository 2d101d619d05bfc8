/- What stays in memory, what is read there, what is owned: the engine's words for the world. Program-independent. -/
import Derived.Test.YtnlpibfdobinoaaEng
namespace Go.Eng
open Go.RowKit

/-- The world w' is w but for new blocks, and but for the blocks of M. -/
structure Chg (M : Nat → Prop) (w w' : World) : Prop where
  os : w'.os = w.os
  tape : w'.tape = w.tape
  output : w'.output = w.output
  size : w.heap.size ≤ w'.heap.size
  block : ∀ k, k < w.heap.size → ¬ M k → w'.heap[k]? = w.heap[k]?
/-- Only new blocks. -/
abbrev Ext (w w' : World) : Prop := Chg (fun _ => False) w w'

section
variable {M M' : Nat → Prop} {w w' w'' : World}
theorem Chg.refl (M : Nat → Prop) (w : World) : Chg M w w := ⟨rfl, rfl, rfl, Nat.le_refl _, fun _ _ _ => rfl⟩
theorem Chg.weak (h : Chg M w w') (hm : ∀ b, b < w.heap.size → M b → M' b) : Chg M' w w' := ⟨h.os, h.tape, h.output, h.size, fun k hk hn => h.block k hk (fun x => hn (hm k hk x))⟩
theorem Chg.step (h : Chg M w w') (k : Chg M' w' w'') (hm : ∀ b, b < w.heap.size → M' b → M b) : Chg M w w'' :=
  ⟨k.os.trans h.os, k.tape.trans h.tape, k.output.trans h.output, Nat.le_trans h.size k.size,
    fun i hi hn => (k.block i (Nat.lt_of_lt_of_le hi h.size) (fun x => hn (hm i hi x))).trans (h.block i hi hn)⟩
theorem Chg.trans (h : Ext w w') (k : Ext w' w'') : Ext w w'' := h.step k (fun _ _ x => x)
theorem Chg.ext (h : Ext w w') : Chg M w w' := h.weak (fun _ _ x => x.elim)
theorem Ext.drew (w : World) : Ext w w.drew := ⟨rfl, rfl, rfl, Nat.le_refl _, fun _ _ _ => rfl⟩
theorem Ext.alloc (w : World) (o : Obj) : Ext w (w.alloc o) := ⟨rfl, rfl, rfl, by simp, fun k hk _ => Below.heap_alloc w o k hk⟩
theorem Chg.setCell (w : World) (a : Addr) (u : Value) : Chg (fun b => b = a.block) w (w.setCell a u) :=
  ⟨rfl, rfl, rfl, by simp [World.setCell], fun k _ hn => Below.heap_setCell w a u k hn⟩
theorem Chg.cell (h : Chg M w w') {a : Addr} {v : Value} (hc : w.cell? a = some v) (hm : ¬ M a.block) : w'.cell? a = some v :=
  (World.cell?_of_block (h.block a.block (World.block_lt_of_cell? w a hc) hm)).trans hc
theorem Chg.frozen (h : Chg M w w') {a : Addr} (hb : a.block < w.heap.size) (hm : ¬ M a.block) : w'.frozen? a = w.frozen? a :=
  World.frozen?_of_block (h.block a.block hb hm)
theorem Chg.below (h : Ext w w') : Below w.heap.size w w' := ⟨h.os, h.tape, h.output, h.size, fun k hk => h.block k hk (fun x => x)⟩
theorem Ext.of_below (h : Below w.heap.size w w') : Ext w w' := ⟨h.os, h.tape, h.output, h.size, fun k hk _ => h.block k hk⟩
end

theorem block_add (a : Addr) (n : Nat) : (a.add n).block = a.block := by unfold Addr.add; split <;> rfl
theorem add_add' (a : Addr) (i j : Nat) : (a.add i).add j = a.add (i + j) := by
  unfold Addr.add
  by_cases hi : i = 0 <;> by_cases hj : j = 0 <;> simp [hi, hj, Nat.add_assoc]
theorem add_zero' (a : Addr) : a.add 0 = a := by simp [Addr.add]
theorem add_lit' (g o i : Nat) : (⟨g, o, none⟩ : Addr).add i = ⟨g, o + i, none⟩ := by unfold Addr.add; split <;> simp_all

/-- The cells from an address on. -/
def At (w : World) (a : Addr) (cs : List Value) : Prop := ∀ j v, cs[j]? = some v → w.cell? (a.add j) = some v
section
variable {w w' : World} {M : Nat → Prop} {a : Addr} {cs : List Value}
theorem At.keep (h : Chg M w w') (hm : cs ≠ [] → ¬ M a.block) (hc : At w a cs) : At w' a cs := fun j v hv =>
  h.cell (hc j v hv) (by rw [block_add]; exact hm (by rintro rfl; simp at hv))
theorem At.nil (w : World) (a : Addr) : At w a [] := fun j v h => by simp at h
theorem At.lt (hc : At w a cs) (hn : cs ≠ []) : a.block < w.heap.size := by
  obtain ⟨x, t, rfl⟩ := List.exists_cons_of_ne_nil hn
  have := World.block_lt_of_cell? w _ (hc 0 x rfl)
  rwa [block_add] at this
theorem At.get (hc : At w a cs) {j : Nat} {v : Value} (hv : cs[j]? = some v) : w.cell? (a.add j) = some v := hc j v hv
theorem At.head {v : Value} {t : List Value} (hc : At w a (v :: t)) : w.cell? a = some v := by have := hc 0 v rfl; rwa [add_zero'] at this
theorem At.drop (hc : At w a cs) (k : Nat) : At w (a.add k) (cs.drop k) := fun j v hv => by
  rw [add_add']; exact hc _ _ (by rw [← hv, List.getElem?_drop])
theorem At.take (hc : At w a cs) (k : Nat) : At w a (cs.take k) := fun j v hv => hc j v (by
  rw [List.getElem?_take] at hv; split at hv <;> simp_all)
theorem At.append {cs' : List Value} (h1 : At w a cs) (h2 : At w (a.add cs.length) cs') : At w a (cs ++ cs') := fun j v hv => by
  rw [List.getElem?_append] at hv
  split at hv
  · exact h1 j v hv
  · have := h2 _ _ hv
    rw [add_add'] at this
    rwa [show cs.length + (j - cs.length) = j by omega] at this
end

/-- How values of α lie in cells; S: the blocks that may be looked into. -/
structure Rep (α : Type) where
  size : Nat
  rd : (Nat → Prop) → World → List Value → α → Prop
  len : ∀ {S w cs x}, rd S w cs x → cs.length = size
  one : ∀ {S w cs x}, rd S w cs x → ∀ u ∈ cs, u.oneCell' = true
  keep : ∀ {S M w w' cs x}, Chg M w w' → (∀ b, b < w.heap.size → S b → ¬ M b) → rd S w cs x → rd S w' cs x
  mono : ∀ {S S' w cs x}, (∀ b, b < w.heap.size → S b → S' b) → rd S w cs x → rd S' w cs x

/-- A slice that reads as a list. -/
structure GS {α : Type} (r : Rep α) (S : Nat → Prop) (w : World) (A : Option Addr) (c : Nat) (l : List α) : Prop where
  le : l.length ≤ c
  mx : l.length ≤ 140737488355328
  rd : ∀ i (h : i < l.length), ∃ a cs, A = some a ∧ a.block < w.heap.size ∧ S a.block ∧ At w (a.add (i * r.size)) cs ∧ r.rd S w cs l[i]

section
variable {α : Type} {r : Rep α} {S S' M : Nat → Prop} {w w' : World} {A : Option Addr} {c : Nat} {l : List α}
theorem GS.nil (r : Rep α) (S : Nat → Prop) (w : World) (A : Option Addr) (c : Nat) : GS r S w A c [] := ⟨by simp, by simp, fun i h => absurd h (by simp)⟩
theorem GS.keep (ch : Chg M w w') (hm : ∀ b, b < w.heap.size → S b → ¬ M b) (h : GS r S w A c l) : GS r S w' A c l :=
  ⟨h.le, h.mx, fun i hi => by
    obtain ⟨a, cs, rfl, hb, hs, hat, hr⟩ := h.rd i hi
    exact ⟨a, cs, rfl, Nat.lt_of_lt_of_le hb ch.size, hs, hat.keep ch (fun _ => by rw [block_add]; exact hm _ hb hs), r.keep ch hm hr⟩⟩
theorem GS.ext (h : GS r S w A c l) (ch : Ext w w') : GS r S w' A c l := h.keep ch (fun _ _ _ x => x)
theorem GS.mono (h : GS r S w A c l) (hs : ∀ b, b < w.heap.size → S b → S' b) : GS r S' w A c l :=
  ⟨h.le, h.mx, fun i hi => by
    obtain ⟨a, cs, rfl, hb, h1, hat, hr⟩ := h.rd i hi
    exact ⟨a, cs, rfl, hb, hs _ hb h1, hat, r.mono hs hr⟩⟩
theorem GS.any (h : GS r S w A c l) : GS r (fun _ => True) w A c l := h.mono (fun _ _ _ => trivial)
/-- Of what is there now. -/
theorem GS.now (h : GS r S w A c l) : GS r (fun b => b < w.heap.size) w A c l := h.mono (fun _ hb _ => hb)
theorem GS.capped (h : GS r S w A c l) {c' : Nat} (hc : l.length ≤ c') : GS r S w A c' l := ⟨hc, h.mx, h.rd⟩
theorem GS.at_ (h : GS r S w A c l) (i : Nat) (hi : i < l.length) : ∃ a cs, A = some a ∧ a.block < w.heap.size ∧ S a.block ∧ At w (a.add (i * r.size)) cs ∧ r.rd S w cs l[i] := h.rd i hi
theorem GS.drop (h : GS r S w A c l) (k : Nat) (hk : k ≤ l.length) : GS r S w (if c = k then A else A.map (·.add (k * r.size))) (c - k) (l.drop k) := by
  refine ⟨by have := h.le; rw [List.length_drop]; omega, by have := h.mx; rw [List.length_drop]; omega, fun i hi => ?_⟩
  rw [List.length_drop] at hi
  have hle := h.le
  obtain ⟨a, cs, rfl, hb, h1, hat, hr⟩ := h.rd (k + i) (by omega)
  rw [if_neg (by omega)]
  refine ⟨a.add (k * r.size), cs, rfl, by rw [block_add]; exact hb, by rw [block_add]; exact h1, ?_, ?_⟩
  · rw [add_add', ← Nat.add_mul]; exact hat
  · rw [List.getElem_drop]; exact hr
theorem GS.take (h : GS r S w A c l) (k : Nat) : GS r S w A c (l.take k) := by
  refine ⟨by have := h.le; rw [List.length_take]; omega, by have := h.mx; rw [List.length_take]; omega, fun i hi => ?_⟩
  rw [List.length_take] at hi
  obtain ⟨a, cs, rfl, hb, h1, hat, hr⟩ := h.rd i (by omega)
  exact ⟨a, cs, rfl, hb, h1, hat, by rw [List.getElem_take]; exact hr⟩
theorem GS.empty (h : GS r S w A c l) (hA : A = none) : l = [] := by
  cases hl : l with
  | nil => rfl
  | cons x t =>
    obtain ⟨a, _, e, _⟩ := h.rd 0 (by rw [hl]; simp)
    rw [hA] at e
    cases e
theorem flat_len : ∀ (rows : List (List Value)) (k : Nat), (∀ x ∈ rows, x.length = k) → rows.flatten.length = rows.length * k
  | [], k, _ => by simp
  | x :: t, k, h => by
    rw [List.flatten_cons, List.length_append, flat_len t k (fun y hy => h y (by simp [hy])), h x (by simp), List.length_cons, Nat.add_mul, Nat.one_mul, Nat.add_comm]
theorem GS.cells (h : GS r S w A c l) : ∃ rows : List (List Value), rows.length = l.length ∧ (∀ x ∈ rows, x.length = r.size) ∧ (∀ x ∈ rows, ∀ u ∈ x, u.oneCell' = true) ∧
    (∀ i (h1 : i < l.length) (h2 : i < rows.length), r.rd S w rows[i] l[i]) ∧ (∀ a, A = some a → At w a rows.flatten) ∧ (A = none → l = []) := by
  have key : ∀ k, k ≤ l.length → ∃ rows : List (List Value), rows.length = k ∧ (∀ x ∈ rows, x.length = r.size) ∧ (∀ x ∈ rows, ∀ u ∈ x, u.oneCell' = true) ∧
      (∀ i (h1 : i < l.length) (h2 : i < rows.length), r.rd S w rows[i] l[i]) ∧ (∀ a, A = some a → At w a rows.flatten) := by
    intro k
    induction k with
    | zero => exact fun _ => ⟨[], rfl, by simp, by simp, by simp, fun a _ => At.nil w a⟩
    | succ k ih =>
      intro hk
      obtain ⟨rows, hl, hs, ho, hr, hat⟩ := ih (by omega)
      obtain ⟨a, cs, rfl, hb, h1, hc, hrd⟩ := h.rd k (by omega)
      have hfl : rows.flatten.length = k * r.size := by rw [flat_len _ _ hs, hl]
      refine ⟨rows ++ [cs], by simp [hl], ?_, ?_, ?_, ?_⟩
      · intro x hx
        rcases List.mem_append.1 hx with hx | hx
        · exact hs x hx
        · rw [List.mem_singleton.1 hx]; exact r.len hrd
      · intro x hx
        rcases List.mem_append.1 hx with hx | hx
        · exact ho x hx
        · rw [List.mem_singleton.1 hx]; exact r.one hrd
      · intro i h1 h2
        rcases Nat.lt_or_ge i rows.length with hlt | hge
        · rw [List.getElem_append_left hlt]; exact hr i h1 hlt
        · have : i = k := by simp at h2; omega
          subst this
          rw [List.getElem_append_right (by omega)]
          simpa [hl] using hrd
      · intro a' ha'
        have e : a = a' := Option.some.inj ha'
        subst e
        rw [List.flatten_append]
        refine (hat a rfl).append ?_
        rw [hfl]
        simpa using hc
  obtain ⟨rows, hl, hs, ho, hr, hat⟩ := key l.length (Nat.le_refl _)
  refine ⟨rows, hl, hs, ho, hr, hat, fun hA => ?_⟩
  cases hl2 : l with
  | nil => rfl
  | cons x t =>
    obtain ⟨a, _, e, _⟩ := h.rd 0 (by rw [hl2]; simp)
    rw [hA] at e
    cases e
end

/-- One cell each. -/
def oneR {α : Type} (enc : α → Value) (h : ∀ x, (enc x).oneCell' = true) : Rep α where
  size := 1
  rd := fun _ _ cs x => cs = [enc x]
  len := by rintro _ _ _ _ rfl; rfl
  one := by rintro _ _ _ x rfl u hu; rw [List.mem_singleton.1 hu]; exact h x
  keep := fun _ _ h => h
  mono := fun _ h => h
/-- A byte's value. -/
abbrev bv (b : UInt8) : Value := .int .u8 (b.toNat : Int)
def byteR : Rep UInt8 := oneR (fun b => bv b) (fun _ => rfl)
def intR : Rep Int := oneR (fun n => .int .i64 n) (fun _ => rfl)
def boolR : Rep Bool := oneR (fun b => .bool b) (fun _ => rfl)
/-- A slice as an element. -/
def sliceR {α : Type} (r : Rep α) : Rep (List α) where
  size := 1
  rd := fun S w cs l => ∃ A c, cs = [.slice A l.length c] ∧ GS r S w A c l
  len := by rintro _ _ _ _ ⟨_, _, rfl, _⟩; rfl
  one := by rintro _ _ _ _ ⟨_, _, rfl, _⟩ u hu; rw [List.mem_singleton.1 hu]; rfl
  keep := by rintro _ _ _ _ _ _ ch hm ⟨A, c, rfl, h⟩; exact ⟨A, c, rfl, h.keep ch hm⟩
  mono := by rintro _ _ _ _ _ hs ⟨A, c, rfl, h⟩; exact ⟨A, c, rfl, h.mono hs⟩

theorem sliceR_mk {α : Type} {r : Rep α} {S : Nat → Prop} {w : World} {A : Option Addr} {c : Nat} {l : List α} (h : GS r S w A c l) : (sliceR r).rd S w [.slice A l.length c] l := ⟨A, c, rfl, h⟩
/-- Bytes that are read. -/
abbrev BS (S : Nat → Prop) (w : World) (A : Option Addr) (c : Nat) (l : List UInt8) : Prop := GS byteR S w A c l

/-- A row of the call's own: n elements in use, of size cells each, in a block from lo on. -/
structure OwnRow (e size lo : Nat) (w : World) (A : Option Addr) (n c : Nat) (xs : List Value) : Prop where
  len : xs.length = n * size
  le : n ≤ c
  mx : n ≤ 140737488355328
  row : ((c = 0 ∧ n = 0) ∨ ∃ g cur, A = some ⟨g, 0, none⟩ ∧ lo ≤ g ∧ w.heap[g]? = some (.cells cur e (0, 0)) ∧ cur.size = c * size ∧ cur.toList.take (n * size) = xs)
/-- The block of an address. -/
def blk (A : Option Addr) (b : Nat) : Prop := ∃ a, A = some a ∧ a.block = b

section
variable {e size lo lo' n c : Nat} {w w' : World} {M : Nat → Prop} {A : Option Addr} {xs : List Value}
theorem OwnRow.nil (e size lo : Nat) (w : World) (A : Option Addr) : OwnRow e size lo w A 0 0 [] := ⟨by simp, Nat.le_refl _, by omega, .inl ⟨rfl, rfl⟩⟩
theorem OwnRow.keep (ch : Chg M w w') (hm : ∀ b, b < w.heap.size → lo ≤ b → blk A b → ¬ M b) (h : OwnRow e size lo w A n c xs) : OwnRow e size lo w' A n c xs := by
  refine ⟨h.len, h.le, h.mx, ?_⟩
  rcases h.row with h0 | ⟨g, cur, rfl, hb, hg, r⟩
  · exact .inl h0
  · have hlt : g < w.heap.size := (Array.getElem?_eq_some_iff.1 hg).1
    exact .inr ⟨g, cur, rfl, hb, (ch.block g hlt (hm g hlt hb ⟨_, rfl, rfl⟩)).trans hg, r⟩
theorem OwnRow.ext (h : OwnRow e size lo w A n c xs) (ch : Ext w w') : OwnRow e size lo w' A n c xs := h.keep ch (fun _ _ _ _ x => x)
theorem OwnRow.lower (h : OwnRow e size lo w A n c xs) (hl : lo' ≤ lo) : OwnRow e size lo' w A n c xs := by
  refine ⟨h.len, h.le, h.mx, ?_⟩
  rcases h.row with h0 | ⟨g, cur, rfl, hb, r⟩
  · exact .inl h0
  · exact .inr ⟨g, cur, rfl, by omega, r⟩
theorem OwnRow.at_ (h : OwnRow e size lo w A n c xs) {a : Addr} (ha : A = some a) : At w a xs := by
  intro j v hv
  rcases h.row with ⟨_, h0⟩ | ⟨g, cur, hA, hb, hg, _, ht⟩
  · have := h.len
    subst h0
    have : xs = [] := List.eq_nil_of_length_eq_zero (by simpa using this)
    subst this
    simp at hv
  · have ea : a = ⟨g, 0, none⟩ := by rw [hA] at ha; exact (Option.some.inj ha).symm
    subst ea
    rw [add_lit', cell_of_row w g _ cur e (0, 0) hg]
    rw [← ht, List.getElem?_take] at hv
    split at hv
    · simpa using hv
    · cases hv
/-- Whoever is owned and lies in w was made below w's end. -/
theorem OwnRow.lt (h : OwnRow e size lo w A n c xs) (hc : c ≠ 0) : ∀ b, blk A b → lo ≤ b ∧ b < w.heap.size := by
  rintro b ⟨a, ha, rfl⟩
  rcases h.row with ⟨h0, _⟩ | ⟨g, cur, hA, hb, hg, _⟩
  · exact absurd h0 hc
  · have ea : a = ⟨g, 0, none⟩ := by rw [hA] at ha; exact (Option.some.inj ha).symm
    subst ea
    exact ⟨hb, (Array.getElem?_eq_some_iff.1 hg).1⟩
end

theorem OwnRow.at0 {e size lo n c g o : Nat} {w : World} {xs : List Value} (h : OwnRow e size lo w (some ⟨g, o, none⟩) n c xs) : At w ⟨g, o, none⟩ xs := h.at_ rfl
theorem OwnRow.lt0 {e size lo n c g o : Nat} {w : World} {xs : List Value} (h : OwnRow e size lo w (some ⟨g, o, none⟩) n c xs) (hc : c ≠ 0 := by decide) : g < w.heap.size := (h.lt hc g ⟨_, rfl, rfl⟩).2
/-- A list out of rows of cells that lie one behind the other. -/
theorem GS.of_rows {α : Type} {r : Rep α} {S : Nat → Prop} {w : World} {a : Addr} {c : Nat} {l : List α} (rows : List (List Value)) (hat : At w a rows.flatten) (hb : a.block < w.heap.size) (hS : S a.block) (hc : l.length ≤ c)
    (hmx : l.length ≤ 140737488355328) (hr : ∀ i (h : i < l.length), ∃ cs, rows[i]? = some cs ∧ r.rd S w cs l[i]) : GS r S w (some a) c l := by
  refine ⟨hc, hmx, fun i hi => ?_⟩
  obtain ⟨cs, hcs, hrd⟩ := hr i hi
  refine ⟨a, cs, rfl, hb, hS, ?_, hrd⟩
  have hlen : ∀ k, k ≤ i → (rows.take k).flatten.length = k * r.size := by
    intro k hk
    have hrk : k ≤ rows.length := by have := (List.getElem?_eq_some_iff.1 hcs).1; omega
    rw [flat_len _ r.size (fun x hx => by
      obtain ⟨j, hj, rfl⟩ := List.mem_iff_getElem.1 hx
      have hj' : j < l.length := by rw [List.length_take] at hj; omega
      obtain ⟨cs', h1, h2⟩ := hr j hj'
      rw [List.getElem_take]
      rw [(List.getElem?_eq_some_iff.1 h1).2]
      exact r.len h2)]
    rw [List.length_take, Nat.min_eq_left hrk]
  have hlt := (List.getElem?_eq_some_iff.1 hcs).1
  have e : rows.flatten = (rows.take i).flatten ++ (cs ++ (rows.drop (i + 1)).flatten) := by
    conv => lhs; rw [← List.take_append_drop i rows]
    rw [List.flatten_append, List.drop_eq_getElem_cons hlt, (List.getElem?_eq_some_iff.1 hcs).2, List.flatten_cons]
  rw [e] at hat
  intro j v hv
  rw [add_add']
  refine hat _ v ?_
  rw [List.getElem?_append_right (by rw [hlen i (Nat.le_refl _)]; omega), hlen i (Nat.le_refl _)]
  rw [show i * r.size + j - i * r.size = j by omega, List.getElem?_append_left (List.getElem?_eq_some_iff.1 hv).1]
  exact hv
theorem GS.two {α : Type} {r : Rep α} {S : Nat → Prop} {w : World} {g o c : Nat} {x y : α} {u v : Value} (hat : At w ⟨g, o, none⟩ [u, v]) (hb : g < w.heap.size) (hc : 2 ≤ c) (hS : S g) (hx : r.rd S w [u] x) (hy : r.rd S w [v] y) :
    GS r S w (some ⟨g, o, none⟩) c [x, y] := by
  refine GS.of_rows [[u], [v]] hat hb hS hc (by simp) (fun i hi => ?_)
  match i, hi with
  | 0, _ => exact ⟨_, rfl, hx⟩
  | 1, _ => exact ⟨_, rfl, hy⟩
theorem GS.one {α : Type} {r : Rep α} {S : Nat → Prop} {w : World} {g o c : Nat} {x : α} {u : List Value} (hat : At w ⟨g, o, none⟩ u) (hb : g < w.heap.size) (hc : 1 ≤ c) (hS : S g) (hx : r.rd S w u x) :
    GS r S w (some ⟨g, o, none⟩) c [x] := by
  refine GS.of_rows [u] (by simpa using hat) hb hS hc (by simp) (fun i hi => ?_)
  match i, hi with
  | 0, _ => exact ⟨_, rfl, hx⟩
/-- Bytes of the call's own. -/
abbrev OwnB (e lo : Nat) (w : World) (A : Option Addr) (c : Nat) (l : List UInt8) : Prop := OwnRow e 1 lo w A l.length c (l.map bv)
theorem OwnRow.gs1 {α : Type} {enc : α → Value} {he : ∀ x, (enc x).oneCell' = true} {e lo : Nat} {w : World} {A : Option Addr} {c : Nat} {l : List α}
    (h : OwnRow e 1 lo w A l.length c (l.map enc)) : GS (oneR enc he) (fun b => lo ≤ b) w A c l := by
  refine ⟨h.le, h.mx, fun i hi => ?_⟩
  rcases h.row with ⟨_, h0⟩ | ⟨g, cur, hA, hb, hg, _⟩
  · omega
  · have hat := h.at_ hA
    refine ⟨⟨g, 0, none⟩, [enc l[i]], hA, (Array.getElem?_eq_some_iff.1 hg).1, hb, ?_, rfl⟩
    intro j v hv
    have hj : j = 0 := by
      have := (List.getElem?_eq_some_iff.1 hv).1
      simpa using this
    subst hj
    simp only [List.getElem?_cons_zero, Option.some.injEq] at hv
    subst hv
    rw [add_add']
    exact hat _ _ (by simp [oneR, hi])
theorem OwnB.bs {e lo : Nat} {w : World} {A : Option Addr} {c : Nat} {l : List UInt8} (h : OwnB e lo w A c l) : BS (fun b => lo ≤ b) w A c l := OwnRow.gs1 h
theorem OwnRow.bs {e lo : Nat} {w : World} {A : Option Addr} {c : Nat} {l : List UInt8} (h : OwnRow e 1 lo w A l.length c (l.map bv)) : BS (fun b => lo ≤ b) w A c l := OwnRow.gs1 h

/-! ### append -/
/-- A slice type, as the model's table has it. -/
def slB (P : Program) (t e size bytes : Nat) : Bool :=
  match P.underlying t, P.info? e with
  | some (.slice e'), some i => e' == e && i.size == size && i.bytes == bytes && decide (0 < size) && decide (0 < bytes) && (match i.zero with | some z => z.cells.size == size | none => false)
  | _, _ => false
theorem slB_out {P : Program} {t e size bytes : Nat} (h : slB P t e size bytes = true) :
    ∃ i z, P.underlying t = some (.slice e) ∧ P.info? e = some i ∧ i.zero = some z ∧ i.size = size ∧ i.bytes = bytes ∧ z.cells.size = size ∧ 0 < size ∧ 0 < bytes := by
  unfold slB at h
  split at h
  · rename_i e' i h1 h2
    simp only [Bool.and_eq_true, beq_iff_eq, decide_eq_true_eq] at h
    obtain ⟨⟨⟨⟨⟨rfl, h3⟩, h4⟩, h6⟩, h7⟩, h5⟩ := h
    split at h5
    · rename_i z hz
      exact ⟨i, z, h1, h2, hz, h3, h4, by simpa using h5, h6, h7⟩
    · cases h5
  · cases h

theorem run_append {P : Program} {t e size bytes lo n m c c2 ty : Nat} {w : World} {A B : Option Addr} {xs news : List Value} (hT : slB P t e size bytes = true)
    (hown : OwnRow e size lo w A n c xs) (hl : news.length = m * size) (hat : ∀ b, B = some b → At w b news) (hB : B = none → m = 0) (h1 : ∀ u ∈ news, u.oneCell' = true)
    (hb : (n + m) * bytes ≤ 140737488355328) (hlo : lo ≤ w.heap.size) :
    ∃ A' c' w', (Builtin.append_ #[t, t] ty #[.slice A n c, .slice B m c2]).run P w = .ok (.slice A' (n + m) c') w' ∧ OwnRow e size lo w' A' (n + m) c' (xs ++ news) ∧
      Chg (fun b => c ≠ 0 ∧ lo ≤ b ∧ blk A b) w w' ∧ (A' = A ∧ c' = c ∨ A' = some ⟨w.heap.size, 0, none⟩) := by
  obtain ⟨i, z, ht, hi, hz, rfl, rfl, hzs, hsz, hbz⟩ := slB_out hT
  have hmx : n + m ≤ 140737488355328 := Nat.le_trans (Nat.le_mul_of_pos_right _ hbz) hb
  by_cases hm : m = 0
  · subst hm
    have hn : news = [] := List.eq_nil_of_length_eq_zero (by simpa using hl)
    subst hn
    refine ⟨A, c, w, ?_, by simpa using hown, Chg.refl _ _, .inl ⟨rfl, rfl⟩⟩
    have hnc := hown.le
    rcases A with _ | a <;> rcases B with _ | b <;>
      simp [Builtin.append_, run_underlying ht, sizeOf, typeInfo, hi, Builtin.lenOf, hnc, Builtin.firstCells, loadCells, loadCellsFrom, storeCells]
  · rcases B with _ | b
    · exact absurd (hB rfl) hm
    · have hat' : ∀ j v, news[j]? = some v → w.cell? (b.add j) = some v := hat b rfl
      have hlen : (xs ++ news).length = (n + m) * i.size := by rw [List.length_append, hown.len, hl, Nat.add_mul]
      have grown : ∀ (old : Nat), old < n + m →
          OwnRow e i.size lo (w.drew.alloc (.cells (xs.toArray ++ news.toArray ++ Builtin.zeroCells z.cells (grownCap w (n + m) old e - (n + m))) e))
            (some ⟨w.heap.size, 0, none⟩) (n + m) (grownCap w (n + m) old e) (xs ++ news) ∧
          Chg (fun b => c ≠ 0 ∧ lo ≤ b ∧ blk A b) w (w.drew.alloc (.cells (xs.toArray ++ news.toArray ++ Builtin.zeroCells z.cells (grownCap w (n + m) old e - (n + m))) e)) := by
        intro old ho
        have hge := grownCap_ge w (n + m) old e
        refine ⟨⟨hlen, hge, hmx, .inr ⟨w.heap.size, _, rfl, hlo, heap_alloc_new w.drew _, ?_, ?_⟩⟩, ((Ext.drew w).trans (Ext.alloc _ _)).ext⟩
        · simp only [Array.size_append, List.size_toArray, size_zeroCells, hzs, hown.len, hl, ← Nat.add_mul]
          congr 1
          omega
        · simp only [Array.toList_append, List.append_assoc]
          rw [← List.append_assoc, ← hlen]
          exact List.take_left
      have h63 : ((n + m : Nat) : Int) ≤ 9223372036854775807 := by omega
      rcases hown.row with ⟨rfl, rfl⟩ | ⟨g, cur, rfl, hbg, hg, hcs, htake⟩
      · have hx : xs = [] := List.eq_nil_of_length_eq_zero (by simpa using hown.len)
        subst hx
        have hgr := grown 0 (by omega)
        rcases A with _ | a
        · have hr := run_append_nil (P := P) w t ty e i z ht hi hz b m c2 news hl hat' (by omega) (by omega) (by have := hb; simp only [Nat.zero_add] at this; omega)
          simp only [Nat.zero_add, List.nil_append, Array.empty_append] at hgr ⊢
          exact ⟨_, _, _, hr, hgr.1, hgr.2, .inr rfl⟩
        · have hr := run_append_grow (P := P) w t ty e i z ht hi hz a 0 0 [] (by simp) (by simp) b m c2 news hl hat' (by omega) h63 (growslice_fits (by omega) hb)
          exact ⟨_, _, _, hr, hgr.1, hgr.2, .inr rfl⟩
      · by_cases hroom : n + m ≤ c
        · have hfit : n * i.size + news.length ≤ cur.size := by rw [hl, hcs, ← Nat.add_mul]; exact Nat.mul_le_mul_right _ hroom
          have hr := run_append_room (P := P) w t ty e i ht hi g n c cur hg b m c2 news hl hat' h1 hroom hfit
          refine ⟨_, _, _, hr, ⟨hlen, hroom, hmx, .inr ⟨g, _, rfl, hbg, setRow_heap w g cur _ e _ hg, ?_, ?_⟩⟩,
            ⟨rfl, rfl, rfl, by simp, fun k _ hk => setRow_other w g k _ (fun e => hk ⟨by omega, by omega, _, rfl, e.symm⟩)⟩, .inl ⟨rfl, rfl⟩⟩
          · simp only [List.size_toArray, List.length_append, List.length_take, List.length_drop, Array.length_toList]
            omega
          · rw [htake, ← hlen]
            exact List.take_left
        · have hgr := grown c (by omega)
          have hr := run_append_grow (P := P) w t ty e i z ht hi hz ⟨g, 0, none⟩ n c xs hown.len (hown.at_ rfl) b m c2 news hl hat' (by omega) h63 (growslice_fits (by omega) hb)
          exact ⟨_, _, _, hr, hgr.1, hgr.2, .inr rfl⟩
end Go.Eng

namespace Go.Eng
/-- A row of bytes that may be written: in blocks from lo on. -/
def Wr (lo : Nat) (w : World) (A : Option Addr) (n : Nat) : Prop :=
  ∀ i, i < n → ∃ a, A = some a ∧ lo ≤ a.block ∧ (∃ b : UInt8, w.cell? (a.add i) = some (bv b)) ∧ w.frozen? (a.add i) = false
theorem OwnRow.wr {e lo c : Nat} {w : World} {A : Option Addr} {l : List UInt8} (h : OwnRow e 1 lo w A l.length c (l.map bv)) : Wr lo w A l.length := by
  intro i hi
  rcases h.row with ⟨_, h0⟩ | ⟨g, cur, hA, hb, hg, _⟩
  · omega
  · refine ⟨⟨g, 0, none⟩, hA, hb, ⟨l[i], h.at_ hA _ _ (by simp [hi])⟩, ?_⟩
    rw [add_lit']
    simp [World.frozen?, hg]
/-- Behind a spoiling: blocks below lo are as they were; what may be written may be written. -/
structure Spl (lo : Nat) (w w' : World) : Prop where
  chg : Chg (fun b => lo ≤ b) w w'
  wr : ∀ A n, Wr lo w A n → Wr lo w' A n
theorem Spl.refl (lo : Nat) (w : World) : Spl lo w w := ⟨Chg.refl _ _, fun _ _ h => h⟩
theorem Spl.setCell {lo : Nat} {w0 w : World} (h : Spl lo w0 w) {p : Addr} {b : UInt8} {u : Value} (hlo : lo ≤ p.block) (hc : w.cell? p = some u) : Spl lo w0 (w.setCell p (bv b)) := by
  refine ⟨h.chg.step (Chg.setCell w p (bv b)) (fun k _ e => by rw [e]; exact hlo), fun A n hw i hi => ?_⟩
  obtain ⟨a, hA, hla, ⟨x, hx⟩, hf⟩ := h.wr A n hw i hi
  refine ⟨a, hA, hla, ?_, ?_⟩
  · by_cases e : a.add i = p
    · rw [e]
      exact ⟨b, World.cell?_setCell_same w p (bv b) hc⟩
    · exact ⟨x, (World.cell?_setCell_other w p (a.add i) (bv b) (fun x => e x.symm)).trans hx⟩
  · rw [World.frozen?_setCell]; exact hf
end Go.Eng
