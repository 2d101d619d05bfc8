/- Memory of the call's own, thing by thing, apart from each other and from what is never written. Program-independent. -/
import Derived.Test.YtnlpibfdobinoaaMap
import Derived.Test.YtnlpibfdobinoaaRow
namespace Go.Eng
open Go.RowKit Go.Maps

/-- A thing in memory, and the blocks it takes. -/
structure It where
  R : World → (Nat → Prop) → Prop
  st : ∀ {w w' : World} {K : Nat → Prop}, (∀ b, K b → w'.heap[b]? = w.heap[b]?) → R w K → R w' K
  lt : ∀ {w : World} {K : Nat → Prop}, R w K → ∀ b, K b → b < w.heap.size

/-- Since w0 only blocks of M0 were changed, and new ones made; the blocks of Fz are never written; the things H lie in the call's own blocks, apart from each other. -/
structure HP (w0 : World) (M0 Fz : Nat → Prop) (w : World) (H : List It) : Prop where
  chg : Chg M0 w0 w
  fz : ∀ b, Fz b → b < w.heap.size
  ex : ∃ Ks : Nat → Nat → Prop, (∀ i (x : It), H[i]? = some x → x.R w (Ks i)) ∧ (∀ i, i < H.length → ∀ b, Ks i b → (w0.heap.size ≤ b ∨ M0 b) ∧ ¬ Fz b) ∧
    (∀ i j, i < H.length → j < H.length → i ≠ j → ∀ b, Ks i b → ¬ Ks j b)

section
variable {w0 w w' : World} {M0 Fz : Nat → Prop} {H : List It}
theorem Chg.old {M K : Nat → Prop} (h : Chg K w w') (hk : ∀ b, b < w.heap.size → K b → w0.heap.size ≤ b ∨ M0 b) (h0 : Chg M0 w0 w) : Chg M0 w0 w' :=
  h0.step h (fun b hb hK => by
    rcases hk b (Nat.lt_of_lt_of_le hb h0.size) hK with h1 | h1
    · exact absurd hb (Nat.not_lt.2 h1)
    · exact h1)
theorem HP.start (w : World) (M0 : Nat → Prop) : HP w M0 (fun b => b < w.heap.size ∧ ¬ M0 b) w [] :=
  ⟨Chg.refl _ _, fun _ h => h.1, fun _ _ => False, by simp, by simp, by simp⟩
/-- At a function's start. -/
theorem HP.begin_ (w : World) : HP w (fun _ => False) (fun b => b < w.heap.size) w [] :=
  ⟨Chg.refl _ _, fun _ h => h, fun _ _ => False, by simp, by simp, by simp⟩
/-- At a function's start, what is read lying in S. -/
theorem HP.beginS (w : World) (S : Nat → Prop) : HP w (fun _ => False) (fun b => S b ∧ b < w.heap.size) w [] :=
  ⟨Chg.refl _ _, fun _ h => h.2, fun _ _ => False, by simp, by simp, by simp⟩
theorem HP.focus (h : HP w0 M0 Fz w H) {i : Nat} {x : It} (hi : H[i]? = some x) : ∃ K, x.R w K ∧ (∀ b, K b → ¬ Fz b) ∧
    (∀ (w' : World) (x' : It) (K' : Nat → Prop), Chg K w w' → x'.R w' K' → (∀ b, K' b → K b ∨ w.heap.size ≤ b) → HP w0 M0 Fz w' (H.set i x') ∧ Chg (fun b => ¬ Fz b) w w') := by
  obtain ⟨Ks, h1, h2, h3⟩ := h.ex
  have hil : i < H.length := (List.getElem?_eq_some_iff.1 hi).1
  refine ⟨Ks i, h1 i x hi, fun b hb => (h2 i hil b hb).2, fun w' x' K' hch hx' hK' => ⟨⟨Chg.old (M := M0) hch (fun b _ hb => (h2 i hil b hb).1) h.chg, fun b hb => Nat.lt_of_lt_of_le (h.fz b hb) hch.size, ?_⟩, hch.weak (fun b _ hb => (h2 i hil b hb).2)⟩⟩
  have hnew : ∀ b, K' b → (w0.heap.size ≤ b ∨ M0 b) ∧ ¬ Fz b := by
    intro b hb
    rcases hK' b hb with hb | hb
    · exact h2 i hil b hb
    · exact ⟨.inl (Nat.le_trans h.chg.size hb), fun hf => Nat.lt_irrefl _ (Nat.lt_of_lt_of_le (h.fz b hf) hb)⟩
  have hdis : ∀ j, j < H.length → j ≠ i → ∀ b, K' b → ¬ Ks j b := by
    intro j hj hne b hb hk
    rcases hK' b hb with hb | hb
    · exact h3 i j hil hj (Ne.symm hne) b hb hk
    · have := (H[j]).lt (h1 j H[j] (List.getElem?_eq_getElem hj)) b hk
      omega
  refine ⟨fun j => if j = i then K' else Ks j, fun j y hj => ?_, fun j hj b hb => ?_, fun j k hj hk hne b hb hb2 => ?_⟩
  · by_cases e : j = i
    · subst e
      rw [List.getElem?_set_self hil] at hj
      simp only [if_true]
      rw [← Option.some.inj hj]
      exact hx'
    · rw [List.getElem?_set_ne (Ne.symm e)] at hj
      simp only [if_neg e]
      have hjl : j < H.length := (List.getElem?_eq_some_iff.1 hj).1
      refine y.st (fun b hb => ?_) (h1 j y hj)
      exact hch.block b (y.lt (h1 j y hj) b hb) (fun hk => h3 j i hjl hil e b hb hk)
  · rw [List.length_set] at hj
    by_cases e : j = i
    · simp only [if_pos e] at hb; exact hnew b hb
    · simp only [if_neg e] at hb; exact h2 j hj b hb
  · rw [List.length_set] at hj hk
    by_cases e : j = i <;> by_cases e' : k = i
    · exact hne (e.trans e'.symm)
    · simp only [if_pos e] at hb; simp only [if_neg e'] at hb2; exact hdis k hk e' b hb hb2
    · simp only [if_neg e] at hb; simp only [if_pos e'] at hb2; exact hdis j hj e b hb2 hb
    · simp only [if_neg e] at hb; simp only [if_neg e'] at hb2; exact h3 j k hj hk hne b hb hb2
theorem HP.ext (h : HP w0 M0 Fz w H) (hch : Ext w w') : HP w0 M0 Fz w' H := by
  obtain ⟨Ks, h1, h2, h3⟩ := h.ex
  refine ⟨h.chg.step hch (fun _ _ x => x.elim), fun b hb => Nat.lt_of_lt_of_le (h.fz b hb) hch.size, Ks, fun i x hi => x.st (fun b hb => hch.block b (x.lt (h1 i x hi) b hb) (fun x => x)) (h1 i x hi), h2, h3⟩
/-- What was made since w is never written from now on. -/
theorem HP.frz (h : HP w0 M0 Fz w H) (hch : Ext w w') : ∃ Fz', HP w0 M0 Fz' w' H ∧ (∀ b, Fz b → Fz' b) ∧ (∀ b, w.heap.size ≤ b → b < w'.heap.size → Fz' b) ∧ ∀ b, Fz' b → Fz b ∨ w.heap.size ≤ b := by
  have h' := h.ext hch
  obtain ⟨Ks, h1, h2, h3⟩ := h.ex
  refine ⟨fun b => Fz b ∨ w.heap.size ≤ b ∧ b < w'.heap.size, ⟨h'.chg, fun b hb => hb.elim (h'.fz b) (fun x => x.2), Ks, fun i x hi => x.st (fun b hb => hch.block b (x.lt (h1 i x hi) b hb) (fun x => x)) (h1 i x hi), fun i hi b hb => ⟨(h2 i hi b hb).1, ?_⟩, h3⟩, fun b hb => .inl hb, fun b h1 h2 => .inr ⟨h1, h2⟩, fun b hb => hb.elim .inl (fun x => .inr x.1)⟩
  rintro (hf | ⟨hf, _⟩)
  · exact (h2 i hi b hb).2 hf
  · have := (H[i]).lt (h1 i H[i] (List.getElem?_eq_getElem hi)) b hb
    omega
theorem HP.add (h : HP w0 M0 Fz w H) {x : It} {K : Nat → Prop} (hch : Ext w w') (hx : x.R w' K) (hK : ∀ b, K b → w.heap.size ≤ b) : HP w0 M0 Fz w' (x :: H) := by
  have h' := h.ext hch
  obtain ⟨Ks, h1, h2, h3⟩ := h.ex
  have hlt : ∀ i, i < H.length → ∀ b, Ks i b → b < w.heap.size := fun i hi b hb => (H[i]).lt (h1 i H[i] (List.getElem?_eq_getElem hi)) b hb
  refine ⟨h'.chg, h'.fz, fun i => match i with | 0 => K | i + 1 => Ks i, ?_, ?_, ?_⟩
  · intro i y hi
    cases i with
    | zero => simp only [List.getElem?_cons_zero, Option.some.injEq] at hi; subst hi; exact hx
    | succ i =>
      simp only [List.getElem?_cons_succ] at hi
      exact y.st (fun b hb => hch.block b (y.lt (h1 i y hi) b hb) (fun x => x)) (h1 i y hi)
  · intro i hi b hb
    cases i with
    | zero => exact ⟨.inl (Nat.le_trans h.chg.size (hK b hb)), fun hf => Nat.lt_irrefl _ (Nat.lt_of_lt_of_le (h.fz b hf) (hK b hb))⟩
    | succ i => exact h2 i (by simpa using hi) b hb
  · intro i j hi hj hne b hb hb2
    cases i with
    | zero =>
      cases j with
      | zero => exact hne rfl
      | succ j => exact Nat.lt_irrefl _ (Nat.lt_of_lt_of_le (hlt j (by simpa using hj) b hb2) (hK b hb))
    | succ i =>
      cases j with
      | zero => exact Nat.lt_irrefl _ (Nat.lt_of_lt_of_le (hlt i (by simpa using hi) b hb) (hK b hb2))
      | succ j => exact h3 i j (by simpa using hi) (by simpa using hj) (by omega) b hb hb2
theorem HP.tail {x : It} (h : HP w0 M0 Fz w (x :: H)) : HP w0 M0 Fz w H := by
  obtain ⟨Ks, h1, h2, h3⟩ := h.ex
  exact ⟨h.chg, h.fz, fun i => Ks (i + 1), fun i y hi => h1 (i + 1) y (by simpa using hi), fun i hi => h2 (i + 1) (by simpa using hi), fun i j hi hj hne => h3 (i + 1) (j + 1) (by simpa using hi) (by simpa using hj) (by omega)⟩
/-- The things told in another order, or fewer of them. -/
theorem HP.pick {H' : List It} (h : HP w0 M0 Fz w H) (js : List Nat) (hn : js.Nodup) (hl : H'.length = js.length) (hs : ∀ (k j : Nat), js[k]? = some j → H'[k]? = H[j]? ∧ j < H.length) : HP w0 M0 Fz w H' := by
  obtain ⟨Ks, h1, h2, h3⟩ := h.ex
  refine ⟨h.chg, h.fz, fun i => Ks (js.getD i 0), fun i y hi => ?_, fun i hi => ?_, fun i j hi hj hne => ?_⟩
  · have hil := (List.getElem?_eq_some_iff.1 hi).1
    have hj : js[i]? = some js[i] := List.getElem?_eq_getElem (by omega)
    have hg : js.getD i 0 = js[i] := by rw [List.getD_eq_getElem?_getD, hj]; rfl
    show y.R w (Ks (js.getD i 0))
    rw [hg]
    exact h1 _ y (by rw [← (hs i _ hj).1]; exact hi)
  · have hj : js[i]? = some js[i] := List.getElem?_eq_getElem (by omega)
    have hg : js.getD i 0 = js[i] := by rw [List.getD_eq_getElem?_getD, hj]; rfl
    show ∀ b, Ks (js.getD i 0) b → _
    rw [hg]
    exact h2 _ (hs i _ hj).2
  · have e1 : js[i]? = some js[i] := List.getElem?_eq_getElem (by omega)
    have e2 : js[j]? = some js[j] := List.getElem?_eq_getElem (by omega)
    have g1 : js.getD i 0 = js[i] := by rw [List.getD_eq_getElem?_getD, e1]; rfl
    have g2 : js.getD j 0 = js[j] := by rw [List.getD_eq_getElem?_getD, e2]; rfl
    show ∀ b, Ks (js.getD i 0) b → ¬ Ks (js.getD j 0) b
    rw [g1, g2]
    refine h3 _ _ (hs i _ e1).2 (hs j _ e2).2 (fun e => hne ?_)
    exact (List.getElem_inj (h₀ := by omega) (h₁ := by omega) hn).1 e
/-- What is read in blocks that are never written. -/
theorem GS.fz {α : Type} {r : Rep α} {A : Option Addr} {c : Nat} {l : List α} (h : GS r Fz w A c l) (ch : Chg (fun b => ¬ Fz b) w w') : GS r Fz w' A c l := h.keep ch (fun _ _ hb hn => hn hb)
theorem GS.nowS {α : Type} {r : Rep α} {S : Nat → Prop} {A : Option Addr} {c : Nat} {l : List α} (h : GS r S w A c l) : GS r (fun b => S b ∧ b < w.heap.size) w A c l := h.mono (fun _ hb hs => ⟨hs, hb⟩)
theorem GS.frz {α : Type} {r : Rep α} {lo : Nat} {Fz' : Nat → Prop} {A : Option Addr} {c : Nat} {l : List α} (h : GS r (fun b => lo ≤ b) w' A c l) (hf : ∀ b, lo ≤ b → b < w'.heap.size → Fz' b) : GS r Fz' w' A c l := h.mono (fun b hb hs => hf b hs hb)
theorem GS.wid {α : Type} {r : Rep α} {Fz' : Nat → Prop} {A : Option Addr} {c : Nat} {l : List α} (h : GS r Fz w A c l) (hf : ∀ b, Fz b → Fz' b) : GS r Fz' w A c l := h.mono (fun b _ hs => hf b hs)
/-- Rows of cells that read as a list, what they lead to being never written. -/
def RF {α : Type} (r : Rep α) (Fz : Nat → Prop) (w : World) (rows : List (List Value)) (l : List α) : Prop := rows.length = l.length ∧ ∀ i (h : i < l.length), ∃ cs, rows[i]? = some cs ∧ r.rd Fz w cs l[i]
theorem RF.fz {α : Type} {r : Rep α} {rows : List (List Value)} {l : List α} (h : RF r Fz w rows l) (ch : Chg (fun b => ¬ Fz b) w w') : RF r Fz w' rows l :=
  ⟨h.1, fun i hi => by obtain ⟨cs, h1, h2⟩ := h.2 i hi; exact ⟨cs, h1, r.keep ch (fun _ _ hb hn => hn hb) h2⟩⟩
theorem RF.ext {α : Type} {r : Rep α} {rows : List (List Value)} {l : List α} (h : RF r Fz w rows l) (ch : Ext w w') : RF r Fz w' rows l := h.fz ch.ext
theorem RF.wid {α : Type} {r : Rep α} {Fz' : Nat → Prop} {rows : List (List Value)} {l : List α} (h : RF r Fz w rows l) (hf : ∀ b, Fz b → Fz' b) : RF r Fz' w rows l :=
  ⟨h.1, fun i hi => by obtain ⟨cs, h1, h2⟩ := h.2 i hi; exact ⟨cs, h1, r.mono (fun b _ hs => hf b hs) h2⟩⟩
theorem RF.nil {α : Type} (r : Rep α) (Fz : Nat → Prop) (w : World) : RF r Fz w [] [] := ⟨rfl, fun i h => absurd h (by simp)⟩
theorem RF.append {α : Type} {r : Rep α} {rows rows2 : List (List Value)} {l l2 : List α} (h : RF r Fz w rows l) (h' : RF r Fz w rows2 l2) : RF r Fz w (rows ++ rows2) (l ++ l2) := by
  refine ⟨by rw [List.length_append, List.length_append, h.1, h'.1], fun i hi => ?_⟩
  by_cases hlt : i < l.length
  · obtain ⟨cs, h1, h2⟩ := h.2 i hlt
    exact ⟨cs, by rw [List.getElem?_append_left (by have := h.1; omega)]; exact h1, by rw [List.getElem_append_left hlt]; exact h2⟩
  · have hi2 : i - l.length < l2.length := by rw [List.length_append] at hi; omega
    obtain ⟨cs, h1, h2⟩ := h'.2 _ hi2
    exact ⟨cs, by rw [List.getElem?_append_right (by have := h.1; omega), h.1]; exact h1, by rw [List.getElem_append_right (by omega)]; exact h2⟩
theorem RF.one {α : Type} {r : Rep α} {cs : List Value} {v : α} (h : r.rd Fz w cs v) : RF r Fz w [cs] [v] := ⟨rfl, fun i hi => by
  simp only [List.length_singleton] at hi
  obtain rfl : i = 0 := by omega
  exact ⟨cs, rfl, h⟩⟩
theorem RF.lens {α : Type} {r : Rep α} {rows : List (List Value)} {l : List α} (h : RF r Fz w rows l) : ∀ x ∈ rows, x.length = r.size := by
  intro x hx
  obtain ⟨j, hj, rfl⟩ := List.mem_iff_getElem.1 hx
  obtain ⟨cs, h1, h2⟩ := h.2 j (by rw [← h.1]; exact hj)
  rw [List.getElem?_eq_getElem hj] at h1
  rw [Option.some.inj h1]
  exact r.len h2
end

/-! ### The things -/
/-- A block of just these cells. -/
def itB (g : Nat) (e : TypeId) (cs : List Value) : It where
  R w K := Blk w g e cs ∧ ∀ b, K b ↔ b = g
  st := fun h ⟨h1, h2⟩ => ⟨(h g ((h2 g).2 rfl)).trans h1, h2⟩
  lt := fun ⟨h1, h2⟩ b hb => by rw [(h2 b).1 hb]; exact h1.lt
/-- A row: n elements in use. -/
def itR (e size : Nat) (A : Option Addr) (n c : Nat) (xs : List Value) : It where
  R w K := OwnRow e size 0 w A n c xs ∧ ∀ b, K b ↔ c ≠ 0 ∧ blk A b
  st := fun {w w' K} h ⟨h1, h2⟩ => ⟨by
    refine ⟨h1.len, h1.le, h1.mx, ?_⟩
    rcases h1.row with h0 | ⟨g, cur, rfl, hb, hg, hs, ht⟩
    · exact .inl h0
    · by_cases hc : c = 0
      · have := h1.le
        exact .inl ⟨hc, by omega⟩
      · exact .inr ⟨g, cur, rfl, hb, (h g ((h2 g).2 ⟨hc, _, rfl, rfl⟩)).trans hg, hs, ht⟩, h2⟩
  lt := fun ⟨h1, h2⟩ b hb => (h1.lt ((h2 b).1 hb).1 b ((h2 b).1 hb).2).2
/-- A map. -/
def itM (P : Program) (k : TypeId) (m : Nat) (f : Value → Option Value) : It where
  R w K := MapB P k w m f ∧ ∀ b, K b ↔ b = m
  st := fun {w w' K} h ⟨h1, h2⟩ => ⟨by
    obtain ⟨es, c, hb, r⟩ := h1.ex
    exact ⟨es, c, (h m ((h2 m).2 rfl)).trans hb, r⟩, h2⟩
  lt := fun ⟨h1, h2⟩ b hb => by rw [(h2 b).1 hb]; exact h1.lt

section
variable {P : Program} {n : Nat} {L : List (Nat × Value)} {w0 w w' : World} {M0 Fz : Nat → Prop} {H : List It} {Q : Exit → Act → World → Prop} {ops : Array Oper} {rest : List Oper} {ty : TypeId} {pos : String} {af : Array Edge} {d i : Nat}
theorem HP.blkAt (h : HP w0 M0 Fz w H) {g e : Nat} {cs : List Value} (hi : H[i]? = some (itB g e cs)) : Blk w g e cs := by
  obtain ⟨K, ⟨h1, _⟩, _⟩ := h.focus hi
  exact h1
theorem HP.rowAt (h : HP w0 M0 Fz w H) {e size k c : Nat} {A : Option Addr} {xs : List Value} (hi : H[i]? = some (itR e size A k c xs)) : OwnRow e size 0 w A k c xs := by
  obtain ⟨K, ⟨h1, _⟩, _⟩ := h.focus hi
  exact h1
theorem HP.mapAt (h : HP w0 M0 Fz w H) {k m : Nat} {f : Value → Option Value} (hi : H[i]? = some (itM P k m f)) : MapB P k w m f := by
  obtain ⟨K, ⟨h1, _⟩, _⟩ := h.focus hi
  exact h1
theorem wl_hbox {e : TypeId} {x : Operand} {v : Value} (hd : d < n) (hx : ev L x = some v) (hp : HP w0 M0 Fz w H)
    (h : ∀ g w', HP w0 M0 Fz w' (itB g e v.cells.toList :: H) → Ext w w' → WL P n ops Q rest ((d, .pointer (some ⟨g, 0, none⟩)) :: L) w') :
    WL P n ops Q ({ dst := some d, op := .box e x, type := ty, pos := pos, after := af, guard := none } :: rest) L w :=
  wl_box hd hx (fun g w' hg hb hE => h g w' (hp.add hE (K := fun b => b = g) ⟨hb, fun _ => Iff.rfl⟩ (fun b hb => by rw [hb, hg]; exact Nat.le_refl _)) hE)
theorem wl_halloc {e : TypeId} {z : Value} (hd : d < n) (hz : (P.info? e).bind (·.zero) = some z) (hp : HP w0 M0 Fz w H)
    (h : ∀ g w', HP w0 M0 Fz w' (itB g e z.cells.toList :: H) → Ext w w' → WL P n ops Q rest ((d, .pointer (some ⟨g, 0, none⟩)) :: L) w') :
    WL P n ops Q ({ dst := some d, op := .alloc e, type := ty, pos := pos, after := af, guard := none } :: rest) L w :=
  wl_alloc hd hz (fun g w' hg hb hE => h g w' (hp.add hE (K := fun b => b = g) ⟨hb, fun _ => Iff.rfl⟩ (fun b hb => by rw [hb, hg]; exact Nat.le_refl _)) hE)
theorem wl_hload {t e g o : Nat} {cs : List Value} {x : Operand} {v : Value} (hd : d < n) (hs : scB P t = true) (hx : ev L x = some (.pointer (some ⟨g, o, none⟩))) (hp : HP w0 M0 Fz w H) (hi : H[i]? = some (itB g e cs)) (hv : cs[o]? = some v)
    (h : WL P n ops Q rest ((d, v) :: L) w) :
    WL P n ops Q ({ dst := some d, op := .load t x, type := ty, pos := pos, after := af, guard := none } :: rest) L w := wl_loadB hd hs hx (hp.blkAt hi) hv h
theorem wl_hloadA {t e g k o : Nat} {cs : List Value} {x : Operand} (hd : d < n) (hs : agB P t k = true) (hx : ev L x = some (.pointer (some ⟨g, o, none⟩))) (hp : HP w0 M0 Fz w H) (hi : H[i]? = some (itB g e cs)) (hl : ((cs.drop o).take k).length = k)
    (h : WL P n ops Q rest ((d, .agg ((cs.drop o).take k).toArray) :: L) w) :
    WL P n ops Q ({ dst := some d, op := .load t x, type := ty, pos := pos, after := af, guard := none } :: rest) L w := wl_loadA hd hs hx (((hp.blkAt hi).at_ o).take k) hl h
theorem wl_hstore {t e g o : Nat} {cs : List Value} {x y : Operand} {v : Value} (hx : ev L x = some (.pointer (some ⟨g, o, none⟩))) (hy : ev L y = some v) (hp : HP w0 M0 Fz w H) (hi : H[i]? = some (itB g e cs)) (hs : szB P t v.cells.size = true)
    (hl : o + v.cells.size ≤ cs.length) (h1 : ∀ u ∈ v.cells.toList, u.oneCell' = true)
    (h : ∀ w', HP w0 M0 Fz w' (H.set i (itB g e (putL cs o v.cells.toList))) → Chg (fun b => ¬ Fz b) w w' → WL P n ops Q rest L w') :
    WL P n ops Q ({ dst := none, op := .store t x y, type := ty, pos := pos, after := af, guard := none } :: rest) L w := by
  obtain ⟨K, ⟨hb, hK⟩, _, hup⟩ := hp.focus hi
  refine wl_storeB hs hx hy hb hl h1 (fun w' hb' hch => ?_)
  obtain ⟨hp', hc'⟩ := hup w' (itB g e (putL cs o v.cells.toList)) K (hch.weak (fun b _ e => (hK b).2 e)) ⟨hb', hK⟩ (fun b hb => .inl hb)
  exact h w' hp' hc'
theorem wl_hstoreR {t e size k c g o : Nat} {A : Option Addr} {xs : List Value} {x y : Operand} {v : Value} (hx : ev L x = some (.pointer (some ⟨g, o, none⟩))) (hy : ev L y = some v) (hp : HP w0 M0 Fz w H) (hi : H[i]? = some (itR e size A k c xs)) (hs : szB P t v.cells.size = true)
    (hA : A = some ⟨g, 0, none⟩) (hl : o + v.cells.size ≤ xs.length) (hn : v.cells.size ≠ 0) (h1 : ∀ u ∈ v.cells.toList, u.oneCell' = true)
    (h : ∀ w', HP w0 M0 Fz w' (H.set i (itR e size A k c (putL xs o v.cells.toList))) → Chg (fun b => ¬ Fz b) w w' → WL P n ops Q rest L w') :
    WL P n ops Q ({ dst := none, op := .store t x y, type := ty, pos := pos, after := af, guard := none } :: rest) L w := by
  obtain ⟨K, ⟨hb, hK⟩, _, hup⟩ := hp.focus hi
  refine wl_storeR hs hx hy hb hA hl hn h1 (fun w' hb' hch => ?_)
  have hc0 : c ≠ 0 := by
    rintro rfl
    have h1 := hb.le
    have h2 := hb.len
    obtain rfl : k = 0 := by omega
    simp only [Nat.zero_mul] at h2
    omega
  obtain ⟨hp', hc'⟩ := hup w' (itR e size A k c (putL xs o v.cells.toList)) K (hch.weak (fun b _ e => (hK b).2 ⟨hc0, _, hA, e.symm⟩)) ⟨hb', hK⟩ (fun b hb => .inl hb)
  exact h w' hp' hc'
theorem wl_happend {t e size bytes k m c c2 : Nat} {A B : Option Addr} {xs news : List Value} {s x : Operand} (hd : d < n) (hT : slB P t e size bytes = true)
    (hs : ev L s = some (.slice A k c)) (hx : ev L x = some (.slice B m c2)) (hp : HP w0 M0 Fz w H) (hi : H[i]? = some (itR e size A k c xs)) (hl : news.length = m * size) (hat : ∀ b, B = some b → At w b news) (hB : B = none → m = 0)
    (h1 : ∀ u ∈ news, u.oneCell' = true) (hb : (k + m) * bytes ≤ 140737488355328)
    (h : ∀ A' c' w', HP w0 M0 Fz w' (H.set i (itR e size A' (k + m) c' (xs ++ news))) → Chg (fun b => ¬ Fz b) w w' → WL P n ops Q rest ((d, .slice A' (k + m) c') :: L) w') :
    WL P n ops Q ({ dst := some d, op := .call { callee := .builtin .append, args := #[s, x], argTypes := #[t, t] }, type := ty, pos := pos, after := af, guard := none } :: rest) L w := by
  obtain ⟨K, ⟨ho, hK⟩, _, hup⟩ := hp.focus hi
  refine wl_append hd hT hs hx ho hl hat hB h1 hb (Nat.zero_le _) (fun A' c' w' ho' hch h4 => ?_)
  obtain ⟨hp', hc'⟩ := hup w' (itR e size A' (k + m) c' (xs ++ news)) (fun b => c' ≠ 0 ∧ blk A' b) (hch.weak (fun b _ e => (hK b).2 ⟨e.1, e.2.2⟩)) ⟨ho', fun _ => Iff.rfl⟩ (fun b hb => by
    rcases h4 with ⟨rfl, rfl⟩ | rfl
    · exact .inl ((hK b).2 hb)
    · obtain ⟨_, a, ha, rfl⟩ := hb
      cases ha
      exact .inr (Nat.le_refl _))
  exact h A' c' w' hp' hc'
/-- A row that is new. -/
theorem HP.newRow {e size k c g : Nat} {xs : List Value} (hp : HP w0 M0 Fz w H) (hE : Ext w w') (hg : g = w.heap.size) (ho : OwnRow e size w.heap.size w' (some ⟨g, 0, none⟩) k c xs) : HP w0 M0 Fz w' (itR e size (some ⟨g, 0, none⟩) k c xs :: H) :=
  hp.add hE (K := fun b => c ≠ 0 ∧ blk (some ⟨g, 0, none⟩) b) ⟨ho.lower (Nat.zero_le _), fun _ => Iff.rfl⟩ (fun b hb => by
    obtain ⟨_, a, ha, rfl⟩ := hb
    cases ha
    rw [hg]; exact Nat.le_refl _)
/-- No row yet. -/
theorem HP.noRow (hp : HP w0 M0 Fz w H) (e size : Nat) : HP w0 M0 Fz w (itR e size none 0 0 [] :: H) :=
  hp.add (Chg.refl _ _) (K := fun b => (0 : Nat) ≠ 0 ∧ blk none b) ⟨OwnRow.nil _ _ _ _ _, fun _ => Iff.rfl⟩ (fun b hb => absurd rfl hb.1)
/-- A row that a call answered. -/
theorem HP.ownRow {e size k c : Nat} {A : Option Addr} {xs : List Value} (hp : HP w0 M0 Fz w H) (hE : Ext w w') (ho : OwnRow e size w.heap.size w' A k c xs) : HP w0 M0 Fz w' (itR e size A k c xs :: H) :=
  hp.add hE (K := fun b => c ≠ 0 ∧ blk A b) ⟨ho.lower (Nat.zero_le _), fun _ => Iff.rfl⟩ (fun b hb => (ho.lt hb.1 b hb.2).1)
theorem HP.rowLo {Fz : Nat → Prop} (h : HP w0 (fun _ => False) Fz w H) {e size k c : Nat} {A : Option Addr} {xs : List Value} (hi : H[i]? = some (itR e size A k c xs)) : OwnRow e size w0.heap.size w A k c xs := by
  obtain ⟨Ks, h1, h2, _⟩ := h.ex
  obtain ⟨ho, hK⟩ := h1 i _ hi
  have hil := (List.getElem?_eq_some_iff.1 hi).1
  refine ⟨ho.len, ho.le, ho.mx, ?_⟩
  rcases ho.row with h0 | ⟨g, cur, rfl, _, r⟩
  · exact .inl h0
  · by_cases hc : c = 0
    · have := ho.le
      exact .inl ⟨hc, by omega⟩
    · rcases (h2 i hil g ((hK g).2 ⟨hc, _, rfl, rfl⟩)).1 with hb | hb
      · exact .inr ⟨g, cur, rfl, hb, r⟩
      · exact hb.elim
/-- What a call answers: a row of its own, what its elements lead to lying in S. -/
structure OutR {α : Type} (r : Rep α) (S : Nat → Prop) (e lo : Nat) (w : World) (A : Option Addr) (c : Nat) (l : List α) : Prop where
  ex : ∃ rows : List (List Value), OwnRow e r.size lo w A l.length c rows.flatten ∧ RF r (fun b => S b ∧ (c ≠ 0 → ¬ blk A b)) w rows l
theorem OutR.gs {α : Type} {r : Rep α} {S : Nat → Prop} {e lo c : Nat} {A : Option Addr} {l : List α} (h : OutR r S e lo w A c l) : GS r (fun b => S b ∨ lo ≤ b) w A c l := by
  obtain ⟨rows, ho, hr⟩ := h.ex
  by_cases h0 : l.length = 0
  · have := List.eq_nil_of_length_eq_zero h0
    subst this
    exact ⟨by simp, by simp, fun i hi => absurd hi (by simp)⟩
  · rcases ho.row with ⟨_, h1⟩ | ⟨g, cur, rfl, hb, hg, _⟩
    · exact absurd h1 h0
    · refine GS.of_rows rows (ho.at_ rfl) (Array.getElem?_eq_some_iff.1 hg).1 (.inr hb) ho.le ho.mx (fun i hi => ?_)
      obtain ⟨cs, h1, h2⟩ := hr.2 i hi
      exact ⟨cs, h1, r.mono (fun _ _ hs => .inl hs.1) h2⟩
theorem OutR.ext {α : Type} {r : Rep α} {S : Nat → Prop} {e lo c : Nat} {A : Option Addr} {l : List α} (h : OutR r S e lo w A c l) (ch : Ext w w') : OutR r S e lo w' A c l := by
  obtain ⟨rows, ho, hr⟩ := h.ex
  exact ⟨rows, ho.ext ch, hr.ext ch⟩
theorem HP.outR {α : Type} {r : Rep α} {S Fz : Nat → Prop} (h : HP w0 (fun _ => False) Fz w H) {e c : Nat} {A : Option Addr} {rows : List (List Value)} {l : List α} (hi : H[i]? = some (itR e r.size A l.length c rows.flatten)) (hr : RF r Fz w rows l) (hS : ∀ b, Fz b → S b) :
    OutR r S e w0.heap.size w A c l := by
  refine ⟨rows, h.rowLo hi, hr.1, fun j hj => ?_⟩
  obtain ⟨cs, h1, h2⟩ := hr.2 j hj
  obtain ⟨K, ⟨_, hK⟩, hF, _⟩ := h.focus hi
  exact ⟨cs, h1, r.mono (fun b _ hb => ⟨hS b hb, fun hc hbl => hF b ((hK b).2 ⟨hc, hbl⟩) hb⟩) h2⟩
/-- Such a row, in its caller's hands. -/
theorem HP.outIn {α : Type} {r : Rep α} {e c : Nat} {A : Option Addr} {l : List α} (h : HP w0 M0 Fz w H) (hE : Ext w w') (ho : OutR r (fun b => Fz b ∨ w.heap.size ≤ b) e w.heap.size w' A c l) :
    ∃ Fz' rows, HP w0 M0 Fz' w' (itR e r.size A l.length c rows.flatten :: H) ∧ RF r Fz' w' rows l ∧ (∀ b, Fz b → Fz' b) ∧ (∀ b, Fz' b → Fz b ∨ w.heap.size ≤ b) := by
  obtain ⟨rows, how, hr⟩ := ho.ex
  have h' := h.ext hE
  obtain ⟨Ks, h1, h2, h3⟩ := h.ex
  have hlt : ∀ i, i < H.length → ∀ b, Ks i b → b < w.heap.size := fun i hi b hb => (H[i]).lt (h1 i H[i] (List.getElem?_eq_getElem hi)) b hb
  have hrow : ∀ b, c ≠ 0 ∧ blk A b → w.heap.size ≤ b := fun b hb => (how.lt hb.1 b hb.2).1
  refine ⟨fun b => Fz b ∨ w.heap.size ≤ b ∧ b < w'.heap.size ∧ (c ≠ 0 → ¬ blk A b), rows, ⟨h'.chg, fun b hb => hb.elim (h'.fz b) (fun x => x.2.1), fun i => match i with | 0 => (fun b => c ≠ 0 ∧ blk A b) | i + 1 => Ks i, ?_, ?_, ?_⟩, ⟨hr.1, fun j hj => ?_⟩, fun b hb => .inl hb, fun b hb => hb.elim .inl (fun x => .inr x.1)⟩
  · intro i y hi
    cases i with
    | zero => simp only [List.getElem?_cons_zero, Option.some.injEq] at hi; subst hi; exact ⟨how.lower (Nat.zero_le _), fun _ => Iff.rfl⟩
    | succ i =>
      simp only [List.getElem?_cons_succ] at hi
      exact y.st (fun b hb => hE.block b (y.lt (h1 i y hi) b hb) (fun x => x)) (h1 i y hi)
  · intro i hi b hb
    cases i with
    | zero =>
      refine ⟨.inl (Nat.le_trans h.chg.size (hrow b hb)), ?_⟩
      rintro (hf | ⟨_, _, hn⟩)
      · exact Nat.lt_irrefl _ (Nat.lt_of_lt_of_le (h.fz b hf) (hrow b hb))
      · exact hn hb.1 hb.2
    | succ i =>
      have hi' : i < H.length := by simpa using hi
      refine ⟨(h2 i hi' b hb).1, ?_⟩
      rintro (hf | ⟨hf, _⟩)
      · exact (h2 i hi' b hb).2 hf
      · have := hlt i hi' b hb
        omega
  · intro i j hi hj hne b hb hb2
    cases i with
    | zero =>
      cases j with
      | zero => exact hne rfl
      | succ j => exact Nat.lt_irrefl _ (Nat.lt_of_lt_of_le (hlt j (by simpa using hj) b hb2) (hrow b hb))
    | succ i =>
      cases j with
      | zero => exact Nat.lt_irrefl _ (Nat.lt_of_lt_of_le (hlt i (by simpa using hi) b hb) (hrow b hb2))
      | succ j => exact h3 i j (by simpa using hi) (by simpa using hj) (by omega) b hb hb2
  · obtain ⟨cs, h4, h5⟩ := hr.2 j hj
    exact ⟨cs, h4, r.mono (fun b hb hs => hs.1.elim .inl (fun x => .inr ⟨x, hb, hs.2⟩)) h5⟩
theorem wl_hmakeMap {t k : TypeId} (hd : d < n) (hp : HP w0 M0 Fz w H) (h : ∀ g w', HP w0 M0 Fz w' (itM P k g (fun _ => none) :: H) → Ext w w' → WL P n ops Q rest ((d, .map (some g)) :: L) w') :
    WL P n ops Q ({ dst := some d, op := .makeMap t none, type := ty, pos := pos, after := af, guard := none } :: rest) L w :=
  wl_makeMap hd (fun g w' hg hb hE => h g w' (hp.add hE (K := fun b => b = g) ⟨hb, fun _ => Iff.rfl⟩ (fun b hb => by rw [hb, hg]; exact Nat.le_refl _)) hE)
theorem wl_hmapUpdate {t k e m : Nat} {f : Value → Option Value} {x ix y : Operand} {key u : Value} {l : Lit} (K : Keyed P k) (ht : P.underlying t = some (.map k e)) (hx : ev L x = some (.map (some m))) (hix : ev L ix = some key) (hy : ev L y = some u)
    (hk : keyOf P k key = some l) (hp : HP w0 M0 Fz w H) (hi : H[i]? = some (itM P k m f)) (h : ∀ w', HP w0 M0 Fz w' (H.set i (itM P k m (updF f key u))) → Chg (fun b => ¬ Fz b) w w' → WL P n ops Q rest L w') :
    WL P n ops Q ({ dst := none, op := .mapUpdate t x ix y, type := ty, pos := pos, after := af, guard := none } :: rest) L w := by
  obtain ⟨K', ⟨ho, hK⟩, _, hup⟩ := hp.focus hi
  refine wl_mapUpdate K ht hx hix hy hk ho (fun w' hb' hch => ?_)
  obtain ⟨hp', hc'⟩ := hup w' (itM P k m (updF f key u)) K' (hch.weak (fun b _ e => (hK b).2 e)) ⟨hb', hK⟩ (fun b hb => .inl hb)
  exact h w' hp' hc'
end
end Go.Eng

namespace Go.Eng
open Go.RowKit
/-- Cells at an address, in blocks of S. -/
structure AtF (S : Nat → Prop) (w : World) (a : Addr) (cs : List Value) : Prop where
  at_ : At w a cs
  inS : S a.block
  lt : a.block < w.heap.size
section
variable {S S' : Nat → Prop} {w w' : World} {a : Addr} {cs : List Value}
theorem AtF.ext (h : AtF S w a cs) (ch : Ext w w') : AtF S w' a cs := ⟨h.at_.keep ch (fun _ x => x), h.inS, Nat.lt_of_lt_of_le h.lt ch.size⟩
theorem AtF.fz (h : AtF S w a cs) (ch : Chg (fun b => ¬ S b) w w') : AtF S w' a cs := ⟨h.at_.keep ch (fun _ x => x h.inS), h.inS, Nat.lt_of_lt_of_le h.lt ch.size⟩
theorem AtF.wid (h : AtF S w a cs) (hs : ∀ b, S b → S' b) : AtF S' w a cs := ⟨h.at_, hs _ h.inS, h.lt⟩
theorem AtF.any (h : AtF S w a cs) : AtF (fun _ => True) w a cs := ⟨h.at_, trivial, h.lt⟩
theorem AtF.get (h : AtF S w a cs) {j : Nat} {v : Value} (hv : cs[j]? = some v) : w.cell? (a.add j) = some v := h.at_.get hv
theorem AtF.head {v : Value} {t : List Value} (h : AtF S w a (v :: t)) : w.cell? a = some v := h.at_.head
theorem GS.el {α : Type} {r : Rep α} {A : Option Addr} {c : Nat} {l : List α} (h : GS r S w A c l) (i : Nat) (hi : i < l.length) : ∃ a cs, A = some a ∧ AtF S w (a.add (i * r.size)) cs ∧ r.rd S w cs l[i] := by
  obtain ⟨a, cs, h1, h2, h3, h4, h5⟩ := h.rd i hi
  exact ⟨a, cs, h1, ⟨h4, by rw [block_add]; exact h3, by rw [block_add]; exact h2⟩, h5⟩
theorem GS.el1 {α : Type} {enc : α → Value} {he : ∀ x, (enc x).oneCell' = true} {A : Option Addr} {c : Nat} {l : List α} (h : GS (oneR enc he) S w A c l) (i : Nat) (hi : i < l.length) : ∃ a, A = some a ∧ AtF S w (a.add (i * 1)) [enc l[i]] := by
  obtain ⟨a, cs, h1, h2, h3⟩ := h.el i hi
  cases h3
  exact ⟨a, h1, h2⟩
end
end Go.Eng

namespace Go.Eng
open Go.RowKit
/-- Since w0 nothing was written in the blocks of F0, which are still never written. -/
structure Frz (F0 Fz : Nat → Prop) (w0 w : World) : Prop where
  chg : Chg (fun b => ¬ F0 b) w0 w
  sub : ∀ b, F0 b → Fz b
section
variable {F0 Fz Fz' : Nat → Prop} {w0 w w' : World} {M0 : Nat → Prop} {H : List It}
theorem Frz.start (Fz : Nat → Prop) (w : World) : Frz Fz Fz w w := ⟨Chg.refl _ _, fun _ h => h⟩
theorem Frz.ext (h : Frz F0 Fz w0 w) (ch : Ext w w') : Frz F0 Fz w0 w' := ⟨h.chg.step ch (fun _ _ x => x.elim), h.sub⟩
theorem Frz.fz (h : Frz F0 Fz w0 w) (ch : Chg (fun b => ¬ Fz b) w w') : Frz F0 Fz w0 w' := ⟨h.chg.step ch (fun b _ hn hf => hn (h.sub b hf)), h.sub⟩
theorem Frz.wid (h : Frz F0 Fz w0 w) (hs : ∀ b, Fz b → Fz' b) : Frz F0 Fz' w0 w := ⟨h.chg, fun b hb => hs b (h.sub b hb)⟩
/-- A row that is never written from now on. -/
theorem HP.frzRow {e size k c : Nat} {A : Option Addr} {xs : List Value} (h : HP w0 M0 Fz w (itR e size A k c xs :: H)) : ∃ Fz', HP w0 M0 Fz' w H ∧ (∀ b, Fz b → Fz' b) ∧ (∀ b, c ≠ 0 → blk A b → Fz' b) := by
  obtain ⟨Ks, h1, h2, h3⟩ := h.ex
  obtain ⟨ho, hK⟩ := h1 0 _ rfl
  refine ⟨fun b => Fz b ∨ (c ≠ 0 ∧ blk A b), ⟨h.chg, fun b hb => hb.elim (h.fz b) (fun x => (ho.lt x.1 b x.2).2), fun i => Ks (i + 1), fun i y hi => h1 (i + 1) y (by simpa using hi), fun i hi b hb => ⟨(h2 (i + 1) (by simpa using hi) b hb).1, ?_⟩, fun i j hi hj hne => h3 (i + 1) (j + 1) (by simpa using hi) (by simpa using hj) (by omega)⟩, fun b hb => .inl hb, fun b hc hb => .inr ⟨hc, hb⟩⟩
  rintro (hf | hf)
  · exact (h2 (i + 1) (by simpa using hi) b hb).2 hf
  · exact h3 0 (i + 1) (by simp) (by simpa using hi) (by omega) b ((hK b).2 hf) hb
theorem OwnRow.gsF {α : Type} {enc : α → Value} {he : ∀ x, (enc x).oneCell' = true} {e lo : Nat} {A : Option Addr} {c : Nat} {l : List α} (h : OwnRow e 1 lo w A l.length c (l.map enc)) (hf : ∀ b, c ≠ 0 → blk A b → Fz b) : GS (oneR enc he) Fz w A c l := by
  refine ⟨h.le, h.mx, fun i hi => ?_⟩
  obtain ⟨a, cs, h1, h2, h3, h4, h5⟩ := (OwnRow.gs1 (he := he) h).rd i hi
  have := h.le
  exact ⟨a, cs, h1, h2, hf _ (by omega) ⟨a, h1, rfl⟩, h4, h5⟩
/-- An element of a row. -/
theorem OwnRow.el {e size lo k c : Nat} {A : Option Addr} {xs : List Value} (h : OwnRow e size lo w A k c xs) (i : Nat) (hi : i < k) : ∃ g, A = some ⟨g, 0, none⟩ ∧ AtF (fun _ => True) w ((⟨g, 0, none⟩ : Addr).add (i * size)) ((xs.drop (i * size)).take size) := by
  rcases h.row with ⟨_, h0⟩ | ⟨g, cur, rfl, _, hg, _⟩
  · omega
  · exact ⟨g, rfl, ((h.at_ rfl).drop (i * size)).take size, trivial, by rw [block_add]; exact (Array.getElem?_eq_some_iff.1 hg).1⟩
end
end Go.Eng

namespace Go.Eng
theorem HP.rot3 {w0 w : World} {M0 Fz : Nat → Prop} {x y z : It} {F : List It} (h : HP w0 M0 Fz w (x :: y :: z :: F)) : HP w0 M0 Fz w (y :: z :: x :: F) := by
  obtain ⟨Ks, h1, h2, h3⟩ := h.ex
  let σ : Nat → Nat := fun i => match i with | 0 => 1 | 1 => 2 | 2 => 0 | i + 3 => i + 3
  have hσ : ∀ i j, σ i = σ j → i = j := by
    intro i j
    match i, j with
    | 0, 0 | 1, 1 | 2, 2 => simp
    | 0, 1 | 0, 2 | 1, 0 | 1, 2 | 2, 0 | 2, 1 => simp [σ]
    | 0, j + 3 | 1, j + 3 | 2, j + 3 => simp [σ]
    | i + 3, 0 | i + 3, 1 | i + 3, 2 => simp [σ]
    | i + 3, j + 3 => simp [σ]
  have hg : ∀ i, (y :: z :: x :: F)[i]? = (x :: y :: z :: F)[σ i]? := by
    intro i
    match i with
    | 0 | 1 | 2 => rfl
    | i + 3 => rfl
  have hl : ∀ i, i < (y :: z :: x :: F).length → σ i < (x :: y :: z :: F).length := by
    intro i hi
    match i with
    | 0 | 1 | 2 => simp [σ]
    | i + 3 => simpa [σ] using hi
  exact ⟨h.chg, h.fz, fun i => Ks (σ i), fun i u hi => h1 _ u (by rw [← hg]; exact hi), fun i hi => h2 _ (hl i hi), fun i j hi hj hne => h3 _ _ (hl i hi) (hl j hj) (fun e => hne (hσ i j e))⟩
end Go.Eng

namespace Go.Eng
/-- A row that is cut behind so many. -/
theorem HP.cutRow {w0 w : World} {M0 Fz : Nat → Prop} {H : List It} {i e size k c : Nat} {A : Option Addr} {xs : List Value} (h : HP w0 M0 Fz w H) (hi : H[i]? = some (itR e size A k c xs)) (j : Nat) (hj : j ≤ k) : HP w0 M0 Fz w (H.set i (itR e size A j c (xs.take (j * size)))) := by
  obtain ⟨K, ⟨ho, hK⟩, _, hup⟩ := h.focus hi
  exact (hup w (itR e size A j c (xs.take (j * size))) K (Chg.refl _ _) ⟨ho.cut j hj, hK⟩ (fun b hb => .inl hb)).1
end Go.Eng

namespace Go.Eng
theorem HP.comm {w0 w : World} {M0 Fz : Nat → Prop} (X Y F : List It) (h : HP w0 M0 Fz w (X ++ (Y ++ F))) : HP w0 M0 Fz w (Y ++ (X ++ F)) := by
  obtain ⟨Ks, h1, h2, h3⟩ := h.ex
  have hlen : (Y ++ (X ++ F)).length = (X ++ (Y ++ F)).length := by simp only [List.length_append]; omega
  have hg : ∀ i, (Y ++ (X ++ F))[i]? = (X ++ (Y ++ F))[if i < Y.length then X.length + i else if i < Y.length + X.length then i - Y.length else i]? := by
    intro i
    by_cases h1 : i < Y.length
    · rw [if_pos h1, List.getElem?_append_left h1, List.getElem?_append_right (by omega), List.getElem?_append_left (by omega)]
      congr 1
      omega
    · rw [if_neg h1]
      by_cases h2 : i < Y.length + X.length
      · rw [if_pos h2, List.getElem?_append_right (by omega), List.getElem?_append_left (by omega), List.getElem?_append_left (by omega)]
      · rw [if_neg h2, List.getElem?_append_right (by omega), List.getElem?_append_right (by omega), List.getElem?_append_right (by omega), List.getElem?_append_right (by omega)]
        congr 1
        omega
  have hl : ∀ i, i < (Y ++ (X ++ F)).length → (if i < Y.length then X.length + i else if i < Y.length + X.length then i - Y.length else i) < (X ++ (Y ++ F)).length := by
    intro i hi
    rw [hlen] at hi
    simp only [List.length_append] at hi ⊢
    split
    · omega
    · split <;> omega
  refine ⟨h.chg, h.fz, fun i => Ks (if i < Y.length then X.length + i else if i < Y.length + X.length then i - Y.length else i), fun i u hi => h1 _ u (by rw [← hg]; exact hi), fun i hi => h2 _ (hl i hi), fun i j hi hj hne => h3 _ _ (hl i hi) (hl j hj) (fun e => hne ?_)⟩
  simp only [List.length_append] at hi hj
  split at e <;> split at e <;> (try split at e) <;> (try split at e) <;> omega
section
open Go.RowKit
variable {P : Program} {n : Nat} {L : List (Nat × Value)} {w : World} {Q : Exit → Act → World → Prop} {ops : Array Oper} {rest : List Oper} {ty : TypeId} {pos : String} {af : Array Edge} {d : Nat}
/-- 's[:j]', what it reads left aside. -/
theorem wl_upto {A : Option Addr} {c t e size bytes m : Nat} {x up : Operand} {k : IntKind} {i : Int} (hd : d < n) (hT : slB P t e size bytes = true)
    (hx : ev L x = some (.slice A m c)) (hi : ev L up = some (.int k i)) (j : Nat) (hj : i = (j : Int)) (hle : j ≤ c)
    (h : WL P n ops Q rest ((d, .slice A j c) :: L) w) :
    WL P n ops Q ({ dst := some d, op := .slice t x none (some up) none, type := ty, pos := pos, after := af, guard := none } :: rest) L w := by
  subst hj
  refine wl_run hd (fun a ha => ?_) h
  have hr := run_cut_hi (A := A) (k := m) (c := c) w hT j k hle
  simp [execOp, ha.eval hx, ha.eval hi, hr]
end
end Go.Eng

namespace Go.Eng
open Go.RowKit
section
variable {P : Program} {n : Nat} {L : List (Nat × Value)} {w : World} {Q : Exit → Act → World → Prop} {ops : Array Oper} {rest : List Oper} {ty : TypeId} {pos : String} {af : Array Edge} {d : Nat}
/-- A slice of structs that is written out. -/
theorem wl_bsliceR {α : Type} {r : Rep α} {S : Nat → Prop} {t e bytes k : Nat} {xs : List Operand} {css : List (List Value)} {l : List α} {ps : Array (Nat × Operand)} (hd : d < n) (hT : slB P t e r.size bytes = true) (hp : ps = (partsOf 0 xs).toArray)
    (hv : evs L xs = some (css.map fun cs => .agg cs.toArray)) (hR : RF r S w css l) (hk : k = l.length) (hl0 : l ≠ []) (hm : l.length * r.size ≤ 16777216)
    (h : ∀ g w', g = w.heap.size → GS r (fun b => S b ∧ b < w.heap.size ∨ b = g) w' (some ⟨g, 0, none⟩) k l → Ext w w' → WL P n ops Q rest ((d, .slice (some ⟨g, 0, none⟩) l.length k) :: L) w') :
    WL P n ops Q ({ dst := some d, op := .buildSlice t k ps, type := ty, pos := pos, after := af, guard := none } :: rest) L w := by
  subst hk
  have hfl : ((css.map fun cs => Value.agg cs.toArray).map fun v => v.cells.toList).flatten = css.flatten := by
    rw [List.map_map]
    congr 1
    have : ((fun v : Value => v.cells.toList) ∘ fun cs : List Value => Value.agg cs.toArray) = id := by funext cs; simp [Value.cells]
    rw [this, List.map_id]
  refine wl_bslice (xs := xs) (vs := css.map fun cs => .agg cs.toArray) hd hT hp hv (by simp [hR.1]) ?_ (by simpa [hR.1] using hm) w.heap.size (Nat.le_refl _) ?_
  · intro v hv
    obtain ⟨cs, hcs, rfl⟩ := List.mem_map.1 hv
    simpa [Value.cells] using hR.lens cs hcs
  · intro g w' hg ho hE
    rw [hfl] at ho
    refine h g w' hg ?_ hE
    have h0 : l.length ≠ 0 := fun e => hl0 (List.eq_nil_of_length_eq_zero e)
    refine GS.of_rows css ho.at0 (ho.lt0 h0) (.inr rfl) (Nat.le_refl _) ho.mx (fun i hi => ?_)
    obtain ⟨cs, h1, h2⟩ := hR.2 i hi
    have h3 : r.rd (fun b => S b ∧ b < w.heap.size) w cs l[i] := r.mono (fun b hb hs => ⟨hs, hb⟩) h2
    exact ⟨cs, h1, r.mono (fun b _ hs => .inl hs) (r.keep hE (fun _ _ _ x => x) h3)⟩
end
end Go.Eng
