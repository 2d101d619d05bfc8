/- Rows of the call's own whose elements may hold slices; rows of elements of one cell. Program-independent. -/
import Derived.Test.YtnlpibfdobinoaaStr
namespace Go.Eng
open Go.RowKit

/-- A row of the call's own, read as a list; what its elements lead to lies elsewhere. -/
structure OwnR {α : Type} (r : Rep α) (e lo : Nat) (w : World) (A : Option Addr) (c : Nat) (l : List α) : Prop where
  ex : ∃ rows : List (List Value), OwnRow e r.size lo w A l.length c rows.flatten ∧ rows.length = l.length ∧ ∀ i (h : i < l.length), ∃ cs, rows[i]? = some cs ∧ r.rd (fun b => ¬ blk A b) w cs l[i]
section
variable {α : Type} {r : Rep α} {e lo lo' c : Nat} {w w' : World} {A : Option Addr} {l : List α} {M : Nat → Prop}
theorem OwnR.nil (r : Rep α) (e lo : Nat) (w : World) (A : Option Addr) : OwnR r e lo w A 0 [] := ⟨[], OwnRow.nil e r.size lo w A, rfl, fun i h => absurd h (by simp)⟩
theorem OwnR.keep (ch : Chg M w w') (hm : ∀ b, b < w.heap.size → ¬ M b) (h : OwnR r e lo w A c l) : OwnR r e lo w' A c l := by
  obtain ⟨rows, ho, hl, hr⟩ := h.ex
  exact ⟨rows, ho.keep ch (fun b hb _ _ => hm b hb), hl, fun i hi => by obtain ⟨cs, h1, h2⟩ := hr i hi; exact ⟨cs, h1, r.keep ch (fun b hb _ => hm b hb) h2⟩⟩
theorem OwnR.ext (h : OwnR r e lo w A c l) (ch : Ext w w') : OwnR r e lo w' A c l := h.keep ch (fun _ _ x => x)
theorem OwnR.lower (h : OwnR r e lo w A c l) (hl : lo' ≤ lo) : OwnR r e lo' w A c l := by
  obtain ⟨rows, ho, h2, h3⟩ := h.ex
  exact ⟨rows, ho.lower hl, h2, h3⟩
theorem OwnR.mx (h : OwnR r e lo w A c l) : l.length ≤ 140737488355328 := by obtain ⟨_, ho, _⟩ := h.ex; exact ho.mx
theorem OwnR.gs (h : OwnR r e lo w A c l) : GS r (fun _ => True) w A c l := by
  obtain ⟨rows, ho, hl, hr⟩ := h.ex
  by_cases h0 : l.length = 0
  · have := List.eq_nil_of_length_eq_zero h0
    subst this
    exact ⟨by simp, by simp, fun i hi => absurd hi (by simp)⟩
  · rcases ho.row with ⟨_, h1⟩ | ⟨g, cur, rfl, _, hg, _⟩
    · exact absurd h1 h0
    · refine GS.of_rows rows (ho.at_ rfl) (Array.getElem?_eq_some_iff.1 hg).1 trivial ho.le ho.mx (fun i hi => ?_)
      obtain ⟨cs, h1, h2⟩ := hr i hi
      exact ⟨cs, h1, r.mono (fun _ _ _ => trivial) h2⟩
/-- Where it lies, if it has elements. -/
theorem OwnR.addr (h : OwnR r e lo w A c l) (h0 : l ≠ []) : ∃ g, A = some ⟨g, 0, none⟩ ∧ lo ≤ g ∧ g < w.heap.size := by
  obtain ⟨rows, ho, _⟩ := h.ex
  rcases ho.row with ⟨_, h1⟩ | ⟨g, cur, rfl, hb, hg, _⟩
  · exact absurd (List.eq_nil_of_length_eq_zero h1) h0
  · exact ⟨g, rfl, hb, (Array.getElem?_eq_some_iff.1 hg).1⟩
theorem rows_len {rows : List (List Value)} (hr : ∀ i (h : i < l.length), ∃ cs, rows[i]? = some cs ∧ r.rd (fun b => ¬ blk A b) w cs l[i]) (hl : rows.length = l.length) : ∀ x ∈ rows, x.length = r.size := by
  intro x hx
  obtain ⟨j, hj, rfl⟩ := List.mem_iff_getElem.1 hx
  obtain ⟨cs, h1, h2⟩ := hr j (by omega)
  rw [List.getElem?_eq_getElem hj] at h1
  rw [Option.some.inj h1]
  exact r.len h2
end
section
variable {P : Program} {n : Nat} {L : List (Nat × Value)} {w w' : World} {Q : Exit → Act → World → Prop} {ops : Array Oper} {rest : List Oper} {ty : TypeId} {pos : String} {af : Array Edge} {d : Nat}
/-- A list that is read is laid behind a list of the call's own. -/
theorem wl_appendR {α : Type} {r : Rep α} {t e bytes lo c c2 : Nat} {A B : Option Addr} {l l2 : List α} {s x : Operand} (hd : d < n) (hT : slB P t e r.size bytes = true)
    (hs : ev L s = some (.slice A l.length c)) (hx : ev L x = some (.slice B l2.length c2)) (hown : OwnR r e lo w A c l) (g : GS r (fun b => c ≠ 0 → lo ≤ b → ¬ blk A b) w B c2 l2) (hb : (l.length + l2.length) * bytes ≤ 140737488355328) (hlo : lo ≤ w.heap.size)
    (h : ∀ A' c' w', OwnR r e lo w' A' c' (l ++ l2) → Chg (fun b => c ≠ 0 ∧ lo ≤ b ∧ blk A b) w w' → (A' = A ∧ c' = c ∨ A' = some ⟨w.heap.size, 0, none⟩) → WL P n ops Q rest ((d, .slice A' (l ++ l2).length c') :: L) w') :
    WL P n ops Q ({ dst := some d, op := .call { callee := .builtin .append, args := #[s, x], argTypes := #[t, t] }, type := ty, pos := pos, after := af, guard := none } :: rest) L w := by
  obtain ⟨rows, ho, hl, hr⟩ := hown.ex
  obtain ⟨rows2, hl2, hs2, ho2, hr2, hat2, hnil2⟩ := g.cells
  refine wl_append (news := rows2.flatten) hd hT hs hx ho (by rw [flat_len _ _ hs2, hl2]) hat2 (fun hB => by simp [hnil2 hB]) ?_ hb hlo ?_
  · intro u hu
    obtain ⟨x, hx, hu⟩ := List.mem_flatten.1 hu
    exact ho2 x hx u hu
  · intro A' c' w' h2 h3 h4
    have hkeep : ∀ (S : Nat → Prop) cs v, c' ≠ 0 → (∀ b, b < w.heap.size → S b → c ≠ 0 → lo ≤ b → ¬ blk A b) → r.rd S w cs v → r.rd (fun b => ¬ blk A' b) w' cs v := by
      intro S cs v h0 hS hv
      have hv2 : r.rd (fun b => b < w.heap.size ∧ (c ≠ 0 → lo ≤ b → ¬ blk A b)) w cs v := r.mono (fun b hb hs => ⟨hb, hS b hb hs⟩) hv
      have hv3 := r.keep h3 (fun b hb hs (x : c ≠ 0 ∧ lo ≤ b ∧ blk A b) => hs.2 x.1 x.2.1 x.2.2) hv2
      refine r.mono (fun b _ hs hx => ?_) hv3
      rcases h4 with ⟨rfl, rfl⟩ | rfl
      · exact hs.2 h0 (ho.lt h0 _ hx).1 hx
      · obtain ⟨a, ha, rfl⟩ := hx
        cases ha
        exact Nat.lt_irrefl _ hs.1
    refine h A' c' w' ?_ h3 h4 |> fun z => by rwa [List.length_append] at z
    refine ⟨rows ++ rows2, by rw [List.flatten_append, List.length_append]; exact h2, by simp [hl, hl2], fun i hi => ?_⟩
    have h0 : c' ≠ 0 := by
      have := h2.le
      rw [List.length_append] at hi
      omega
    by_cases hlt : i < l.length
    · obtain ⟨cs, h5, h6⟩ := hr i hlt
      refine ⟨cs, by rw [List.getElem?_append_left (by omega)]; exact h5, ?_⟩
      rw [List.getElem_append_left hlt]
      exact hkeep _ _ _ h0 (fun b _ hs _ _ => hs) h6
    · have hi2 : i - l.length < l2.length := by rw [List.length_append] at hi; omega
      refine ⟨rows2[i - l.length]'(by omega), ?_, ?_⟩
      · rw [List.getElem?_append_right (by omega), hl, List.getElem?_eq_getElem]
      · rw [List.getElem_append_right (by omega)]
        exact hkeep _ _ _ h0 (fun b _ hs hc hb => hs hc hb) (hr2 _ hi2 (by omega))
/-- A slice of one struct that is written out. -/
theorem wl_one {α : Type} {r : Rep α} {S : Nat → Prop} {t e bytes : Nat} {x : Operand} {cs : List Value} {v : α} {ps : Array (Nat × Operand)} (hd : d < n) (hT : slB P t e r.size bytes = true) (hp : ps = #[(0, x)]) (hx : ev L x = some (.agg cs.toArray)) (hrd : r.rd S w cs v)
    (hm : r.size ≤ 16777216) (h : ∀ g w', g = w.heap.size → GS r (fun b => S b ∧ b < w.heap.size ∨ b = g) w' (some ⟨g, 0, none⟩) 1 [v] → Ext w w' → WL P n ops Q rest ((d, .slice (some ⟨g, 0, none⟩) [v].length 1) :: L) w') :
    WL P n ops Q ({ dst := some d, op := .buildSlice t 1 ps, type := ty, pos := pos, after := af, guard := none } :: rest) L w := by
  refine wl_bslice (xs := [x]) (vs := [.agg cs.toArray]) hd hT (by rw [hp]; rfl) (by simp [evs, hx]) rfl (by simp [Value.cells, r.len hrd]) (by simpa using hm) w.heap.size (Nat.le_refl _) ?_
  intro g w' hg ho hE
  have hat : At w' ⟨g, 0, none⟩ cs := by
    have := ho.at0
    simpa [Value.cells] using this
  have hrd2 : r.rd (fun b => S b ∧ b < w.heap.size ∨ b = g) w' cs v := by
    have h1 : r.rd (fun b => S b ∧ b < w.heap.size) w cs v := r.mono (fun b hb hs => ⟨hs, hb⟩) hrd
    exact r.mono (fun b _ hs => .inl hs) (r.keep hE (fun _ _ _ x => x) h1)
  exact h g w' hg (GS.one hat ho.lt0 (Nat.le_refl _) (.inr rfl) hrd2) hE

/-! ### Rows of elements of one cell -/
/-- A row of the call's own, each element one cell. -/
abbrev OwnE {α : Type} (enc : α → Value) (e lo : Nat) (w : World) (A : Option Addr) (c : Nat) (l : List α) : Prop := OwnRow e 1 lo w A l.length c (l.map enc)
theorem GS.cells1 {α : Type} {enc : α → Value} {he : ∀ x, (enc x).oneCell' = true} {S : Nat → Prop} {w : World} {A : Option Addr} {c : Nat} {l : List α} (g : GS (oneR enc he) S w A c l) : (∀ a, A = some a → At w a (l.map enc)) ∧ (A = none → l = []) := by
  obtain ⟨rows, hl, hs1, ho, hr, hat, hnil⟩ := g.cells
  have hfl : rows.flatten = l.map enc := by
    have : rows = l.map (fun b => [enc b]) := by
      apply List.ext_getElem (by simp [hl])
      intro j h1 h2
      have := hr j (by simpa using h2) h1
      simpa [oneR] using this
    rw [this, flat_ones]
  exact ⟨fun a ha => hfl ▸ hat a ha, hnil⟩
theorem wl_appendE {α : Type} {enc : α → Value} {he : ∀ x, (enc x).oneCell' = true} {t e bytes lo c c2 : Nat} {S : Nat → Prop} {A B : Option Addr} {l l2 : List α} {s x : Operand} (hd : d < n) (hT : slB P t e 1 bytes = true)
    (hs : ev L s = some (.slice A l.length c)) (hx : ev L x = some (.slice B l2.length c2)) (hown : OwnE enc e lo w A c l) (g : GS (oneR enc he) S w B c2 l2) (hb : (l.length + l2.length) * bytes ≤ 140737488355328) (hlo : lo ≤ w.heap.size)
    (h : ∀ A' c' w', OwnE enc e lo w' A' c' (l ++ l2) → Chg (fun b => c ≠ 0 ∧ lo ≤ b ∧ blk A b) w w' → (A' = A ∧ c' = c ∨ A' = some ⟨w.heap.size, 0, none⟩) → WL P n ops Q rest ((d, .slice A' (l ++ l2).length c') :: L) w') :
    WL P n ops Q ({ dst := some d, op := .call { callee := .builtin .append, args := #[s, x], argTypes := #[t, t] }, type := ty, pos := pos, after := af, guard := none } :: rest) L w := by
  obtain ⟨hat, hnil⟩ := g.cells1
  refine wl_append (news := l2.map enc) hd hT hs hx hown (by simp) hat (fun hB => by simp [hnil hB]) (by simp [he]) hb hlo ?_
  intro A' c' w' h2 h3 h4
  have := h A' c' w' (by rw [OwnE, List.map_append, List.length_append]; exact h2) h3 h4
  rwa [List.length_append] at this
theorem wl_bsliceE {α : Type} {enc : α → Value} (he : ∀ x, (enc x).oneCell' = true) {t e bytes : Nat} {xs : List Operand} {bs : List α} {k : Nat} {ps : Array (Nat × Operand)} (hd : d < n) (hT : slB P t e 1 bytes = true) (hp : ps = (partsOf 0 xs).toArray) (hv : evs L xs = some (bs.map enc)) (hk : k = bs.length)
    (hm : bs.length ≤ 16777216) (lo : Nat) (hlo : lo ≤ w.heap.size)
    (h : ∀ g w', g = w.heap.size → OwnE enc e lo w' (some ⟨g, 0, none⟩) k bs → Ext w w' → WL P n ops Q rest ((d, .slice (some ⟨g, 0, none⟩) bs.length k) :: L) w') :
    WL P n ops Q ({ dst := some d, op := .buildSlice t k ps, type := ty, pos := pos, after := af, guard := none } :: rest) L w := by
  have h1 : ∀ v ∈ bs.map enc, v.oneCell' = true := by intro v hv; obtain ⟨b, _, rfl⟩ := List.mem_map.1 hv; exact he b
  have h0 : ∀ v ∈ bs.map enc, v.cells.size = 1 := fun v hv => by have := h1 v hv; cases v <;> simp_all [Value.cells, Value.oneCell']
  refine wl_bslice (vs := bs.map enc) hd hT hp hv (by simp [hk]) h0 (by simpa using hm) lo hlo ?_
  intro g w' hg ho hE
  rw [flat_cells1 _ h1] at ho
  subst hk
  exact h g w' hg ho hE
/-- A row cut behind so many. -/
theorem OwnRow.cut {e size lo k c : Nat} {w : World} {A : Option Addr} {xs : List Value} (h : OwnRow e size lo w A k c xs) (j : Nat) (hj : j ≤ k) : OwnRow e size lo w A j c (xs.take (j * size)) := by
  have hm : j * size ≤ k * size := Nat.mul_le_mul_right _ hj
  refine ⟨by rw [List.length_take, h.len]; omega, Nat.le_trans hj h.le, Nat.le_trans hj h.mx, ?_⟩
  rcases h.row with ⟨h0, h1⟩ | ⟨g, cur, hA, hb, hg, hs, ht⟩
  · exact .inl ⟨h0, by omega⟩
  · exact .inr ⟨g, cur, hA, hb, hg, hs, by rw [← ht, List.take_take, Nat.min_eq_left hm]⟩
theorem OwnE.cut {α : Type} {enc : α → Value} {e lo c : Nat} {w : World} {A : Option Addr} {l : List α} (h : OwnE enc e lo w A c l) (j : Nat) (hj : j ≤ l.length) : OwnE enc e lo w A c (l.take j) := by
  have := OwnRow.cut h j hj
  rw [Nat.mul_one, ← List.map_take] at this
  unfold OwnE
  rw [List.length_take, Nat.min_eq_left hj]
  exact this
theorem putL_one {α : Type} (enc : α → Value) (l : List α) (i : Nat) (x : α) (hi : i < l.length) : putL (l.map enc) i [enc x] = (l.set i x).map enc := by
  rw [putL, List.set_eq_take_append_cons_drop, if_pos hi]
  simp
end
end Go.Eng
