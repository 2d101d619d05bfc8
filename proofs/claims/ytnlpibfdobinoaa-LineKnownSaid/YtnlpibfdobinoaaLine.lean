/- Plain laws of histories: an order of operations that explains what was read, the least one, and when there is one. Program-independent. -/
namespace Go.Eng

structure HOp where
  wr : Bool
  val : List UInt8
  b : Int
  e : Int
deriving DecidableEq

def tryF {α : Type} (f : Nat → Option α) : Nat → Nat → Option α
  | _, 0 => none
  | k, m + 1 => match f k with
    | some x => some x
    | none => tryF f (k + 1) m
theorem tryF_none {α : Type} {f : Nat → Option α} : ∀ (m k : Nat), (∀ j, k ≤ j → j < k + m → f j = none) → tryF f k m = none
  | 0, _, _ => rfl
  | m + 1, k, h => by
    rw [tryF, h k (Nat.le_refl _) (by omega)]
    exact tryF_none m (k + 1) (fun j h1 h2 => h j (by omega) (by omega))
theorem tryF_some {α : Type} {f : Nat → Option α} {x : α} {i : Nat} (hi : f i = some x) : ∀ (m k : Nat), k ≤ i → i < k + m → (∀ j, k ≤ j → j < i → f j = none) → tryF f k m = some x
  | 0, k, h1, h2, _ => by omega
  | m + 1, k, h1, h2, h => by
    rw [tryF]
    by_cases e : k = i
    · rw [e, hi]
    · rw [h k (Nat.le_refl _) (by omega)]
      exact tryF_some hi m (k + 1) (by omega) (by omega) (fun j h3 h4 => h j (by omega) h4)
theorem tryF_ex {α : Type} {f : Nat → Option α} : ∀ (m k : Nat) {x : α}, tryF f k m = some x → ∃ i, k ≤ i ∧ i < k + m ∧ f i = some x ∧ ∀ j, k ≤ j → j < i → f j = none
  | 0, k, x, h => by simp [tryF] at h
  | m + 1, k, x, h => by
    rw [tryF] at h
    cases hk : f k with
    | some y =>
      rw [hk] at h
      simp only [Option.some.injEq] at h
      subst h
      exact ⟨k, Nat.le_refl _, by omega, hk, fun j h1 h2 => by omega⟩
    | none =>
      rw [hk] at h
      obtain ⟨i, h1, h2, h3, h4⟩ := tryF_ex m (k + 1) h
      refine ⟨i, by omega, by omega, h3, fun j h5 h6 => ?_⟩
      by_cases e : j = k
      · rw [e]; exact hk
      · exact h4 j (by omega) h6
theorem tryF_ne {α : Type} {f : Nat → Option α} {i : Nat} (m k : Nat) (h1 : k ≤ i) (h2 : i < k + m) (h : f i ≠ none) : tryF f k m ≠ none := by
  induction m generalizing k with
  | zero => omega
  | succ m ih =>
    rw [tryF]
    cases hk : f k with
    | some y => simp
    | none =>
      refine ih (k + 1) ?_ (by omega)
      rcases Nat.lt_or_eq_of_le h1 with h | h
      · omega
      · subst h; exact absurd hk (by assumption)

theorem tb_or (s i k : Nat) : (s ||| 1 <<< i).testBit k = (s.testBit k || decide (k = i)) := by
  rw [Nat.testBit_or, Nat.shiftLeft_eq, Nat.one_mul, Nat.testBit_two_pow]
  congr 1
  simp [eq_comm]

theorem tbf (s i : Nat) : (s ||| 1 <<< i).testBit = fun k => s.testBit k || decide (k = i) := funext fun k => tb_or s i k

section
variable (H : List HOp) (first : List UInt8)
def hop (i : Nat) : HOp := H.getD i ⟨false, [], 0, 0⟩
/-- Is k over before i begins? -/
def ahd (i k : Nat) : Bool := decide (0 < (hop H k).e ∧ (hop H k).e < (hop H i).b)
def valueOf (last : Int) : List UInt8 := if 0 ≤ last then (hop H last.toNat).val else first
def allN (n : Nat) (p : Nat → Bool) : Bool := (List.range n).all p
theorem allN_iff {n : Nat} {p : Nat → Bool} : allN n p = true ↔ ∀ k, k < n → p k = true := by simp [allN]
def wholeS (s : Nat) : Bool := allN H.length fun k => !decide (0 < (hop H k).e) || s.testBit k
def allowS (s : Nat) (last : Int) (i : Nat) : Bool :=
  !s.testBit i && (allN H.length fun k => !ahd H i k || s.testBit k) && ((hop H i).wr || decide ((hop H i).val = valueOf H first last))
def nextL (last : Int) (i : Nat) : Int := if (hop H i).wr then i else last
def go : Nat → Nat → Int → Option (List Nat)
  | 0, s, _ => if wholeS H s then some [] else none
  | f + 1, s, last => if wholeS H s then some [] else
      tryF (fun i => if allowS H first s last i then (go f (s ||| 1 <<< i) (nextL H last i)).map (i :: ·) else none) 0 H.length
def G (s : Nat) (last : Int) : Option (List Nat) := go H first H.length s last

def cntN : Nat → Nat → Nat
  | 0, _ => 0
  | m + 1, s => cntN m s + (if s.testBit m then 0 else 1)
theorem cntN_le (m s : Nat) : cntN m s ≤ m := by
  induction m with
  | zero => simp [cntN]
  | succ m ih => rw [cntN]; split <;> omega
theorem cntN_or (s i : Nat) (hs : s.testBit i = false) : ∀ m, cntN m (s ||| 1 <<< i) + (if i < m then 1 else 0) = cntN m s
  | 0 => by simp [cntN]
  | m + 1 => by
    have ih := cntN_or s i hs m
    rw [cntN, cntN, tb_or]
    by_cases e : m = i
    · subst e
      simp only [hs, decide_true, Bool.or_true, if_true, Bool.false_eq_true, if_false, Nat.lt_succ_self, Nat.lt_irrefl] at ih ⊢
      omega
    · simp only [e, decide_false, Bool.or_false]
      by_cases h : i < m
      · rw [if_pos h] at ih; rw [if_pos (by omega : i < m + 1)]; omega
      · rw [if_neg h] at ih; rw [if_neg (by omega : ¬ i < m + 1)]; omega
theorem cntN_zero {m s i : Nat} (h : cntN m s = 0) (hi : i < m) : s.testBit i = true := by
  induction m with
  | zero => omega
  | succ m ih =>
    rw [cntN] at h
    by_cases e : i = m
    · subst e
      cases hb : s.testBit i
      · rw [hb] at h; simp at h
      · rfl
    · exact ih (by omega) (by omega)

theorem allowS_tb {s : Nat} {last : Int} {i : Nat} (h : allowS H first s last i = true) : s.testBit i = false := by
  unfold allowS at h
  simp only [Bool.and_eq_true, Bool.not_eq_true'] at h
  exact h.1.1
theorem go_stable : ∀ (f s : Nat) (last : Int), cntN H.length s ≤ f → go H first (f + 1) s last = go H first f s last
  | 0, s, last, hc => by
    rw [go, go]
    split
    · rfl
    · refine tryF_none _ _ (fun j _ h2 => ?_)
      have := cntN_zero (by omega : cntN H.length s = 0) (i := j) (by omega)
      rw [if_neg]
      intro ha
      rw [allowS_tb H first ha] at this
      cases this
  | f + 1, s, last, hc => by
    rw [go, go]
    split
    · rfl
    · have e : ∀ (k m : Nat), k + m ≤ H.length →
          tryF (fun i => if allowS H first s last i then (go H first (f + 1) (s ||| 1 <<< i) (nextL H last i)).map (i :: ·) else none) k m =
          tryF (fun i => if allowS H first s last i then (go H first f (s ||| 1 <<< i) (nextL H last i)).map (i :: ·) else none) k m := by
        intro k m
        induction m generalizing k with
        | zero => intro _; rfl
        | succ m ih =>
          intro hkm
          rw [tryF, tryF, ih (k + 1) (by omega)]
          by_cases ha : allowS H first s last k = true
          · rw [if_pos ha, if_pos ha]
            have := cntN_or s k (allowS_tb H first ha) H.length
            rw [if_pos (by omega)] at this
            rw [go_stable f (s ||| 1 <<< k) (nextL H last k) (by omega)]
          · rw [if_neg ha, if_neg ha]
      exact e 0 H.length (by omega)
theorem go_more (s : Nat) (last : Int) : ∀ (d f : Nat), cntN H.length s ≤ f → go H first (f + d) s last = go H first f s last
  | 0, _, _ => rfl
  | d + 1, f, h => by
    rw [← Nat.add_assoc, go_stable H first (f + d) s last (by omega)]
    exact go_more s last d f h
/-- The equation of the least way on. -/
theorem G_eq (s : Nat) (last : Int) : G H first s last = if wholeS H s then some [] else
    tryF (fun i => if allowS H first s last i then (G H first (s ||| 1 <<< i) (nextL H last i)).map (i :: ·) else none) 0 H.length := by
  unfold G
  rw [← go_stable H first H.length s last (cntN_le _ _), go]
theorem G_whole {s : Nat} {last : Int} (h : wholeS H s = true) : G H first s last = some [] := by rw [G_eq, if_pos h]
theorem G_none {s : Nat} {last : Int} (hw : wholeS H s = false) (h : ∀ j, j < H.length → allowS H first s last j = true → G H first (s ||| 1 <<< j) (nextL H last j) = none) : G H first s last = none := by
  rw [G_eq, if_neg (by rw [hw]; simp)]
  refine tryF_none _ _ (fun j _ h2 => ?_)
  split
  · rw [h j (by omega) (by assumption)]; rfl
  · rfl
theorem G_some {s : Nat} {last : Int} {i : Nat} {p : List Nat} (hw : wholeS H s = false) (hi : i < H.length) (ha : allowS H first s last i = true) (hg : G H first (s ||| 1 <<< i) (nextL H last i) = some p)
    (h : ∀ j, j < i → allowS H first s last j = true → G H first (s ||| 1 <<< j) (nextL H last j) = none) : G H first s last = some (i :: p) := by
  rw [G_eq, if_neg (by rw [hw]; simp)]
  refine tryF_some (i := i) ?_ _ _ (by omega) (by omega) (fun j _ h2 => ?_)
  · rw [if_pos ha, hg]; rfl
  · split
    · rw [h j h2 (by assumption)]; rfl
    · rfl
theorem G_cases {s : Nat} {last : Int} {q : List Nat} (h : G H first s last = some q) : (wholeS H s = true ∧ q = []) ∨
    (wholeS H s = false ∧ ∃ i p, q = i :: p ∧ i < H.length ∧ allowS H first s last i = true ∧ G H first (s ||| 1 <<< i) (nextL H last i) = some p) := by
  rw [G_eq] at h
  split at h
  · rename_i hw
    simp only [Option.some.injEq] at h
    exact .inl ⟨hw, h.symm⟩
  · rename_i hw
    obtain ⟨i, _, h2, h3, _⟩ := tryF_ex _ _ h
    split at h3
    · rename_i ha
      cases hg : G H first (s ||| 1 <<< i) (nextL H last i) with
      | none => rw [hg] at h3; cases h3
      | some p =>
        rw [hg] at h3
        simp only [Option.map_some, Option.some.injEq] at h3
        exact .inr ⟨by simpa using hw, i, p, h3.symm, by omega, ha, hg⟩
    · cases h3

/-! ### What an order explains -/
def explR : (Nat → Bool) → List UInt8 → List Int → Bool
  | s, _, [] => allN H.length fun k => !decide (0 < (hop H k).e) || s k
  | s, v, i :: r => decide (0 ≤ i ∧ i < H.length) && !s i.toNat && (allN H.length fun k => s k || !ahd H i.toNat k) && ((hop H i.toNat).wr || decide ((hop H i.toNat).val = v)) &&
      explR (fun k => s k || decide (k = i.toNat)) (if (hop H i.toNat).wr then (hop H i.toNat).val else v) r
theorem value_next (last : Int) (i : Nat) : valueOf H first (nextL H last i) = if (hop H i).wr then (hop H i).val else valueOf H first last := by
  unfold nextL
  split
  · rw [valueOf, if_pos (by omega)]; simp
  · rfl
theorem explR_congr {s t : Nat → Bool} (h : ∀ k, s k = t k) (v : List UInt8) (l : List Int) : explR H s v l = explR H t v l := by
  rw [show s = t from funext h]
/-- What the least way is explains. -/
theorem G_explains : ∀ (q : List Nat) (s : Nat) (last : Int), G H first s last = some q → explR H s.testBit (valueOf H first last) (q.map fun i : Nat => (i : Int)) = true
  | q, s, last, h => by
    rcases G_cases H first h with ⟨hw, rfl⟩ | ⟨_, i, p, rfl, hi, ha, hg⟩
    · simpa [explR, wholeS] using hw
    · have ih := G_explains p _ _ hg
      rw [value_next] at ih
      rw [List.map_cons, explR]
      simp only [Int.toNat_natCast]
      unfold allowS at ha
      simp only [Bool.and_eq_true, Bool.or_eq_true] at ha ⊢
      obtain ⟨⟨h1, h2⟩, h3⟩ := ha
      refine ⟨⟨⟨⟨by simp; omega, h1⟩, ?_⟩, h3⟩, ?_⟩
      · rw [allN_iff] at h2 ⊢
        intro k hk
        have := h2 k hk
        rwa [Bool.or_comm] at this
      · rw [← tbf]; exact ih
theorem G_tight : ∀ (q : List Nat) (s : Nat) (last : Int), G H first s last = some q → ∀ i, q.getLast? = some i → i < H.length ∧ 0 < (hop H i).e
  | q, s, last, h, j, hj => by
    rcases G_cases H first h with ⟨hw, rfl⟩ | ⟨hw, i, p, rfl, hi, ha, hg⟩
    · simp at hj
    · cases p with
      | nil =>
        simp only [List.getLast?_singleton, Option.some.injEq] at hj
        subst hj
        refine ⟨hi, ?_⟩
        rcases G_cases H first hg with ⟨hw2, _⟩ | ⟨_, _, _, h', _⟩
        · apply Decidable.byContradiction
          intro hne
          have : wholeS H s = true := by
            unfold wholeS at hw2 ⊢
            rw [allN_iff] at hw2 ⊢
            intro k hk
            have := hw2 k hk
            rw [tb_or] at this
            by_cases e : k = i
            · subst e; simp [hne]
            · simpa [e] using this
          rw [this] at hw; cases hw
        · cases h'
      | cons x p =>
        rw [List.getLast?_cons_cons] at hj
        exact G_tight (x :: p) _ _ hg j hj
/-- What explains is found, or something before it. -/
theorem G_complete : ∀ (q : List Int) (s : Nat) (last : Int), explR H s.testBit (valueOf H first last) q = true → G H first s last ≠ none
  | [], s, last, h => by
    rw [G_whole H first (by simpa [explR, wholeS] using h)]; simp
  | i :: r, s, last, h => by
    by_cases hw : wholeS H s = true
    · rw [G_whole H first hw]; simp
    · rw [explR] at h
      simp only [Bool.and_eq_true, decide_eq_true_eq] at h
      obtain ⟨⟨⟨⟨h1, h2⟩, h3⟩, h4⟩, h5⟩ := h
      obtain ⟨m, rfl⟩ : ∃ m : Nat, i = m := ⟨i.toNat, by omega⟩
      simp only [Int.toNat_natCast] at h2 h3 h4 h5
      have hm : m < H.length := by omega
      have ih := G_complete r (s ||| 1 <<< m) (nextL H last m) (by
        rw [value_next, tbf]; exact h5)
      rw [G_eq, if_neg hw]
      refine tryF_ne (i := m) _ _ (by omega) (by omega) ?_
      have ha : allowS H first s last m = true := by
        unfold allowS
        simp only [Bool.and_eq_true]
        refine ⟨⟨h2, ?_⟩, h4⟩
        rw [allN_iff] at h3 ⊢
        intro k hk
        have := h3 k hk
        rwa [Bool.or_comm] at this
      rw [if_pos ha]
      cases hg : G H first (s ||| 1 <<< m) (nextL H last m) with
      | none => exact absurd hg ih
      | some p => simp
/-- Is there an order? -/
def linB : Bool := (G H first 0 (-1)).isSome
theorem linB_iff : linB H first = true ↔ ∃ q, explR H (fun _ => false) first q = true := by
  have e0 : (0 : Nat).testBit = fun _ => false := by funext k; simp
  have ev : valueOf H first (-1) = first := by simp [valueOf]
  constructor
  · intro h
    unfold linB at h
    obtain ⟨q, hq⟩ := Option.isSome_iff_exists.1 h
    have := G_explains H first q 0 (-1) hq
    rw [ev, e0] at this
    exact ⟨_, this⟩
  · rintro ⟨q, hq⟩
    have := G_complete H first q 0 (-1) (by rw [ev, e0]; exact hq)
    unfold linB
    cases hg : G H first 0 (-1)
    · exact absurd hg this
    · rfl
end
end Go.Eng

namespace Go.Eng
section
variable (H : List HOp) (first : List UInt8)
/-- Values of operations one behind the other. -/
def seqOK : List UInt8 → List HOp → Bool
  | _, [] => true
  | v, x :: r => (x.wr || decide (x.val = v)) && seqOK (if x.wr then x.val else v) r
def badOp (x : HOp) : Bool := decide (x.b < 1 ∨ x.e ≠ 0 ∧ x.e ≤ x.b)
/-- Check, of a history. -/
def chkH : Int := if 14 < H.length then 5 else if H.any badOp then 2 else 0
theorem chkH_zero : chkH H = 0 ↔ H.length ≤ 14 ∧ ∀ x ∈ H, badOp x = false := by
  unfold chkH
  split
  · constructor
    · intro h; cases h
    · rintro ⟨h, _⟩; omega
  · rename_i hl
    split
    · rename_i ha
      rw [List.any_eq_true] at ha
      obtain ⟨x, hx, hb⟩ := ha
      constructor
      · intro h; cases h
      · rintro ⟨_, h⟩; rw [h x hx] at hb; cases hb
    · rename_i ha
      refine ⟨fun _ => ⟨by omega, fun x hx => ?_⟩, fun _ => rfl⟩
      cases hb : badOp x
      · rfl
      · exact absurd (List.any_eq_true.2 ⟨x, hx, hb⟩) ha
theorem hop_get {i : Nat} (h : i < H.length) : hop H i = H[i] := by simp [hop, h]

/-- Operations one behind the other, the times of none of which forbids it, explain. -/
theorem seq_explains : ∀ (suf pre : List HOp) (v : List UInt8), H = pre ++ suf → seqOK v suf = true →
    (∀ i k, i ≤ k → k < H.length → ¬ (0 < (hop H k).e ∧ (hop H k).e < (hop H i).b)) →
    explR H (fun k => decide (k < pre.length)) v ((List.range' pre.length suf.length).map fun i : Nat => (i : Int)) = true
  | [], pre, v, hH, _, _ => by
    rw [List.length_nil, List.range'_zero, List.map_nil, explR, allN_iff]
    intro k hk
    have hl : H.length = pre.length := by rw [hH]; simp
    rw [hl] at hk
    simp [hk]
  | x :: suf, pre, v, hH, hs, ht => by
    have hl : H.length = pre.length + suf.length + 1 := by rw [hH]; simp; omega
    have hx : hop H pre.length = x := by rw [hop_get H (by omega)]; subst hH; simp
    rw [seqOK, Bool.and_eq_true] at hs
    have ih := seq_explains suf (pre ++ [x]) (if x.wr then x.val else v) (by rw [hH]; simp) hs.2 ht
    rw [List.length_cons, List.range'_succ, List.map_cons, explR]
    simp only [Int.toNat_natCast, hx, Bool.and_eq_true, decide_eq_true_eq]
    refine ⟨⟨⟨⟨by omega, by simp⟩, ?_⟩, hs.1⟩, ?_⟩
    · rw [allN_iff]
      intro k hk
      by_cases h : k < pre.length
      · simp [h]
      · have := ht pre.length k (by omega) hk
        have e : ahd H pre.length k = false := by unfold ahd; exact decide_eq_false this
        simp [e]
    · rw [List.length_append, List.length_singleton] at ih
      refine Eq.trans ?_ ih
      refine explR_congr H (fun k => ?_) _ _
      rw [← Bool.decide_or]
      exact decide_eq_decide.2 (by omega)
theorem seq_lin (hs : seqOK first H = true) (ht : ∀ i k, i ≤ k → k < H.length → ¬ (0 < (hop H k).e ∧ (hop H k).e < (hop H i).b)) : linB H first = true := by
  rw [linB_iff]
  have := seq_explains H H [] first rfl hs ht
  exact ⟨_, by rw [← this]; exact explR_congr H (fun k => by simp) _ _⟩

/-- Times that are looser, the same values. -/
theorem explR_mono {H H' : List HOp} (hl : H'.length = H.length) (hv : ∀ i, (hop H' i).wr = (hop H i).wr ∧ (hop H' i).val = (hop H i).val)
    (ha : ∀ i k, i < H.length → k < H.length → ahd H' i k = true → ahd H i k = true) (he : ∀ k, k < H.length → 0 < (hop H' k).e → 0 < (hop H k).e) :
    ∀ (q : List Int) (s : Nat → Bool) (v : List UInt8), explR H s v q = true → explR H' s v q = true
  | [], s, v, h => by
    rw [explR, allN_iff] at h ⊢
    intro k hk
    have := h k (by omega)
    have h2 := he k (by omega)
    simp only [Bool.or_eq_true, Bool.not_eq_true', decide_eq_false_iff_not] at this ⊢
    rcases this with h' | h'
    · exact .inl (fun x => h' (h2 x))
    · exact .inr h'
  | i :: r, s, v, h => by
    rw [explR] at h ⊢
    simp only [Bool.and_eq_true, decide_eq_true_eq] at h ⊢
    obtain ⟨⟨⟨⟨h1, h2⟩, h3⟩, h4⟩, h5⟩ := h
    rw [(hv i.toNat).1, (hv i.toNat).2, hl]
    refine ⟨⟨⟨⟨h1, h2⟩, ?_⟩, h4⟩, explR_mono hl hv ha he r _ _ h5⟩
    rw [allN_iff] at h3 ⊢
    intro k hk
    have := h3 k hk
    simp only [Bool.or_eq_true, Bool.not_eq_true'] at this ⊢
    rcases this with h' | h'
    · exact .inl h'
    · refine .inr ?_
      cases hb : ahd H' i.toNat k
      · rfl
      · rw [ha i.toNat k (by omega) hk hb] at h'; cases h'

/-! A read that has not ended is left out. -/
def upI (p k : Nat) : Nat := if k < p then k else k + 1
def dnI (p k : Nat) : Nat := if k < p then k else k - 1
theorem hop_erase (H : List HOp) (p k : Nat) : hop (H.eraseIdx p) k = hop H (upI p k) := by
  unfold hop upI
  rw [List.getD_eq_getElem?_getD, List.getD_eq_getElem?_getD, List.getElem?_eraseIdx]
  split <;> rfl
theorem up_dn {p i : Nat} (h : i ≠ p) : upI p (dnI p i) = i := by
  unfold upI dnI
  by_cases h1 : i < p
  · rw [if_pos h1, if_pos h1]
  · rw [if_neg h1, if_neg (by omega)]; omega
theorem up_ne (p k : Nat) : upI p k ≠ p := by unfold upI; split <;> omega
theorem up_inj {p k i : Nat} (h : i ≠ p) : upI p k = i ↔ k = dnI p i := by
  unfold upI dnI
  split <;> split <;> omega
theorem explR_erase {H : List HOp} {p : Nat} (hp : p < H.length) (hr : (hop H p).wr = false) :
    ∀ (q : List Int) (s : Nat → Bool) (v : List UInt8), explR H s v q = true →
      ∃ q', explR (H.eraseIdx p) (fun k => s (upI p k)) v q' = true := by
  have hl : (H.eraseIdx p).length = H.length - 1 := by rw [List.length_eraseIdx, if_pos hp]
  have hup : ∀ k, k < H.length - 1 → upI p k < H.length := by intro k hk; unfold upI; split <;> omega
  intro q
  induction q with
  | nil =>
    intro s v h
    refine ⟨[], ?_⟩
    rw [explR, allN_iff] at h ⊢
    intro k hk
    rw [hop_erase]
    exact h _ (hup k (by omega))
  | cons i r ih =>
    intro s v h
    rw [explR] at h
    simp only [Bool.and_eq_true, decide_eq_true_eq] at h
    obtain ⟨⟨⟨⟨h1, h2⟩, h3⟩, h4⟩, h5⟩ := h
    obtain ⟨m, rfl⟩ : ∃ m : Nat, i = m := ⟨i.toNat, by omega⟩
    simp only [Int.toNat_natCast] at h2 h3 h4 h5
    obtain ⟨q', hq'⟩ := ih _ _ h5
    by_cases e : m = p
    · subst e
      refine ⟨q', ?_⟩
      rw [hr, if_neg (by simp)] at hq'
      rw [← hq']
      exact explR_congr _ (fun k => by rw [decide_eq_false (up_ne m k), Bool.or_false]) _ _
    · refine ⟨(dnI p m : Int) :: q', ?_⟩
      rw [explR]
      simp only [Bool.and_eq_true, decide_eq_true_eq, Int.toNat_natCast, hop_erase, up_dn e]
      refine ⟨⟨⟨⟨?_, h2⟩, ?_⟩, h4⟩, ?_⟩
      · rw [hl]; unfold dnI; split <;> omega
      · rw [allN_iff] at h3 ⊢
        intro k hk
        have := h3 (upI p k) (hup k (by omega))
        unfold ahd at this ⊢
        rw [hop_erase, hop_erase, up_dn e]
        exact this
      · refine Eq.trans ?_ hq'
        refine explR_congr _ (fun k => ?_) _ _
        rw [decide_eq_decide.2 (up_inj e (k := k))]

theorem lin_mono {H H' : List HOp} (hl : H'.length = H.length) (hv : ∀ i, (hop H' i).wr = (hop H i).wr ∧ (hop H' i).val = (hop H i).val)
    (ha : ∀ i k, i < H.length → k < H.length → ahd H' i k = true → ahd H i k = true) (he : ∀ k, k < H.length → 0 < (hop H' k).e → 0 < (hop H k).e) (h : linB H first = true) : linB H' first = true := by
  rw [linB_iff] at h ⊢
  obtain ⟨q, hq⟩ := h
  exact ⟨q, explR_mono hl hv ha he q _ _ hq⟩
theorem lin_erase {H : List HOp} {p : Nat} (hp : p < H.length) (hr : (hop H p).wr = false) (h : linB H first = true) : linB (H.eraseIdx p) first = true := by
  rw [linB_iff] at h ⊢
  obtain ⟨q, hq⟩ := h
  exact explR_erase hp hr q _ _ hq

/-! Operations one behind the other, each of which is over before the next begins. -/
theorem row_G (hrow : ∀ i, i < H.length → (hop H i).b = 3 * i + 1 ∧ (hop H i).e = 3 * i + 2) :
    ∀ (suf pre : List HOp) (s : Nat) (last : Int), H = pre ++ suf → (∀ k, s.testBit k = decide (k < pre.length)) →
      G H first s last = if seqOK (valueOf H first last) suf then some (List.range' pre.length suf.length) else none
  | [], pre, s, last, hH, hs => by
    rw [seqOK, if_pos rfl, List.length_nil, List.range'_zero]
    refine G_whole H first ?_
    rw [wholeS, allN_iff]
    intro k hk
    have hl : H.length = pre.length := by rw [hH]; simp
    rw [hs, decide_eq_true (by omega : k < pre.length), Bool.or_true]
  | x :: suf, pre, s, last, hH, hs => by
    have hl : H.length = pre.length + suf.length + 1 := by rw [hH]; simp; omega
    have hx : hop H pre.length = x := by rw [hop_get H (by omega)]; subst hH; simp
    have hw : wholeS H s = false := by
      cases hb : wholeS H s
      · rfl
      · rw [wholeS, allN_iff] at hb
        have := hb pre.length (by omega)
        rw [hs, decide_eq_false (by omega : ¬ pre.length < pre.length), (hrow _ (by omega)).2, decide_eq_true (by omega)] at this
        cases this
    have hal : ∀ j, j < H.length → allowS H first s last j = true → j = pre.length ∧ (x.wr || decide (x.val = valueOf H first last)) = true := by
      intro j hj ha
      have h0 := allowS_tb H first ha
      rw [hs, decide_eq_false_iff_not] at h0
      unfold allowS at ha
      simp only [Bool.and_eq_true] at ha
      obtain ⟨⟨_, h2⟩, h3⟩ := ha
      have hj2 : j = pre.length := by
        apply Decidable.byContradiction
        intro hne
        rw [allN_iff] at h2
        have := h2 pre.length (by omega)
        have hb := (hrow j hj).1
        have hee := (hrow pre.length (by omega)).2
        rw [hs, decide_eq_false (by omega : ¬ pre.length < pre.length), Bool.or_false, Bool.not_eq_true'] at this
        unfold ahd at this
        rw [hb, hee, decide_eq_false_iff_not] at this
        omega
      subst hj2
      rw [hx] at h3
      exact ⟨rfl, h3⟩
    have ih := row_G hrow suf (pre ++ [x]) (s ||| 1 <<< pre.length) (nextL H last pre.length) (by rw [hH]; simp)
      (fun k => by rw [tb_or, hs, ← Bool.decide_or, List.length_append, List.length_singleton]; exact decide_eq_decide.2 (by omega))
    rw [value_next, hx, List.length_append, List.length_singleton] at ih
    rw [seqOK]
    by_cases hv : (x.wr || decide (x.val = valueOf H first last)) = true
    · rw [hv, Bool.true_and]
      have ha : allowS H first s last pre.length = true := by
        unfold allowS
        simp only [Bool.and_eq_true]
        refine ⟨⟨by rw [hs]; simp, ?_⟩, by rw [hx]; exact hv⟩
        rw [allN_iff]
        intro k hk
        rw [hs]
        by_cases h : k < pre.length
        · simp [h]
        · have hb := (hrow pre.length (by omega)).1
          have hee := (hrow k hk).2
          have : ahd H pre.length k = false := by unfold ahd; rw [hb, hee]; exact decide_eq_false (by omega)
          simp [this]
      by_cases hq : seqOK (if x.wr then x.val else valueOf H first last) suf = true
      · rw [if_pos hq] at ih ⊢
        rw [List.length_cons, List.range'_succ]
        exact G_some H first hw (by omega) ha ih (fun j hj h' => by have := (hal j (by omega) h').1; omega)
      · rw [if_neg hq] at ih ⊢
        exact G_none H first hw (fun j hj h' => by rw [(hal j hj h').1]; exact ih)
    · rw [if_neg (by simp only [Bool.and_eq_true]; exact fun h => hv h.1)]
      exact G_none H first hw (fun j hj h' => absurd (hal j hj h').2 hv)
theorem row_lin (hrow : ∀ i, i < H.length → (hop H i).b = 3 * i + 1 ∧ (hop H i).e = 3 * i + 2) :
    G H first 0 (-1) = if seqOK first H then some (List.range H.length) else none := by
  have := row_G H first hrow H [] 0 (-1) rfl (fun k => by simp)
  rw [show valueOf H first (-1) = first by simp [valueOf]] at this
  rw [this, List.range_eq_range']; rfl
end
end Go.Eng

/-! ### Lists of operations as numbers -/
namespace Go.Eng
/-- The bits of an order. -/
def bitsS : List Nat → Nat
  | [] => 0
  | i :: r => bitsS r + 1 <<< i
def nats (p : List Nat) : List Int := p.map fun i : Nat => (i : Int)
theorem nats_append (p q : List Nat) : nats (p ++ q) = nats p ++ nats q := by simp [nats]
theorem nats_len (p : List Nat) : (nats p).length = p.length := by simp [nats]
theorem nats_mem {p : List Nat} {i : Nat} : (i : Int) ∈ nats p ↔ i ∈ p := by
  simp only [nats, List.mem_map]
  constructor
  · rintro ⟨j, hj, e⟩
    rwa [← Int.ofNat_inj.1 e]
  · exact fun h => ⟨i, h, rfl⟩
theorem bitsS_append (p q : List Nat) : bitsS (p ++ q) = bitsS p + bitsS q := by
  induction p with
  | nil => simp [bitsS]
  | cons i r ih => simp only [List.cons_append, bitsS, ih]; omega
theorem bitsS_le {p : List Nat} {m : Nat} (h : ∀ i ∈ p, i ≤ m) : bitsS p ≤ p.length * 2 ^ m := by
  induction p with
  | nil => simp [bitsS]
  | cons i r ih =>
    have h1 := ih (fun j hj => h j (by simp [hj]))
    have h2 : 1 <<< i ≤ 2 ^ m := by rw [Nat.shiftLeft_eq, Nat.one_mul]; exact Nat.pow_le_pow_right (by omega) (h i (by simp))
    rw [bitsS, List.length_cons, Nat.add_mul, Nat.one_mul]
    omega
end Go.Eng

namespace Go.Eng
/-- The numbers below m that p tells, as bits. -/
def setN (p : Nat → Bool) : Nat → Nat
  | 0 => 0
  | m + 1 => if p m then setN p m ||| 1 <<< m else setN p m
theorem setN_yes {p : Nat → Bool} {m : Nat} (h : p m = true) : setN p (m + 1) = setN p m ||| 1 <<< m := by rw [setN, if_pos h]
theorem setN_no {p : Nat → Bool} {m : Nat} (h : p m = false) : setN p (m + 1) = setN p m := by rw [setN, if_neg (by rw [h]; simp)]
theorem setN_lt (p : Nat → Bool) : ∀ m, setN p m < 2 ^ m
  | 0 => by simp [setN]
  | m + 1 => by
    have ih := setN_lt p m
    have h1 : setN p m < 2 ^ (m + 1) := Nat.lt_trans ih (Nat.pow_lt_pow_right (by omega) (by omega))
    rw [setN]
    split
    · refine Nat.or_lt_two_pow h1 ?_
      rw [Nat.shiftLeft_eq, Nat.one_mul]
      exact Nat.pow_lt_pow_right (by omega) (by omega)
    · exact h1
theorem setN_63 (p : Nat → Bool) {m : Nat} (h : m ≤ 62) : setN p m < 9223372036854775808 :=
  Nat.lt_of_lt_of_le (setN_lt p m) (Nat.le_trans (Nat.pow_le_pow_right (by omega) h) (by decide))
theorem shl_63 {k : Nat} (h : k ≤ 62) : 1 <<< k < 9223372036854775808 := by
  rw [Nat.shiftLeft_eq, Nat.one_mul]
  exact Nat.lt_of_le_of_lt (Nat.pow_le_pow_right (by omega) h) (by decide)
theorem setN_tb (p : Nat → Bool) (k : Nat) : ∀ m, (setN p m).testBit k = (decide (k < m) && p k)
  | 0 => by simp [setN]
  | m + 1 => by
    have ih := setN_tb p k m
    rw [setN]
    by_cases hp : p m = true
    · rw [if_pos hp, tb_or, ih]
      by_cases e : k = m
      · subst e; simp [hp]
      · have : (k < m + 1) ↔ k < m := by omega
        simp [e, this]
    · rw [if_neg hp, ih]
      by_cases e : k = m
      · subst e; simp [hp]
      · have : (k < m + 1) ↔ k < m := by omega
        simp [this]
def endN (H : List HOp) : Nat := setN (fun k => decide (0 < (hop H k).e)) H.length
def befL (H : List HOp) : List Int := (List.range H.length).map fun i => ((setN (ahd H i) H.length : Nat) : Int)
end Go.Eng
