/- Plain laws on bytes and numbers: no program. -/
import Derived.Test.YtnlpibfdobinoaaOpt
namespace Go.Eng

/-- A number brought to one below n. -/
def brg (i n : Int) : Int := if n ≤ 0 then 0 else i % n
theorem brg_tmod (i n : Int) (h : 0 < n) : brg i n = if i.tmod n < 0 then i.tmod n + n else i.tmod n := by
  unfold brg
  rw [if_neg (by omega)]
  have e : i % n = (i.tmod n) % n := by
    conv => lhs; rw [← Int.mul_tdiv_add_tmod i n]
    rw [Int.add_comm, Int.add_mul_emod_self_left]
  have ht1 : -n < i.tmod n := by have := Int.lt_tmod_of_pos i h; omega
  have ht2 : i.tmod n < n := Int.tmod_lt_of_pos i h
  rw [e]
  split
  · rw [← Int.add_emod_right, Int.emod_eq_of_lt (by omega) (by omega)]
  · rw [Int.emod_eq_of_lt (by omega) ht2]
theorem brg_lo (i n : Int) : 0 ≤ brg i n := by
  unfold brg; split
  · omega
  · exact Int.emod_nonneg _ (by omega)
theorem brg_hi (i n : Int) (h : 0 < n) : brg i n < n := by
  unfold brg; rw [if_neg (by omega)]; exact Int.emod_lt_of_pos _ h

/-- A number's digits to the base 256, the highest first; so many at most. -/
def digF : Nat → Nat → List UInt8
  | 0, _ => []
  | f + 1, n => if n = 0 then [] else digF f (n / 256) ++ [UInt8.ofNat n]
def digs (n : Nat) : List UInt8 := digF 8 n
/-- What digits say. -/
def valD (l : List UInt8) : Nat := l.foldl (fun a c => a * 256 + c.toNat) 0
/-- A number's bytes. -/
def numL (n : Nat) : List UInt8 := UInt8.ofNat (digs n).length :: digs n
/-- bin.Num. -/
def numS (n : Int) : List UInt8 × Int := if n < 0 ∨ 9007199254740991 < n then ([], 9) else (numL n.toNat, 0)
/-- bin.TakeNum. -/
def takeS : List UInt8 → Int × List UInt8 × Int
  | [] => (0, [], 3)
  | m :: t =>
    if 7 < m.toNat then (0, [], 4)
    else if t.length < m.toNat then (0, [], 3)
    else if 0 < m.toNat ∧ t.headD 1 = 0 then (0, [], 4)
    else if 9007199254740991 < valD (t.take m.toNat) then (0, [], 9)
    else ((valD (t.take m.toNat) : Int), t.drop m.toNat, 0)
/-- bin.TakeFix. -/
def fixS (b : List UInt8) (n : Int) : List UInt8 × List UInt8 × Int :=
  if n < 0 then ([], [], 2) else if (b.length : Int) < n then ([], [], 3) else (b.take n.toNat, b.drop n.toNat, 0)
/-- bin.TakeStr. -/
def takeStrS (b : List UInt8) (most : Int) : List UInt8 × List UInt8 × Int :=
  if most < 0 then ([], [], 2)
  else if (takeS b).2.2 ≠ 0 then ([], [], (takeS b).2.2)
  else if most < (takeS b).1 ∨ 65536 < (takeS b).1 then ([], [], 5)
  else fixS (takeS b).2.1 (takeS b).1
/-- bin.Str. -/
def strS (b : List UInt8) : List UInt8 × Int := if 65536 < b.length then ([], 5) else (numL b.length ++ b, 0)

theorem pow256 (m : Nat) : 256 ^ m = 2 ^ (8 * m) := by rw [Nat.pow_mul]
theorem digF_zero (f : Nat) : digF f 0 = [] := by cases f <;> simp [digF]
theorem digF_len_le : ∀ (f n : Nat), (digF f n).length ≤ f
  | 0, _ => by simp [digF]
  | f + 1, n => by
    unfold digF
    split
    · simp
    · have := digF_len_le f (n / 256)
      simp; omega
/-- Enough room: the digits do not hang on it. -/
theorem digF_room : ∀ (f n m : Nat), n < 256 ^ m → m ≤ f → digF f n = digF m n
  | 0, n, m, h, hm => by
    have : m = 0 := by omega
    subst this; rfl
  | f + 1, n, m, h, hm => by
    cases m with
    | zero => have : n = 0 := by simpa using h
              subst this; rw [digF_zero, digF_zero]
    | succ m =>
      unfold digF
      split
      · rfl
      · rw [digF_room f (n / 256) m (by rw [Nat.pow_succ] at h; omega) (by omega)]
theorem digF_len : ∀ (f n m : Nat), m ≤ f → 256 ^ m ≤ n → m < (digF f n).length ∨ f ≤ (digF f n).length
  | 0, n, m, hm, h => by right; omega
  | f + 1, n, m, hm, h => by
    have hn : n ≠ 0 := by have : 0 < 256 ^ m := Nat.pow_pos (by omega); omega
    unfold digF
    rw [if_neg hn]
    cases m with
    | zero => left; simp
    | succ m =>
      have := digF_len f (n / 256) m (by omega) (by rw [Nat.pow_succ] at h; omega)
      simp
      omega
theorem digF_len_up : ∀ (f n m : Nat), n < 256 ^ m → (digF f n).length ≤ m
  | 0, n, m, h => by simp [digF]
  | f + 1, n, m, h => by
    unfold digF
    split
    · simp
    · rename_i hn
      cases m with
      | zero => simp at h; omega
      | succ m =>
        have := digF_len_up f (n / 256) m (by rw [Nat.pow_succ] at h; omega)
        simp; omega
theorem valD_app (l : List UInt8) (c : UInt8) : valD (l ++ [c]) = valD l * 256 + c.toNat := by simp [valD]
theorem valD_lt (l : List UInt8) : valD l < 256 ^ l.length := by
  have key : ∀ (k : Nat) (l : List UInt8), l.length = k → valD l < 256 ^ k := by
    intro k
    induction k with
    | zero => intro l hl; have : l = [] := List.eq_nil_of_length_eq_zero hl; subst this; simp [valD]
    | succ k ih =>
      intro l hl
      rcases List.eq_nil_or_concat l with rfl | ⟨t, c, rfl⟩
      · simp at hl
      · rw [List.concat_eq_append] at *
        have := ih t (by simpa using hl)
        rw [valD_app, Nat.pow_succ]
        have := c.toNat_lt
        omega
  exact key _ l rfl
theorem valD_digF : ∀ (f n : Nat), n < 256 ^ f → valD (digF f n) = n
  | 0, n, h => by simp [valD, digF]; simp at h; omega
  | f + 1, n, h => by
    unfold digF
    split
    · rename_i hn; simp [valD, hn]
    · rw [valD_app, valD_digF f (n / 256) (by rw [Nat.pow_succ] at h; omega)]
      simp only [UInt8.toNat_ofNat']
      omega
theorem valD_digs (n : Nat) (h : n < 256 ^ 8) : valD (digs n) = n := valD_digF 8 n h
/-- The digit at place i of m. -/
theorem digF_get : ∀ (f n i : Nat) (hi : i < (digF f n).length), (digF f n)[i] = UInt8.ofNat (n / 256 ^ ((digF f n).length - 1 - i))
  | 0, n, i, hi => by simp [digF] at hi
  | f + 1, n, i, hi => by
    by_cases hn : n = 0
    · subst hn; simp [digF_zero] at hi
    · have e : digF (f + 1) n = digF f (n / 256) ++ [UInt8.ofNat n] := by rw [digF, if_neg hn]
      have hl : (digF (f + 1) n).length = (digF f (n / 256)).length + 1 := by rw [e]; simp
      rw [List.getElem_of_eq e]
      rcases Nat.lt_or_ge i (digF f (n / 256)).length with hlt | hge
      · rw [List.getElem_append_left hlt, digF_get f (n / 256) i hlt, hl]
        congr 1
        rw [Nat.div_div_eq_div_mul, ← Nat.pow_succ']
        congr 2
        omega
      · have : i = (digF f (n / 256)).length := by omega
        subst this
        rw [List.getElem_append_right (Nat.le_refl _), hl]
        simp
theorem digs_len (n : Nat) (h : n ≤ 9007199254740991) : (digs n).length ≤ 7 := digF_len_up 8 n 7 (by omega)
/-- No digit nought ahead. -/
theorem digF_head : ∀ (f n : Nat), n < 256 ^ f → n ≠ 0 → (digF f n).head? ≠ some 0
  | 0, n, h, hn => by simp at h; omega
  | f + 1, n, h, hn => by
    unfold digF
    rw [if_neg hn]
    by_cases h0 : n / 256 = 0
    · rw [h0, digF_zero]
      simp only [List.nil_append, List.head?_cons, ne_eq, Option.some.injEq]
      intro e
      have := congrArg UInt8.toNat e
      simp only [UInt8.toNat_ofNat'] at this
      have h1 : (0 : UInt8).toNat = 0 := rfl
      omega
    · have ih := digF_head f (n / 256) (by rw [Nat.pow_succ] at h; omega) h0
      cases hd : digF f (n / 256) with
      | nil =>
        have := valD_digF f (n / 256) (by rw [Nat.pow_succ] at h; omega)
        rw [hd] at this
        simp [valD] at this
        omega
      | cons a t => rw [hd] at ih; simpa using ih
/-- Digits without a nought ahead are the digits of what they say. -/
theorem digF_valD : ∀ (f : Nat) (l : List UInt8), l.length ≤ f → l.head? ≠ some 0 → digF f (valD l) = l := by
  intro f
  induction f with
  | zero =>
    intro l hl _
    have : l = [] := List.eq_nil_of_length_eq_zero (by omega)
    subst this; rfl
  | succ f ih =>
    intro l hl hh
    rcases List.eq_nil_or_concat l with rfl | ⟨t, c, rfl⟩
    · simp [valD, digF]
    · rw [List.concat_eq_append] at *
      rw [valD_app]
      have hc := c.toNat_lt
      have hn : valD t * 256 + c.toNat ≠ 0 := by
        intro h0
        have hv : valD t = 0 := by omega
        have hc0 : c = 0 := by
          have : c.toNat = 0 := by omega
          exact UInt8.toNat_inj.1 (by simpa using this)
        cases t with
        | nil => simp [hc0] at hh
        | cons a s =>
          have ha : a ≠ 0 := by simpa using hh
          have : 0 < valD (a :: s) := by
            have key : ∀ (s : List UInt8) (x : Nat), 0 < x → 0 < s.foldl (fun a c => a * 256 + c.toNat) x := by
              intro s
              induction s with
              | nil => intro x hx; simpa using hx
              | cons b u ih2 => intro x hx; exact ih2 (x * 256 + b.toNat) (by omega)
            have hat : 0 < a.toNat := by
              rcases Nat.eq_zero_or_pos a.toNat with h | h
              · exact absurd (UInt8.toNat_inj.1 (by simpa using h)) ha
              · exact h
            simp only [valD, List.foldl_cons]
            exact key s _ (by omega)
          omega
      unfold digF
      rw [if_neg hn]
      have h1 : (valD t * 256 + c.toNat) / 256 = valD t := by omega
      rw [h1, ih t (by simp at hl; omega) (by cases t with
        | nil => simp
        | cons a s => simpa using hh)]
      congr 2
      apply UInt8.toNat_inj.1
      simp only [UInt8.toNat_ofNat']
      omega
end Go.Eng

namespace Go.Eng
theorem u8Of_nat (k : Nat) : u8Of (k : Int) = UInt8.ofNat k := by
  unfold u8Of
  apply UInt8.toNat_inj.1
  simp only [UInt8.toNat_ofNat']
  omega
theorem u8Of_u8 (b : UInt8) : u8Of (b.toNat : Int) = b := by rw [u8Of_nat]; simp
theorem shr256 (N k : Nat) (e : Int) (he : e = 8 * (k : Int)) (hk : k ≤ 8) : (N : Int).fdiv (2 ^ min e.toNat IntKind.i64.bits) = ((N / 256 ^ k : Nat) : Int) := by
  have h1 : min e.toNat IntKind.i64.bits = 8 * k := by simp only [IntKind.bits]; omega
  have h2 : ((2 : Int) ^ (8 * k)) = ((256 ^ k : Nat) : Int) := by rw [pow256]; simp
  rw [h1, h2]
  rw [Int.fdiv_eq_ediv_of_nonneg _ (Int.natCast_nonneg _)]
  simp
theorem shl8 (a : Nat) (h : a < 36028797018963968) : IntKind.i64.wrap ((a : Int) * 2 ^ min (8 : Int).toNat IntKind.i64.bits) = ((a * 256 : Nat) : Int) := by
  have h1 : min (8 : Int).toNat IntKind.i64.bits = 8 := rfl
  rw [h1, w64 (by omega) (by omega)]
  omega
theorem or256 (a c : Nat) (hc : c < 256) (ha : a * 256 + c < 9223372036854775808) : bitsV .or .i64 ((a * 256 : Nat) : Int) (c : Int) = ((a * 256 + c : Nat) : Int) := by
  have e : ∀ k : Nat, k < 9223372036854775808 → (BitVec.ofInt 64 (k : Int)).toNat = k := by
    intro k hk
    rw [BitVec.ofInt_natCast, BitVec.toNat_ofNat]
    exact Nat.mod_eq_of_lt (by omega)
  have e2 : a * 256 ||| c = a * 256 + c := by
    have := Nat.shiftLeft_add_eq_or_of_lt (show c < 2 ^ 8 by omega) a
    rw [Nat.shiftLeft_eq] at this
    exact this.symm
  have key : ∀ m : Nat, m = 64 → ((BitVec.ofInt m ((a * 256 : Nat) : Int)) ||| (BitVec.ofInt m (c : Int))).toNat = a * 256 + c := by
    rintro m rfl
    have h1 := e (a * 256) (Nat.lt_of_le_of_lt (Nat.le_add_right _ c) ha)
    have h2 := e c (Nat.lt_of_le_of_lt (Nat.le_add_left c _) ha)
    rw [BitVec.toNat_or, h1, h2, e2]
  unfold bitsV
  simp only []
  rw [key IntKind.i64.bits rfl, w64 (by omega) (by omega)]
theorem digs_lt (N m : Nat) (h : N ≤ 9007199254740991) (hm : m ≤ 7) : 0 < N / 256 ^ m ↔ m < (digs N).length := by
  have hp : 0 < 256 ^ m := Nat.pow_pos (by omega)
  constructor
  · intro h0
    have h1 : 256 ^ m ≤ N := by
      rcases Nat.lt_or_ge N (256 ^ m) with hl | hg
      · rw [Nat.div_eq_of_lt hl] at h0; omega
      · exact hg
    rcases digF_len 8 N m (by omega) h1 with hx | hx
    · exact hx
    · have := digs_len N h; unfold digs at this; omega
  · intro h0
    rcases Nat.lt_or_ge N (256 ^ m) with hl | hg
    · have := digF_len_up 8 N m hl; unfold digs at h0; omega
    · exact Nat.div_pos hg hp
theorem digs_succ (N i : Nat) (hi : i < (digs N).length) : UInt8.ofNat (digs N).length :: (digs N).take (i + 1) = (UInt8.ofNat (digs N).length :: (digs N).take i) ++ [UInt8.ofNat (N / 256 ^ ((digs N).length - 1 - i))] := by
  have := digF_get 8 N i hi
  rw [← List.take_append_getElem hi, List.cons_append]
  congr 3
theorem valD_take (l : List UInt8) (k : Nat) (h : k < l.length) : valD (l.take (k + 1)) = valD (l.take k) * 256 + l[k].toNat := by
  rw [← List.take_append_getElem h, valD_app]
theorem valD_take_lt (l : List UInt8) (k m : Nat) (h : k ≤ m) : valD (l.take k) < 256 ^ m := by
  have h1 := valD_lt (l.take k)
  have h2 : (l.take k).length ≤ m := by rw [List.length_take]; omega
  exact Nat.lt_of_lt_of_le h1 (Nat.pow_le_pow_right (by omega) h2)
theorem numL_len (N : Nat) (h : N ≤ 9007199254740991) : (numL N).length ≤ 8 := by have := digs_len N h; simp [numL]; omega
end Go.Eng

namespace Go.Eng
theorem takeS_lim (b : List UInt8) : 0 ≤ (takeS b).1 ∧ (takeS b).1 ≤ 9007199254740991 ∧ 0 ≤ (takeS b).2.2 ∧ (takeS b).2.2 ≤ 9 := by
  cases b with
  | nil => simp [takeS]
  | cons m t =>
    simp only [takeS]
    split
    · simp
    · split
      · simp
      · split
        · simp
        · split
          · simp
          · simp; omega
end Go.Eng

namespace Go.Eng
/-! ### Laws of bin, plain -/
theorem u8_len (N : Nat) (h : N ≤ 9007199254740991) : (UInt8.ofNat (digs N).length).toNat = (digs N).length := by
  have := digs_len N h
  simp only [UInt8.toNat_ofNat']
  omega
theorem digs_headD (N : Nat) (h : N ≤ 9007199254740991) (hp : 0 < (digs N).length) (t : List UInt8) : (digs N ++ t).headD 1 ≠ 0 := by
  have h0 : N ≠ 0 := by rintro rfl; simp [digs, digF_zero] at hp
  have hh := digF_head 8 N (by omega) h0
  unfold digs at hp ⊢
  cases hd : digF 8 N with
  | nil => rw [hd] at hp; simp at hp
  | cons a s => rw [hd] at hh; simpa using hh
/-- What was written is taken off. -/
theorem takeS_num (N : Nat) (h : N ≤ 9007199254740991) (t : List UInt8) : takeS (numL N ++ t) = ((N : Int), t, 0) := by
  have h7 := digs_len N h
  have hu := u8_len N h
  show takeS (UInt8.ofNat (digs N).length :: (digs N ++ t)) = _
  simp only [takeS, hu]
  rw [if_neg (by omega), if_neg (by simp), if_neg (fun e => digs_headD N h e.1 t e.2)]
  have e1 : (digs N ++ t).take (digs N).length = digs N := List.take_left
  have e2 : (digs N ++ t).drop (digs N).length = t := List.drop_left
  rw [e1, e2, valD_digs N (by omega), if_neg (by omega)]
/-- What is taken off was written so. -/
theorem takeS_back (b : List UInt8) (h : (takeS b).2.2 = 0) : b = numL (takeS b).1.toNat ++ (takeS b).2.1 ∧ 0 ≤ (takeS b).1 ∧ (takeS b).1 ≤ 9007199254740991 := by
  refine ⟨?_, (takeS_lim b).1, (takeS_lim b).2.1⟩
  cases b with
  | nil => simp [takeS] at h
  | cons m t =>
    simp only [takeS] at h ⊢
    split at h
    · simp at h
    · rename_i h7
      rw [if_neg h7]
      split at h
      · simp at h
      · rename_i hl
        rw [if_neg hl]
        split at h
        · simp at h
        · rename_i h0
          rw [if_neg h0]
          split at h
          · simp at h
          · rename_i hmx
            rw [if_neg hmx]
            simp only [Int.toNat_natCast]
            have hlen : (t.take m.toNat).length = m.toNat := by rw [List.length_take]; omega
            have hd : digs (valD (t.take m.toNat)) = t.take m.toNat := by
              refine digF_valD 8 _ (by omega) ?_
              intro e
              cases hm : m.toNat with
              | zero => rw [hm] at e; simp at e
              | succ k =>
                rw [hm] at e
                cases t with
                | nil => simp at e
                | cons y s => simp at e; exact h0 ⟨by omega, by simpa using e⟩
            simp only [numL, hd, hlen, List.cons_append, List.take_append_drop]
            simp
theorem takeS_err (b : List UInt8) (h : (takeS b).2.2 ≠ 0) : (takeS b).1 = 0 ∧ (takeS b).2.1 = [] := by
  cases b with
  | nil => simp [takeS]
  | cons m t =>
    simp only [takeS] at h ⊢
    split
    · simp
    · rename_i h7
      rw [if_neg h7] at h
      split
      · simp
      · rename_i hl
        rw [if_neg hl] at h
        split
        · simp
        · rename_i h0
          rw [if_neg h0] at h
          split
          · simp
          · rename_i hmx
            rw [if_neg hmx] at h
            simp at h
theorem takeS_short (N : Nat) (h : N ≤ 9007199254740991) (j : Nat) (hj : j < (numL N).length) : takeS ((numL N).take j) = (0, [], 3) := by
  have h7 := digs_len N h
  have hu := u8_len N h
  cases j with
  | zero => rfl
  | succ j =>
    simp only [numL, List.length_cons] at hj
    simp only [numL, List.take_succ_cons, takeS, hu]
    rw [if_neg (by omega), if_pos (by rw [List.length_take]; omega)]
theorem numL_inj {N M : Nat} (hN : N ≤ 9007199254740991) (hM : M ≤ 9007199254740991) (h : digs N = digs M) : N = M := by
  rw [← valD_digs N (by omega), ← valD_digs M (by omega), h]
theorem num_prefix {N M : Nat} (hN : N ≤ 9007199254740991) (hM : M ≤ 9007199254740991) (k : Nat) (hk : k = min (numL N).length (numL M).length) : (numL N).take k = (numL M).take k ↔ N = M := by
  constructor
  · intro h
    have h1 : (numL N)[0]? = (numL M)[0]? := by
      have := congrArg (fun l : List UInt8 => l[0]?) h
      simp only [numL, List.length_cons] at hk
      rw [List.getElem?_take, List.getElem?_take, if_pos (by omega), if_pos (by omega)] at this
      exact this
    simp only [numL, List.getElem?_cons_zero, Option.some.injEq] at h1
    have h2 : (digs N).length = (digs M).length := by
      have := congrArg UInt8.toNat h1
      rwa [u8_len N hN, u8_len M hM] at this
    have h3 : (numL N).length = (numL M).length := by simp [numL, h2]
    rw [hk, ← h3, Nat.min_self, List.take_length, h3, List.take_length] at h
    simp only [numL, List.cons.injEq] at h
    exact numL_inj hN hM h.2
  · rintro rfl; rfl
theorem valD_mono : ∀ (s1 s2 : List UInt8) (x y : Nat), s1.length = s2.length → x < y → s1.foldl (fun a c => a * 256 + c.toNat) x < s2.foldl (fun a c => a * 256 + c.toNat) y
  | [], [], x, y, _, h => by simpa using h
  | a :: s1, b :: s2, x, y, hl, h => by
    have ha := a.toNat_lt
    have hb := b.toNat_lt
    simp only [List.foldl_cons]
    exact valD_mono s1 s2 _ _ (by simpa using hl) (by omega)
  | [], _ :: _, _, _, hl, _ => by simp at hl
  | _ :: _, [], _, _, hl, _ => by simp at hl
theorem valD_first (p s1 s2 : List UInt8) (a b : UInt8) (hl : s1.length = s2.length) (h : a.toNat < b.toNat) : valD (p ++ a :: s1) < valD (p ++ b :: s2) := by
  simp only [valD, List.foldl_append, List.foldl_cons]
  exact valD_mono s1 s2 _ _ hl (by omega)
theorem digs_mono {N M : Nat} (hN : N ≤ 9007199254740991) (hM : M ≤ 9007199254740991) (h : (digs N).length < (digs M).length) : N < M := by
  rcases Nat.lt_or_ge N M with h1 | h1
  · exact h1
  · have h2 := valD_lt (digs N)
    rw [valD_digs N (by omega)] at h2
    have h3 := digF_len_up 8 M (digs N).length (by omega)
    unfold digs at *
    omega
/-- The first byte that is not the same tells which number is less. -/
theorem num_order {N M : Nat} (hN : N ≤ 9007199254740991) (hM : M ≤ 9007199254740991) (i : Nat) (h1 : i < (numL N).length) (h2 : i < (numL M).length) (he : (numL N).take i = (numL M).take i) (hne : (numL N)[i] ≠ (numL M)[i]) :
    ((numL N)[i].toNat < (numL M)[i].toNat ↔ N < M) := by
  have key : ∀ {N M : Nat}, N ≤ 9007199254740991 → M ≤ 9007199254740991 → ∀ (h1 : i < (numL N).length) (h2 : i < (numL M).length), (numL N).take i = (numL M).take i → (numL N)[i].toNat < (numL M)[i].toNat → N < M := by
    intro N M hN hM h1 h2 he hlt
    cases i with
    | zero =>
      simp only [numL, List.getElem_cons_zero, u8_len N hN, u8_len M hM] at hlt
      exact digs_mono hN hM hlt
    | succ i =>
      simp only [numL, List.take_succ_cons, List.cons.injEq, List.length_cons, List.getElem_cons_succ] at he hlt h1 h2
      have h3 : (digs N).length = (digs M).length := by
        have := congrArg UInt8.toNat he.1
        rwa [u8_len N hN, u8_len M hM] at this
      have e1 : digs N = (digs N).take i ++ (digs N)[i]'(by omega) :: (digs N).drop (i + 1) := by rw [List.getElem_cons_drop, List.take_append_drop]
      have e2 : digs M = (digs N).take i ++ (digs M)[i]'(by omega) :: (digs M).drop (i + 1) := by rw [he.2, List.getElem_cons_drop, List.take_append_drop]
      have := valD_first ((digs N).take i) ((digs N).drop (i + 1)) ((digs M).drop (i + 1)) _ _ (by simp [h3]) hlt
      rw [← e1, ← e2, valD_digs N (by omega), valD_digs M (by omega)] at this
      exact this
  constructor
  · exact key hN hM h1 h2 he
  · intro hlt
    rcases Nat.lt_or_ge (numL N)[i].toNat (numL M)[i].toNat with h | h
    · exact h
    · have h3 : (numL M)[i].toNat < (numL N)[i].toNat := by
        rcases Nat.lt_or_eq_of_le h with h | h
        · exact h
        · exact absurd (UInt8.toNat_inj.1 h.symm) hne
      have := key hM hN h2 h1 he.symm h3
      omega
theorem takeStr_str (s t : List UInt8) (most : Int) (hs : s.length ≤ 65536) : takeStrS (numL s.length ++ s ++ t) most = if most < 0 then ([], [], 2) else if most < (s.length : Int) then ([], [], 5) else (s, t, 0) := by
  rw [List.append_assoc]
  have e := takeS_num s.length (by omega) (s ++ t)
  simp only [takeStrS, e]
  split
  · rfl
  · rw [if_neg (by simp)]
    split
    · rw [if_pos (by omega)]
    · rw [if_neg (by omega)]
      simp only [fixS]
      rw [if_neg (by omega), if_neg (by simp; omega)]
      simp
theorem takeStr_err (b : List UInt8) (most : Int) (h : (takeStrS b most).2.2 ≠ 0) : (takeStrS b most).1 = [] ∧ (takeStrS b most).2.1 = [] := by
  unfold takeStrS at h ⊢
  split
  · simp
  · rename_i h1
    rw [if_neg h1] at h
    split
    · simp
    · rename_i h2
      rw [if_neg h2] at h
      split
      · simp
      · rename_i h3
        rw [if_neg h3] at h
        unfold fixS at h ⊢
        split
        · simp
        · rename_i h4
          rw [if_neg h4] at h
          split
          · simp
          · rename_i h5
            rw [if_neg h5] at h
            simp at h
theorem takeStr_back (b : List UInt8) (most : Int) (h : (takeStrS b most).2.2 = 0) :
    b = numL (takeStrS b most).1.length ++ (takeStrS b most).1 ++ (takeStrS b most).2.1 ∧ ((takeStrS b most).1.length : Int) ≤ most ∧ (takeStrS b most).1.length ≤ 65536 := by
  unfold takeStrS at h ⊢
  split at h
  · simp at h
  · rename_i h1
    rw [if_neg h1]
    split at h
    · rename_i h2; exact absurd h h2
    · rename_i h2
      rw [if_neg h2]
      split at h
      · simp at h
      · rename_i h3
        rw [if_neg h3]
        have h2' : (takeS b).2.2 = 0 := Decidable.byContradiction h2
        obtain ⟨hb, h0, hmx⟩ := takeS_back b h2'
        unfold fixS at h ⊢
        split at h
        · simp at h
        · rename_i h4
          rw [if_neg h4]
          split at h
          · simp at h
          · rename_i h5
            rw [if_neg h5]
            have hl : ((takeS b).2.1.take (takeS b).1.toNat).length = (takeS b).1.toNat := by rw [List.length_take]; omega
            simp only [hl]
            refine ⟨?_, by omega, by omega⟩
            rw [List.append_assoc, List.take_append_drop]
            exact hb
theorem takeStr_lim (b : List UInt8) (most : Int) : 0 ≤ (takeStrS b most).2.2 ∧ (takeStrS b most).2.2 ≤ 9 := by
  have := takeS_lim b
  unfold takeStrS
  split
  · simp
  · split
    · exact this.2.2
    · split
      · simp
      · unfold fixS
        split
        · simp
        · split
          · simp
          · simp
end Go.Eng
