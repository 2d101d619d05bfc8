/- Sets of small numbers as bits. Program-independent. -/
import Derived.Test.YtnlpibfdobinoaaOps
import Derived.Test.YtnlpibfdobinoaaLine
namespace Go.Eng
open Go.RowKit
theorem wrapN {x : Nat} (h : x < 9223372036854775808) : IntKind.i64.wrap (x : Int) = (x : Int) := w64 (by omega) (by omega)
theorem ofIntN (x : Nat) : BitVec.ofInt 64 (x : Int) = BitVec.ofNat 64 x := by
  apply BitVec.eq_of_toNat_eq
  simp [BitVec.toNat_ofInt]
theorem orN {x y : Nat} (hx : x < 9223372036854775808) (hy : y < 9223372036854775808) : bitsV .or .i64 (x : Int) (y : Int) = ((x ||| y : Nat) : Int) := by
  have hlt : x ||| y < 2 ^ 63 := Nat.or_lt_two_pow (by omega) (by omega)
  have e : (BitVec.ofInt 64 (x : Int) ||| BitVec.ofInt 64 (y : Int)).toNat = x ||| y := by
    rw [ofIntN, ofIntN, BitVec.toNat_or, BitVec.toNat_ofNat, BitVec.toNat_ofNat, Nat.mod_eq_of_lt (by omega), Nat.mod_eq_of_lt (by omega)]
  show IntKind.i64.wrap ((BitVec.ofInt 64 (x : Int) ||| BitVec.ofInt 64 (y : Int)).toNat : Int) = _
  rw [e]
  exact wrapN (by omega)
theorem andN {x y : Nat} (hx : x < 9223372036854775808) (hy : y < 9223372036854775808) : bitsV .and .i64 (x : Int) (y : Int) = ((x &&& y : Nat) : Int) := by
  have hlt : x &&& y < 2 ^ 63 := Nat.and_lt_two_pow x (by omega)
  have e : (BitVec.ofInt 64 (x : Int) &&& BitVec.ofInt 64 (y : Int)).toNat = x &&& y := by
    rw [ofIntN, ofIntN, BitVec.toNat_and, BitVec.toNat_ofNat, BitVec.toNat_ofNat, Nat.mod_eq_of_lt (by omega), Nat.mod_eq_of_lt (by omega)]
  show IntKind.i64.wrap ((BitVec.ofInt 64 (x : Int) &&& BitVec.ofInt 64 (y : Int)).toNat : Int) = _
  rw [e]
  exact wrapN (by omega)
/-- x without the bits of y. -/
def subN (x y : Nat) : Nat := (BitVec.ofNat 64 x &&& ~~~ BitVec.ofNat 64 y).toNat
theorem andNotN {x y : Nat} (hx : x < 9223372036854775808) : bitsV .andNot .i64 (x : Int) (y : Int) = (subN x y : Int) := by
  have e : (BitVec.ofInt 64 (x : Int) &&& ~~~ BitVec.ofInt 64 (y : Int)).toNat = subN x y := by rw [ofIntN, ofIntN]; rfl
  show IntKind.i64.wrap ((BitVec.ofInt 64 (x : Int) &&& ~~~ BitVec.ofInt 64 (y : Int)).toNat : Int) = _
  rw [e]
  refine wrapN ?_
  unfold subN
  rw [BitVec.toNat_and]
  have : (BitVec.ofNat 64 x).toNat < 2 ^ 63 := by rw [BitVec.toNat_ofNat, Nat.mod_eq_of_lt (by omega)]; omega
  have := Nat.and_lt_two_pow (~~~ BitVec.ofNat 64 y).toNat this
  rw [Nat.and_comm] at this
  omega
theorem subN_zero {x y : Nat} (hx : x < 9223372036854775808) (hy : y < 9223372036854775808) : subN x y = 0 ↔ ∀ k, x.testBit k = true → y.testBit k = true := by
  have hb : ∀ k, (subN x y).testBit k = (x.testBit k && !y.testBit k) := by
    intro k
    unfold subN
    rw [← BitVec.getLsbD, BitVec.getLsbD_and, BitVec.getLsbD_not, BitVec.getLsbD_ofNat, BitVec.getLsbD_ofNat]
    by_cases h : k < 64
    · simp [h]
    · have : x.testBit k = false := Nat.testBit_lt_two_pow (Nat.lt_of_lt_of_le (by omega : x < 2 ^ 63) (Nat.pow_le_pow_right (by omega) (by omega)))
      simp [h, this]
  constructor
  · intro h k hk
    have := hb k
    rw [h, Nat.zero_testBit, hk] at this
    simpa using this.symm
  · intro h
    apply Nat.eq_of_testBit_eq
    intro k
    rw [hb, Nat.zero_testBit]
    cases hk : x.testBit k
    · rfl
    · rw [h k hk]; rfl
theorem shlN {k : Nat} (hk : k < 63) : IntKind.i64.wrap (1 * 2 ^ min (k : Int).toNat IntKind.i64.bits) = ((1 <<< k : Nat) : Int) := by
  have hb : IntKind.i64.bits = 64 := rfl
  have e : min (k : Int).toNat IntKind.i64.bits = k := by rw [hb]; simp; omega
  rw [e, Nat.shiftLeft_eq, Nat.one_mul, Int.one_mul]
  have : (2 : Nat) ^ k ≤ 2 ^ 62 := Nat.pow_le_pow_right (by omega) (by omega)
  have h2 : ((2 : Int) ^ k) = ((2 ^ k : Nat) : Int) := by simp
  rw [h2]
  exact wrapN (by omega)
theorem shrN (s k : Nat) (hk : k < 63) : (s : Int).fdiv (2 ^ min (k : Int).toNat IntKind.i64.bits) = ((s / 2 ^ k : Nat) : Int) := by
  have hb : IntKind.i64.bits = 64 := rfl
  have e : min (k : Int).toNat IntKind.i64.bits = k := by rw [hb]; simp; omega
  have h2 : ((2 : Int) ^ k) = ((2 ^ k : Nat) : Int) := by simp
  rw [e, h2, Int.fdiv_eq_ediv_of_nonneg _ (Int.natCast_nonneg _)]
  rfl
theorem bit1 (s k : Nat) : ((s / 2 ^ k) &&& 1) = (if s.testBit k then 1 else 0) := by
  rw [Nat.and_one_is_mod, Nat.testBit_eq_decide_div_mod_eq]
  by_cases h : s / 2 ^ k % 2 = 1
  · simp [h]
  · have : s / 2 ^ k % 2 = 0 := by omega
    simp [this]
theorem add_or {s i : Nat} (h : s.testBit i = false) : s + 1 <<< i = s ||| 1 <<< i := by
  rw [Nat.shiftLeft_eq, Nat.one_mul]
  have hp : 0 < 2 ^ i := Nat.two_pow_pos i
  have h1 : s / 2 ^ i % 2 = 0 := by
    rw [Nat.testBit_eq_decide_div_mod_eq, decide_eq_false_iff_not] at h
    omega
  have hr : s % 2 ^ i < 2 ^ i := Nat.mod_lt _ hp
  have e1 : 2 ^ i * (s / 2 ^ i) + s % 2 ^ i = s := Nat.div_add_mod s (2 ^ i)
  obtain ⟨q, hq⟩ : ∃ q, s / 2 ^ i = 2 * q := ⟨s / 2 ^ i / 2, by omega⟩
  have e2 : s = 2 ^ i * (2 * q) ||| s % 2 ^ i := by
    have := Nat.two_pow_add_eq_or_of_lt hr (2 * q)
    rw [← this, ← hq, e1]
  have e3 : s + 2 ^ i = 2 ^ i * (2 * q + 1) + s % 2 ^ i := by rw [Nat.mul_add, Nat.mul_one, ← hq]; omega
  have e4 : 2 ^ i * (2 * q + 1) = 2 ^ i * (2 * q) ||| 2 ^ i := by
    have h5 : (2 * q + 1 : Nat) = 2 * q ||| 1 := by
      have := Nat.two_pow_add_eq_or_of_lt (i := 1) (b := 1) (by decide) q
      simpa using this
    have h6 : 2 ^ i * (2 * q) ||| 2 ^ i = 2 ^ i * (2 * q ||| 2 ^ 0) := by
      apply Nat.eq_of_testBit_eq
      intro j
      rw [Nat.testBit_or, Nat.testBit_two_pow_mul, Nat.testBit_two_pow_mul, Nat.testBit_or, Nat.testBit_two_pow, Nat.testBit_two_pow]
      by_cases hj : i ≤ j
      · simp only [hj, decide_true, Bool.true_and]
        congr 1
        exact decide_eq_decide.2 (by omega)
      · have : ¬ i = j := by omega
        simp [hj, this]
    rw [h6, h5]
  rw [e3, Nat.two_pow_add_eq_or_of_lt hr, e4]
  rw [Nat.or_assoc, Nat.or_comm (2 ^ i), ← Nat.or_assoc, ← e2]
end Go.Eng

namespace Go.Eng
/-- An order: no operation twice, all of the history. -/
def POK (n : Nat) (p : List Nat) : Prop := p.Nodup ∧ ∀ i ∈ p, i < n
theorem bitsS_tb {p : List Nat} (h : p.Nodup) (k : Nat) : (bitsS p).testBit k = decide (k ∈ p) := by
  induction p generalizing k with
  | nil => simp [bitsS]
  | cons i r ih =>
    obtain ⟨h1, h2⟩ := List.nodup_cons.1 h
    have hb : (bitsS r).testBit i = false := by rw [ih h2 i]; exact decide_eq_false h1
    rw [bitsS, add_or hb, tb_or, ih h2 k, ← Bool.decide_or]
    exact decide_eq_decide.2 (by simp only [List.mem_cons]; exact or_comm)
theorem bitsS_cnt {n : Nat} {p : List Nat} (h : POK n p) : cntN n (bitsS p) + p.length = n := by
  obtain ⟨hn, hb⟩ := h
  induction p with
  | nil =>
    have : ∀ m, cntN m 0 = m := by
      intro m
      induction m with
      | zero => rfl
      | succ m ih => rw [cntN, ih]; simp
    simp [bitsS, this]
  | cons i r ih =>
    obtain ⟨h1, h2⟩ := List.nodup_cons.1 hn
    have hbit : (bitsS r).testBit i = false := by rw [bitsS_tb h2]; exact decide_eq_false h1
    have hi : i < n := hb i (by simp)
    have := ih h2 (fun j hj => hb j (by simp [hj]))
    have hc := cntN_or (bitsS r) i hbit n
    rw [if_pos hi] at hc
    rw [bitsS, add_or hbit, List.length_cons]
    omega
theorem POK.len {n : Nat} {p : List Nat} (h : POK n p) : p.length ≤ n := by have := bitsS_cnt h; omega
theorem bitsS_snoc {n : Nat} {p : List Nat} {i : Nat} (h : POK n p) (hi : i < n) (hb : (bitsS p).testBit i = false) : POK n (p ++ [i]) ∧ bitsS (p ++ [i]) = bitsS p ||| 1 <<< i := by
  have hni : i ∉ p := by rw [bitsS_tb h.1, decide_eq_false_iff_not] at hb; exact hb
  refine ⟨⟨List.nodup_append.2 ⟨h.1, by simp, fun a ha b hb' => by rw [List.mem_singleton.1 hb']; rintro rfl; exact hni ha⟩, fun j hj => ?_⟩, ?_⟩
  · rcases List.mem_append.1 hj with hj | hj
    · exact h.2 j hj
    · rw [List.mem_singleton.1 hj]; exact hi
  · rw [bitsS_append]
    simp only [bitsS, Nat.zero_add]
    exact add_or hb
end Go.Eng

namespace Go.Eng
theorem and_end {H : List HOp} {s : Nat} : s &&& endN H = endN H ↔ wholeS H s = true := by
  unfold wholeS endN
  rw [allN_iff]
  constructor
  · intro h k hk
    by_cases he : 0 < (hop H k).e
    · have := congrArg (fun x => x.testBit k) h
      simp only [Nat.testBit_and, setN_tb, decide_eq_true hk, decide_eq_true he, Bool.and_true, Bool.true_and] at this
      rw [this, Bool.or_true]
    · simp [he]
  · intro h
    apply Nat.eq_of_testBit_eq
    intro k
    rw [Nat.testBit_and, setN_tb]
    by_cases hk : k < H.length
    · have := h k hk
      by_cases he : 0 < (hop H k).e
      · simp only [decide_eq_true he, Bool.not_true, Bool.false_or] at this
        simp [hk, he, this]
      · simp [he]
    · simp [hk]
theorem bef_sub {H : List HOp} {s i : Nat} (hl : H.length ≤ 14) (hs : s < 9223372036854775808) : subN (setN (ahd H i) H.length) s = 0 ↔ ∀ k, k < H.length → 0 < (hop H k).e → (hop H k).e < (hop H i).b → s.testBit k = true := by
  rw [subN_zero (setN_63 _ (by omega)) hs]
  constructor
  · intro h k hk h1 h2
    exact h k (by rw [setN_tb, decide_eq_true hk, ahd, decide_eq_true ⟨h1, h2⟩]; rfl)
  · intro h k hk
    rw [setN_tb, Bool.and_eq_true, decide_eq_true_eq, ahd, decide_eq_true_eq] at hk
    exact h k hk.1 hk.2.1 hk.2.2
end Go.Eng
