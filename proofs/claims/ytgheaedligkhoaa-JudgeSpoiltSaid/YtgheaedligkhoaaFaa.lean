/- Part 1 of what the proof of JudgeSpoilt stands on: the engine, and facts on the program's tables. -/
import Derived.Test.YtgheaedligkhoaaAab
import Derived.WalkKit
import Derived.Laws.NewBlocks
import Derived.Orders
import Derived.Laws.CopyRow
import Derived.Laws.Tables
import Derived.Maps.Keyed
import Derived.DeepKeys3
import Derived.Laws.IdiomStrings
import Derived.Laws.Strings
import Derived.KernelRfl
import Derived.ProofKit
import Derived.SizedLaws
import Derived.Deep.Slices
import Derived.OpenShut
import Derived.Test.YtgheaedligkhoaaRows
import Derived.Maps.RangeRun
import Derived.Maps.Range
import Derived.Lib.BytesEntry
import Derived.Lib.Bytealg
import Derived.Laws.Externs
namespace Go.Eng
open Go.RowKit
def u8Of (n : Int) : UInt8 := UInt8.ofNat (n % 256).toNat
theorem wrap_u8 (n : Int) : IntKind.u8.wrap n = ((u8Of n).toNat : Int) := by
 have h : IntKind.u8.wrap n = n % 256 := by simp [IntKind.wrap, IntKind.bits, IntKind.signed]
 rw [h, u8Of]
 simp only [UInt8.toNat_ofNat']
 omega
section
variable {P : Program} {n : Nat} {L : List (Nat × Value)} {w w' : World} {Q : Exit → Act → World → Prop} {ops : Array Oper} {rest : List Oper} {ty : TypeId} {pos : String} {af : Array Edge} {d : Nat}
theorem wl_quo {k : IntKind} {x y : Operand} {a b z : Int} {t u : TypeId} (hd : d < n) (hx : ev L x = some (.int k a)) (hy : ev L y = some (.int k b)) (h0 : b ≠ 0) (hz : k.wrap (a.tdiv b) = z) (h : WL P n ops Q rest ((d, .int k z) :: L) w) :
  WL P n ops Q ({ dst := some d, op := .binOp .quo t x y u, type := ty, pos := pos, after := af, guard := none } :: rest) L w :=
 wl_run hd (fun c hc => by simp [execOp, hc.eval hx, hc.eval hy, eqGuard, binOp, Op.intDiv, h0, hz]) h
theorem wl_rem {k : IntKind} {x y : Operand} {a b z : Int} {t u : TypeId} (hd : d < n) (hx : ev L x = some (.int k a)) (hy : ev L y = some (.int k b)) (h0 : b ≠ 0) (hz : a.tmod b = z) (h : WL P n ops Q rest ((d, .int k z) :: L) w) :
  WL P n ops Q ({ dst := some d, op := .binOp .rem t x y u, type := ty, pos := pos, after := af, guard := none } :: rest) L w :=
 wl_run hd (fun c hc => by simp [execOp, hc.eval hx, hc.eval hy, eqGuard, binOp, Op.intDiv, h0, hz]) h
def intB (P : Program) (t : TypeId) (k : IntKind) : Bool := match P.underlying t with | some (.int k') => k' == k | _ => false
theorem intB_out {t : TypeId} {k : IntKind} (h : intB P t k = true) : P.underlying t = some (.int k) := by
 unfold intB at h
 split at h
 ·rename_i k' hk
  rw [hk, beq_iff_eq.1 h]
 ·cases h
theorem wl_conv {k k1 k2 : IntKind} {x : Operand} {a z : Int} {t u : TypeId} (hd : d < n) (ht : intB P t k1 = true) (hu : intB P u k2 = true) (hx : ev L x = some (.int k a)) (hz : k2.wrap a = z) (h : WL P n ops Q rest ((d, .int k2 z) :: L) w) :
  WL P n ops Q ({ dst := some d, op := .convert t u x, type := ty, pos := pos, after := af, guard := none } :: rest) L w :=
 wl_run hd (fun c hc => by simp [execOp, hc.eval hx, convert, run_underlying (intB_out ht), run_underlying (intB_out hu), Conv.intToInt, hz]) h
end
end Go.Eng
namespace Go.Eng
open Go.RowKit Go.Maps
section
variable {P : Program} {n : Nat} {L : List (Nat × Value)} {w0 w w' : World} {M0 Fz : Nat → Prop} {H : List It} {Q : Exit → Act → World → Prop} {ops : Array Oper} {rest : List Oper} {ty : TypeId} {pos : String} {af : Array Edge} {d i : Nat}
theorem HP.outR {α : Type} {r : Rep α} {S Fz : Nat → Prop} (h : HP w0 (fun _ => False) Fz w H) {e c : Nat} {A : Option Addr} {rows : List (List Value)} {l : List α} (hi : H[i]? = some (itR e r.size A l.length c rows.flatten)) (hr : RF r Fz w rows l) (hS : ∀ b, Fz b → S b) :
  OutR r S e w0.heap.size w A c l := by
 refine ⟨rows, h.rowLo hi, hr.1, fun j hj => ?_⟩
 obtain ⟨cs, h1, h2⟩ := hr.2 j hj
 obtain ⟨K, ⟨_, hK⟩, hF, _⟩ := h.focus hi
 exact ⟨cs, h1, r.mono (fun b _ hb => ⟨hS b hb, fun hc hbl => hF b ((hK b).2 ⟨hc, hbl⟩) hb⟩) h2⟩
end
end Go.Eng
namespace Go.Eng
open Go.RowKit
def arB (P : Program) (t n e size : Nat) : Bool := match P.underlying t with
 | some (.array m e') => Nat.beq m n && Nat.beq e' e && (P.info? e).map (·.size) == some size
 | _ => false
theorem arB_out {P : Program} {t n e size : Nat} (h : arB P t n e size = true) : P.underlying t = some (.array n e) ∧ ∃ i, P.info? e = some i ∧ i.size = size := by
 unfold arB at h
 split at h
 ·rename_i m e' hu
  simp only [Bool.and_eq_true, beq_iff_eq] at h
  obtain ⟨⟨h1, h2⟩, h3⟩ := h
  rw [Nat.eq_of_beq_eq_true h1, Nat.eq_of_beq_eq_true h2] at hu
  cases hi : P.info? e with
  | none => rw [hi] at h3; cases h3
  | some i => rw [hi] at h3; exact ⟨hu, i, rfl, by simpa using h3⟩
 ·cases h
section
variable {P : Program} {n : Nat} {L : List (Nat × Value)} {w w' : World} {Q : Exit → Act → World → Prop} {ops : Array Oper} {rest : List Oper} {ty : TypeId} {pos : String} {af : Array Edge} {d : Nat}
theorem wl_idxA {p : Addr} {t e size m : Nat} {x ix : Operand} {k : IntKind} {i : Int} (hd : d < n) (hT : arB P t m e size = true)
  (hx : ev L x = some (.pointer (some p))) (hi : ev L ix = some (.int k i)) (j : Nat) (hj : i = (j : Int)) (hlt : j < m)
  (h : WL P n ops Q rest ((d, .pointer (some (p.add (j * size)))) :: L) w) :
  WL P n ops Q ({ dst := some d, op := .indexAddr t x ix, type := ty, pos := pos, after := af, guard := none } :: rest) L w := by
 obtain ⟨hu, i0, hi0, hs⟩ := arB_out hT
 refine wl_run (v := .pointer (some (p.add (j * size)))) hd (fun ac ha => ?_) h
 subst hj
 simp [execOp, ha.eval hx, ha.eval hi, Instr.indexAt, Instr.sureAddr, asIntOf, run_underlying hu, sizeOf, typeInfo, hi0, hs, hlt]
end
end Go.Eng
namespace Go.Eng
open Go.RowKit Go.ChangeShapes Go.WideShapes Go.ChangeAt
section
variable {H : Type} {enc : TypeId × Value → H} {P : Program} {W : World}
theorem arg_int {base : Nat} {t : TypeId} {v : Value} {d : DataW H} (ht : P.underlying t = some (.int .i64)) (h : ∃ p, Arg enc P W base t v d p) : ∃ n : Int, v = .int .i64 n ∧ -9223372036854775808 ≤ n ∧ n ≤ 9223372036854775807 := by
 obtain ⟨p, h⟩ := h
 obtain ⟨n, rfl, _, _, hw⟩ := open_int ht h.ok h.rd
 refine ⟨n, rfl, ?_⟩
 simp [Lit.wf, IntKind.min, IntKind.max, IntKind.signed, IntKind.bits] at hw
 omega
end
end Go.Eng
namespace Go.Eng
theorem tryF_ex {α : Type} {f : Nat → Option α} : ∀ (m k : Nat) {x : α}, tryF f k m = some x → ∃ i, k ≤ i ∧ i < k + m ∧ f i = some x ∧ ∀ j, k ≤ j → j < i → f j = none
 | 0, k, x, h => by simp [tryF] at h
 | m + 1, k, x, h => by
  rw [tryF] at h
  cases hk : f k with
  | some y =>
   rw [hk] at h
   simp only [Option.some.injEq] at h
   subst h
   exact ⟨k, Nat.le_refl _, by omega, hk, fun j h1 h2 => by omega⟩
  | none =>
   rw [hk] at h
   obtain ⟨i, h1, h2, h3, h4⟩ := tryF_ex m (k + 1) h
   refine ⟨i, by omega, by omega, h3, fun j h5 h6 => ?_⟩
   by_cases e : j = k
   ·rw [e]; exact hk
   ·exact h4 j (by omega) h6
theorem tryF_ne {α : Type} {f : Nat → Option α} {i : Nat} (m k : Nat) (h1 : k ≤ i) (h2 : i < k + m) (h : f i ≠ none) : tryF f k m ≠ none := by
 induction m generalizing k with
 | zero => omega
 | succ m ih =>
  rw [tryF]
  cases hk : f k with
  | some y => simp
  | none =>
   refine ih (k + 1) ?_ (by omega)
   rcases Nat.lt_or_eq_of_le h1 with h | h
   ·omega
   ·subst h; exact absurd hk (by assumption)
theorem tbf (s i : Nat) : (s ||| 1 <<< i).testBit = fun k => s.testBit k || decide (k = i) := funext fun k => tb_or s i k
section
variable (H : List HOp) (first : List UInt8)
theorem G_cases {s : Nat} {last : Int} {q : List Nat} (h : G H first s last = some q) : (wholeS H s = true ∧ q = []) ∨
  (wholeS H s = false ∧ ∃ i p, q = i :: p ∧ i < H.length ∧ allowS H first s last i = true ∧ G H first (s ||| 1 <<< i) (nextL H last i) = some p) := by
 rw [G_eq] at h
 split at h
 ·rename_i hw
  simp only [Option.some.injEq] at h
  exact .inl ⟨hw, h.symm⟩
 ·rename_i hw
  obtain ⟨i, _, h2, h3, _⟩ := tryF_ex _ _ h
  split at h3
  ·rename_i ha
   cases hg : G H first (s ||| 1 <<< i) (nextL H last i) with
   | none => rw [hg] at h3; cases h3
   | some p =>
    rw [hg] at h3
    simp only [Option.map_some, Option.some.injEq] at h3
    exact .inr ⟨by simpa using hw, i, p, h3.symm, by omega, ha, hg⟩
  ·cases h3
def explR : (Nat → Bool) → List UInt8 → List Int → Bool
 | s, _, [] => allN H.length fun k => !decide (0 < (hop H k).e) || s k
 | s, v, i :: r => decide (0 ≤ i ∧ i < H.length) && !s i.toNat && (allN H.length fun k => s k || !ahd H i.toNat k) && ((hop H i.toNat).wr || decide ((hop H i.toNat).val = v)) &&
   explR (fun k => s k || decide (k = i.toNat)) (if (hop H i.toNat).wr then (hop H i.toNat).val else v) r
theorem value_next (last : Int) (i : Nat) : valueOf H first (nextL H last i) = if (hop H i).wr then (hop H i).val else valueOf H first last := by
 unfold nextL
 split
 ·rw [valueOf, if_pos (by omega)]; simp
 ·rfl
theorem explR_congr {s t : Nat → Bool} (h : ∀ k, s k = t k) (v : List UInt8) (l : List Int) : explR H s v l = explR H t v l := by
 rw [show s = t from funext h]
theorem G_explains : ∀ (q : List Nat) (s : Nat) (last : Int), G H first s last = some q → explR H s.testBit (valueOf H first last) (q.map fun i : Nat => (i : Int)) = true
 | q, s, last, h => by
  rcases G_cases H first h with ⟨hw, rfl⟩ | ⟨_, i, p, rfl, hi, ha, hg⟩
  ·simpa [explR, wholeS] using hw
  ·have ih := G_explains p _ _ hg
   rw [value_next] at ih
   rw [List.map_cons, explR]
   simp only [Int.toNat_natCast]
   unfold allowS at ha
   simp only [Bool.and_eq_true, Bool.or_eq_true] at ha ⊢
   obtain ⟨⟨h1, h2⟩, h3⟩ := ha
   refine ⟨⟨⟨⟨by simp; omega, h1⟩, ?_⟩, h3⟩, ?_⟩
   ·rw [allN_iff] at h2 ⊢
    intro k hk
    have := h2 k hk
    rwa [Bool.or_comm] at this
   ·rw [← tbf]; exact ih
theorem G_complete : ∀ (q : List Int) (s : Nat) (last : Int), explR H s.testBit (valueOf H first last) q = true → G H first s last ≠ none
 | [], s, last, h => by
  rw [G_whole H first (by simpa [explR, wholeS] using h)]; simp
 | i :: r, s, last, h => by
  by_cases hw : wholeS H s = true
  ·rw [G_whole H first hw]; simp
  ·rw [explR] at h
   simp only [Bool.and_eq_true, decide_eq_true_eq] at h
   obtain ⟨⟨⟨⟨h1, h2⟩, h3⟩, h4⟩, h5⟩ := h
   obtain ⟨m, rfl⟩ : ∃ m : Nat, i = m := ⟨i.toNat, by omega⟩
   simp only [Int.toNat_natCast] at h2 h3 h4 h5
   have hm : m < H.length := by omega
   have ih := G_complete r (s ||| 1 <<< m) (nextL H last m) (by
    rw [value_next, tbf]; exact h5)
   rw [G_eq, if_neg hw]
   refine tryF_ne (i := m) _ _ (by omega) (by omega) ?_
   have ha : allowS H first s last m = true := by
    unfold allowS
    simp only [Bool.and_eq_true]
    refine ⟨⟨h2, ?_⟩, h4⟩
    rw [allN_iff] at h3 ⊢
    intro k hk
    have := h3 k hk
    rwa [Bool.or_comm] at this
   rw [if_pos ha]
   cases hg : G H first (s ||| 1 <<< m) (nextL H last m) with
   | none => exact absurd hg ih
   | some p => simp
def linB : Bool := (G H first 0 (-1)).isSome
theorem linB_iff : linB H first = true ↔ ∃ q, explR H (fun _ => false) first q = true := by
 have e0 : (0 : Nat).testBit = fun _ => false := by funext k; simp
 have ev : valueOf H first (-1) = first := by simp [valueOf]
 constructor
 ·intro h
  unfold linB at h
  obtain ⟨q, hq⟩ := Option.isSome_iff_exists.1 h
  have := G_explains H first q 0 (-1) hq
  rw [ev, e0] at this
  exact ⟨_, this⟩
 ·rintro ⟨q, hq⟩
  have := G_complete H first q 0 (-1) (by rw [ev, e0]; exact hq)
  unfold linB
  cases hg : G H first 0 (-1)
  ·exact absurd hg this
  ·rfl
end
end Go.Eng
namespace Go.Eng
section
variable (H : List HOp) (first : List UInt8)
def seqOK : List UInt8 → List HOp → Bool
 | _, [] => true
 | v, x :: r => (x.wr || decide (x.val = v)) && seqOK (if x.wr then x.val else v) r
theorem seq_explains : ∀ (suf pre : List HOp) (v : List UInt8), H = pre ++ suf → seqOK v suf = true →
  (∀ i k, i ≤ k → k < H.length → ¬ (0 < (hop H k).e ∧ (hop H k).e < (hop H i).b)) →
  explR H (fun k => decide (k < pre.length)) v ((List.range' pre.length suf.length).map fun i : Nat => (i : Int)) = true
 | [], pre, v, hH, _, _ => by
  rw [List.length_nil, List.range'_zero, List.map_nil, explR, allN_iff]
  intro k hk
  have hl : H.length = pre.length := by rw [hH]; simp
  rw [hl] at hk
  simp [hk]
 | x :: suf, pre, v, hH, hs, ht => by
  have hl : H.length = pre.length + suf.length + 1 := by rw [hH]; simp; omega
  have hx : hop H pre.length = x := by rw [hop_get H (by omega)]; subst hH; simp
  rw [seqOK, Bool.and_eq_true] at hs
  have ih := seq_explains suf (pre ++ [x]) (if x.wr then x.val else v) (by rw [hH]; simp) hs.2 ht
  rw [List.length_cons, List.range'_succ, List.map_cons, explR]
  simp only [Int.toNat_natCast, hx, Bool.and_eq_true, decide_eq_true_eq]
  refine ⟨⟨⟨⟨by omega, by simp⟩, ?_⟩, hs.1⟩, ?_⟩
  ·rw [allN_iff]
   intro k hk
   by_cases h : k < pre.length
   ·simp [h]
   ·have := ht pre.length k (by omega) hk
    have e : ahd H pre.length k = false := by unfold ahd; exact decide_eq_false this
    simp [e]
  ·rw [List.length_append, List.length_singleton] at ih
   refine Eq.trans ?_ ih
   refine explR_congr H (fun k => ?_) _ _
   rw [← Bool.decide_or]
   exact decide_eq_decide.2 (by omega)
theorem seq_lin (hs : seqOK first H = true) (ht : ∀ i k, i ≤ k → k < H.length → ¬ (0 < (hop H k).e ∧ (hop H k).e < (hop H i).b)) : linB H first = true := by
 rw [linB_iff]
 have := seq_explains H H [] first rfl hs ht
 exact ⟨_, by rw [← this]; exact explR_congr H (fun k => by simp) _ _⟩
end
end Go.Eng
namespace Go.Eng
open Go.RowKit
section
variable {P : Program} {n : Nat} {L : List (Nat × Value)} {w0 w w' : World} {M0 Fz : Nat → Prop} {H : List It} {Q : Exit → Act → World → Prop} {ops : Array Oper} {rest : List Oper} {ty : TypeId} {pos : String} {af : Array Edge} {d : Nat}
theorem wl_ixA {t e m g : Nat} {x ix : Operand} {k : IntKind} {i : Int} (hd : d < n) (hT : arB P t m e 1 = true)
  (hx : ev L x = some (.pointer (some ⟨g, 0, none⟩))) (hi : ev L ix = some (.int k i)) (j : Nat) (hj : i = (j : Int)) (hlt : j < m)
  (h : WL P n ops Q rest ((d, .pointer (some ⟨g, j, none⟩)) :: L) w) :
  WL P n ops Q ({ dst := some d, op := .indexAddr t x ix, type := ty, pos := pos, after := af, guard := none } :: rest) L w := by
 refine wl_idxA hd hT hx hi j hj hlt ?_
 have e : (⟨g, 0, none⟩ : Addr).add (j * 1) = ⟨g, j, none⟩ := by rw [Nat.mul_one, add_lit', Nat.zero_add]
 rw [e]; exact h
theorem map_set {α : Type} (f : α → Value) (l : List α) (j : Nat) (a : α) : (l.map f).set j (f a) = (l.set j a).map f := by rw [List.map_set]
end
end Go.Eng
namespace Go.Eng
open Go.RowKit
section
variable {P : Program} {n : Nat} {Q : Exit → Act → World → Prop} {L : List (Nat × Value)} {w : World}
def RlY (iA iB e tA eA eB : Nat) (zs zB xs : List Value) (i : Nat) (T : Nat → Option Value) (v : Value) (w w' : World) : Prop :=
 if i = e then ∃ g, T tA = some (.pointer (some ⟨g, 0, none⟩)) ∧ Chg (fun b => b = g) w w' ∧ Blk w' g eA xs
 else if i = iA then Ext w w' ∧ v = .pointer (some ⟨w.heap.size, 0, none⟩) ∧ Blk w' w.heap.size eA zs
 else if i = iB then Ext w w' ∧ v = .pointer (some ⟨w.heap.size, 0, none⟩) ∧ Blk w' w.heap.size eB zB
 else Ext w w'
def AllSt2 (eA : Nat) (zs : List Value) : List SP → Prop
 | [] => True
 | s :: t => (∀ v w w' g, Chg (fun b => b = g) w w' → Blk w g eA zs → s.p v w → s.p v w') ∧ AllSt2 eA zs t
theorem AllSt2.at_ {eA : Nat} {zs : List Value} : ∀ {Φ : List SP}, AllSt2 eA zs Φ → ∀ (j : Nat) v w w' g, Chg (fun b => b = g) w w' → Blk w g eA zs → (spAt Φ j).p v w → (spAt Φ j).p v w'
 | [], _, _, _, _, _, _, _, _, _ => trivial
 | _ :: _, h, 0, v, w, w', g, hc, hb, hp => h.1 v w w' g hc hb hp
 | _ :: t, h, j + 1, v, w, w', g, hc, hb, hp => AllSt2.at_ (Φ := t) h.2 j v w w' g hc hb hp
theorem wc_drawY {id : Nat} (m iA iB e tA tB eA eB : Nat) (zs zB xs : List Value) {l : List Oper} (Φ : List SP) (hm : P.follows .mixedOrders = true) (hB : drawnB (l.take m) (l.drop m) = true) (hO : okW l.toArray iA iB e tA tB = true) (hem : (decide (e < m) && decide (iA < m) && decide (iB < m)) = true)
  (hS : AllSt2 eA zs Φ)
  (H : AllOps (fun i o => ∀ F w', Ext w w' → Kn l.toArray L (fun i => (spAt Φ i).p) i F w' → (i = e → ∃ g, lk F tA = some (.pointer (some ⟨g, 0, none⟩)) ∧ Blk w' g eA zs) → WL P n l.toArray (QR n F (dstOf l.toArray i) fun v w'' => RlY iA iB e tA eA eB zs zB xs i (lk F) v w' w'' ∧ (spAt Φ i).p v w'') [o] F w') 0 (l.take m))
  (hQ : ∀ F w', Ext w w' → (∀ x v, lk L x = some v → ((List.range (l.take m).length).all fun j => match dstOf l.toArray j with | some d => !Nat.beq d x | none => true) = true → lk F x = some v) →
   (∀ j d, j < (l.take m).length → dstOf l.toArray j = some d → ∃ v, lk F d = some v ∧ (spAt Φ j).p v w') →
   (∃ gA gB, gA ≠ gB ∧ w.heap.size ≤ gA ∧ w.heap.size ≤ gB ∧ lk F tA = some (.pointer (some ⟨gA, 0, none⟩)) ∧ lk F tB = some (.pointer (some ⟨gB, 0, none⟩)) ∧ Blk w' gA eA xs ∧ Blk w' gB eB zB) → WL P n l.toArray Q (l.drop m) F w') :
  WK n ((Code.region id l.toArray true).wp P Q) L w := by
 have e0 : l.take m ++ l.drop m = l := List.take_append_drop m l
 simp only [okW, Bool.and_eq_true, decide_eq_true_eq, beq_iff_eq, List.all_eq_true, List.mem_range, Bool.or_eq_true, Bool.not_eq_true', beq_eq_false_iff_ne, List.contains_iff_mem] at hO hem
 obtain ⟨⟨⟨⟨⟨⟨⟨⟨⟨⟨⟨⟨o1, o2⟩, o3⟩, o4⟩, o5⟩, o6⟩, o7⟩, o8⟩, o9⟩, o10⟩, o11⟩, o12⟩, o13⟩ := hO
 have uA : ∀ i, dstOf l.toArray i = some tA → i = iA := fun i hi => by
  rcases (o13 i (dst_lt hi)).1 with h | h
  ·exact h
  ·exact absurd hi h
 have uB : ∀ i, dstOf l.toArray i = some tB → i = iB := fun i hi => by
  rcases (o13 i (dst_lt hi)).2 with h | h
  ·exact h
  ·exact absurd hi h
 have hml : m ≤ l.length ∨ l.length < m := by omega
 have key := wc_drawV (P := P) (n := n) (id := id) (pre := l.take m) (tl := l.drop m) (Q := Q) (L := L) (w := w) (fun i => (spAt Φ i).p)
  (fun f T w' => Ext w w' ∧ (f e = true → f iA = true ∧ f iB = true) ∧ (f iA = true → ∃ g, T tA = some (.pointer (some ⟨g, 0, none⟩)) ∧ w.heap.size ≤ g ∧ Blk w' g eA (if f e = true then xs else zs)) ∧
   (f iB = true → ∃ g, T tB = some (.pointer (some ⟨g, 0, none⟩)) ∧ w.heap.size ≤ g ∧ Blk w' g eB zB ∧ (f iA = true → T tA ≠ some (.pointer (some ⟨g, 0, none⟩)))))
  (RlY iA iB e tA eA eB zs zB xs) hm hB
 rw [e0] at key
 refine key (fun f T k hf => ?_) (fun i f T T' v w1 w2 hfi hed hI hR hk hd hΦ => ?_) (fun i j v f T u w1 w2 hij hfi _ hed hI hR h => ?_) (fun i o ho f F w' hfi hed hI hK => ?_) (fun f F w' hf hI h2 h3 => ?_)
 ·refine ⟨⟨rfl, rfl, rfl, Nat.le_refl _, fun _ _ _ => rfl⟩, fun h => ?_, fun h => ?_, fun h => ?_⟩
  ·rw [hf e (by simpa using o7)] at h; cases h
  ·rw [hf iA (by simpa using o5)] at h; cases h
  ·rw [hf iB (by simpa using o6)] at h; cases h
 ·obtain ⟨hE, hcl, hA, hBB⟩ := hI
  unfold RlY at hR
  by_cases hie : i = e
  ·subst hie
   rw [if_pos rfl] at hR
   obtain ⟨g, hg, hch, hbx⟩ := hR
   have fA := hed iA o11
   have fB := hed iB o12
   obtain ⟨g', hg', hlo, _⟩ := hA fA
   obtain rfl : g' = g := by rw [hg] at hg'; injection hg' with h; injection h with h; injection h with h; injection h with h; exact h.symm
   obtain ⟨gB, hgB, hloB, hbB, hne⟩ := hBB fB
   refine ⟨hE.step hch (fun b hb hbg => by omega), fun _ => ⟨by simp [o1, fA], by simp [o2, fB]⟩, fun _ => ⟨g', hk tA (by rw [o8]; simp) _ hg, hlo, by simpa using hbx⟩, fun _ => ⟨gB, hk tB (by rw [o8]; simp) _ hgB, hloB, hbB.keepC hch (fun h => hne fA (by rw [h]; exact hg)), fun _ h => hne fA ?_⟩⟩
   rw [hk tA (by rw [o8]; simp) _ hg] at h
   rw [hg]; exact h
  ·rw [if_neg hie] at hR
   by_cases hAB : i = iA ∨ i = iB
   ·rcases hAB with rfl | rfl
    ·rw [if_pos rfl] at hR
     obtain ⟨hX, rfl, hb⟩ := hR
     have fe : f e = false := by
      cases h : f e with
      | false => rfl
      | true => have := (hcl h).1; rw [hfi] at this; cases this
     refine ⟨hE.trans hX, fun h => ?_, fun _ => ⟨_, hd tA o9, hE.size, ?_⟩, fun h => ?_⟩
     ·simp [Ne.symm hie, fe] at h
     ·simp only [Ne.symm hie, if_false, fe]; exact hb
     ·have fB : f iB = true := by simpa [Ne.symm o3] using h
      obtain ⟨gB, hgB, hloB, hbB, _⟩ := hBB fB
      refine ⟨gB, hk tB (by rw [o9]; intro h; injection h with h; exact o4 h) _ hgB, hloB, hbB.keepC hX (fun x => x), fun _ h => ?_⟩
      rw [hd tA o9] at h
      injection h with h; injection h with h; injection h with h; injection h with h
      have := (Array.getElem?_eq_some_iff.1 hbB).1
      omega
    ·rw [if_neg (fun h => o3 h.symm), if_pos rfl] at hR
     obtain ⟨hX, rfl, hb⟩ := hR
     have fe : f e = false := by
      cases h : f e with
      | false => rfl
      | true => have := (hcl h).2; rw [hfi] at this; cases this
     refine ⟨hE.trans hX, fun h => ?_, fun h => ?_, fun _ => ⟨_, hd tB o10, hE.size, hb, fun h => ?_⟩⟩
     ·simp [Ne.symm hie, fe] at h
     ·have fA : f iA = true := by simpa [o3] using h
      obtain ⟨gA, hgA, hloA, hbA⟩ := hA fA
      refine ⟨gA, hk tA (by rw [o10]; intro h; injection h with h; exact o4 h.symm) _ hgA, hloA, ?_⟩
      simp only [Ne.symm hie, if_false, fe] at hbA ⊢
      exact hbA.keepC hX (fun x => x)
     ·have fA : f iA = true := by simpa [o3] using h
      obtain ⟨gA, hgA, hloA, hbA⟩ := hA fA
      intro h'
      rw [hk tA (by rw [o10]; intro h; injection h with h; exact o4 h.symm) _ hgA] at h'
      injection h' with h'; injection h' with h'; injection h' with h'; injection h' with h'
      have := (Array.getElem?_eq_some_iff.1 hbA).1
      omega
   ·rw [if_neg (fun h => hAB (.inl h)), if_neg (fun h => hAB (.inr h))] at hR
    have nA : iA ≠ i := fun h => hAB (.inl h.symm)
    have nB : iB ≠ i := fun h => hAB (.inr h.symm)
    have ne : e ≠ i := fun h => hie h.symm
    simp only [nA, nB, ne, if_false]
    refine ⟨hE.trans hR, hcl, fun h => ?_, fun h => ?_⟩
    ·obtain ⟨g, a, b, c⟩ := hA h
     exact ⟨g, hk tA (fun h => hAB (.inl (uA i h))) _ a, b, c.keepC hR (fun x => x)⟩
    ·obtain ⟨g, a, b, c, d⟩ := hBB h
     refine ⟨g, hk tB (fun h => hAB (.inr (uB i h))) _ a, b, c.keepC hR (fun x => x), fun h' h'' => ?_⟩
     obtain ⟨g', a', _, _⟩ := hA h'
     have := hk tA (fun h => hAB (.inl (uA i h))) _ a'
     rw [this] at h''
     exact d h' (by rw [a']; exact h'')
 ·unfold RlY at hR
  by_cases hie : i = e
  ·rw [if_pos hie] at hR
   obtain ⟨g, hg, hch, _⟩ := hR
   subst hie
   obtain ⟨hE, hcl, hA, hBB⟩ := hI
   have : Blk w1 g eA zs := by
    obtain ⟨g', hg', hlo, hb⟩ := hA (hed iA o11)
    rw [hg] at hg'; injection hg' with h; injection h with h; injection h with h; injection h with h
    rw [hfi, if_neg (by decide)] at hb
    rw [h]; exact hb
   exact hS.at_ j v w1 w2 g hch this h
  ·rw [if_neg hie] at hR
   have hX : Ext w1 w2 := by
    split at hR
    ·exact hR.1
    ·split at hR
     ·exact hR.1
     ·exact hR
   exact (spAt Φ j).st v w1 w2 hX h
 ·have := H.at_ i o ho
  rw [Nat.zero_add] at this
  refine this F w' hI.1 hK (fun hie => ?_)
  subst hie
  obtain ⟨g, a, _, c⟩ := hI.2.2.1 (hed iA o11)
  rw [hfi] at c
  exact ⟨g, a, by simpa using c⟩
 ·have hlen : ∀ j, j < m → j < l.length → f j = true := fun j a b => hf j (by rw [List.length_take]; omega)
  have fe := hlen e (by omega) (by simpa using o7)
  have fA := hlen iA (by omega) (by simpa using o5)
  have fB := hlen iB (by omega) (by simpa using o6)
  obtain ⟨hE, _, hA, hBB⟩ := hI
  obtain ⟨gA, a1, a2, a3⟩ := hA fA
  obtain ⟨gB, b1, b2, b3, b4⟩ := hBB fB
  rw [if_pos fe] at a3
  exact hQ F w' hE h2 h3 ⟨gA, gB, fun h => b4 fA (by rw [← h]; exact a1), a2, b2, a1, b1, a3, b3⟩
variable {tA eA eB iA iB e i : Nat} {zs zB xs : List Value} {T : Nat → Option Value} {v : Value} {w' w0 : World} {M0 Fz : Nat → Prop} {H : List It}
theorem RlY.o (h1 : i ≠ e) (h2 : i ≠ iA) (h3 : i ≠ iB) (h : Ext w w') : RlY iA iB e tA eA eB zs zB xs i T v w w' := by
 unfold RlY
 rw [if_neg h1, if_neg h2, if_neg h3]
 exact h
theorem RlY.a (h2 : iA ≠ e) (hb : Blk w' w.heap.size eA zs) (h : Ext w w') : RlY iA iB e tA eA eB zs zB xs iA T (.pointer (some ⟨w.heap.size, 0, none⟩)) w w' := by
 unfold RlY
 rw [if_neg h2, if_pos rfl]
 exact ⟨h, rfl, hb⟩
theorem RlY.b (h1 : iB ≠ iA) (h2 : iB ≠ e) (hb : Blk w' w.heap.size eB zB) (h : Ext w w') : RlY iA iB e tA eA eB zs zB xs iB T (.pointer (some ⟨w.heap.size, 0, none⟩)) w w' := by
 unfold RlY
 rw [if_neg h2, if_neg h1, if_pos rfl]
 exact ⟨h, rfl, hb⟩
theorem RlY.f {g : Nat} (hg : T tA = some (.pointer (some ⟨g, 0, none⟩))) (hc : Chg (fun b => b = g) w w') (hb : Blk w' g eA xs) : RlY iA iB e tA eA eB zs zB xs e T v w w' := by
 unfold RlY
 rw [if_pos rfl]
 exact ⟨g, hg, hc, hb⟩
theorem HP.add3 (h : HP w0 M0 Fz w H) (hE : Ext w w') {x y z : It} {K1 K2 K3 : Nat → Prop} (r1 : x.R w' K1) (r2 : y.R w' K2) (r3 : z.R w' K3) (l1 : ∀ b, K1 b → w.heap.size ≤ b) (l2 : ∀ b, K2 b → w.heap.size ≤ b) (l3 : ∀ b, K3 b → w.heap.size ≤ b)
  (d12 : ∀ b, K1 b → ¬ K2 b) (d13 : ∀ b, K1 b → ¬ K3 b) (d23 : ∀ b, K2 b → ¬ K3 b) : HP w0 M0 Fz w' (x :: y :: z :: H) := by
 have h' := h.ext hE
 obtain ⟨Ks, h1, h2, h3⟩ := h.ex
 have hlt : ∀ i, i < H.length → ∀ b, Ks i b → b < w.heap.size := fun i hi b hb => (H[i]).lt (h1 i H[i] (List.getElem?_eq_getElem hi)) b hb
 have hw : w0.heap.size ≤ w.heap.size := h.chg.size
 have hf : ∀ b, Fz b → b < w.heap.size := h.fz
 have ok : ∀ b, w.heap.size ≤ b → (w0.heap.size ≤ b ∨ M0 b) ∧ ¬ Fz b := fun b hb => ⟨.inl (by omega), fun hF => by have := hf _ hF; omega⟩
 refine ⟨h'.chg, h'.fz, fun i => match i with | 0 => K1 | 1 => K2 | 2 => K3 | i + 3 => Ks i, ?_, ?_, ?_⟩
 ·intro i u hi
  match i with
  | 0 => simp only [List.getElem?_cons_zero, Option.some.injEq] at hi; subst hi; exact r1
  | 1 => simp only [List.getElem?_cons_succ, List.getElem?_cons_zero, Option.some.injEq] at hi; subst hi; exact r2
  | 2 => simp only [List.getElem?_cons_succ, List.getElem?_cons_zero, Option.some.injEq] at hi; subst hi; exact r3
  | i + 3 =>
   simp only [List.getElem?_cons_succ] at hi
   have hil := (List.getElem?_eq_some_iff.1 hi).1
   exact u.st (fun b hb => hE.block b (hlt i hil b hb) (fun x => x)) (h1 i u hi)
 ·intro i hi b hb
  match i with
  | 0 => exact ok b (l1 b hb)
  | 1 => exact ok b (l2 b hb)
  | 2 => exact ok b (l3 b hb)
  | i + 3 => exact h2 i (by simpa using hi) b hb
 ·intro i j hi hj hij b hb hb'
  match i, j with
  | 0, 0 => exact hij rfl
  | 1, 1 => exact hij rfl
  | 2, 2 => exact hij rfl
  | 0, 1 => exact d12 b hb hb'
  | 1, 0 => exact d12 b hb' hb
  | 0, 2 => exact d13 b hb hb'
  | 2, 0 => exact d13 b hb' hb
  | 1, 2 => exact d23 b hb hb'
  | 2, 1 => exact d23 b hb' hb
  | 0, j + 3 => have := l1 b hb; have := hlt j (by simpa using hj) b hb'; omega
  | 1, j + 3 => have := l2 b hb; have := hlt j (by simpa using hj) b hb'; omega
  | 2, j + 3 => have := l3 b hb; have := hlt j (by simpa using hj) b hb'; omega
  | i + 3, 0 => have := l1 b hb'; have := hlt i (by simpa using hi) b hb; omega
  | i + 3, 1 => have := l2 b hb'; have := hlt i (by simpa using hi) b hb; omega
  | i + 3, 2 => have := l3 b hb'; have := hlt i (by simpa using hi) b hb; omega
  | i + 3, j + 3 => exact h3 i j (by simpa using hi) (by simpa using hj) (by omega) b hb hb'
end
end Go.Eng
namespace Go.Eng
open Go.RowKit
section
variable {P : Program} {n : Nat} {L : List (Nat × Value)} {w : World} {Q : Exit → Act → World → Prop} {ops : Array Oper} {rest : List Oper} {ty : TypeId} {pos : String} {af : Array Edge} {d : Nat}
theorem wl_bsliceI {t e bytes : Nat} {xs : List Operand} {l : List Int} {k : Nat} {ps : Array (Nat × Operand)} (hd : d < n) (hT : slB P t e 1 bytes = true) (hp : ps = (partsOf 0 xs).toArray) (hv : evs L xs = some (l.map fun n => .int .i64 n)) (hk : k = l.length) (hm : l.length ≤ 16777216)
  (h : ∀ g w', GS intR (fun _ => True) w' (some ⟨g, 0, none⟩) k l → Ext w w' → WL P n ops Q rest ((d, .slice (some ⟨g, 0, none⟩) l.length k) :: L) w') :
  WL P n ops Q ({ dst := some d, op := .buildSlice t k ps, type := ty, pos := pos, after := af, guard := none } :: rest) L w :=
 wl_bsliceE (fun _ => rfl) hd hT hp hv hk hm 0 (Nat.zero_le _) (fun g w' _ ho hE => h g w' (ho.gsF (fun _ _ _ => trivial)) hE)
end
end Go.Eng
