/- The engine's rules, an operation each. Program-independent. -/
import Derived.Test.YtnlpibfdobinoaaMem
namespace Go.Eng
open Go.RowKit

def evs (L : List (Nat × Value)) : List Operand → Option (List Value)
  | [] => some []
  | x :: t => match ev L x, evs L t with
    | some v, some vs => some (v :: vs)
    | _, _ => none

/-- A number as a byte. -/
def u8Of (n : Int) : UInt8 := UInt8.ofNat (n % 256).toNat
theorem wrap_u8 (n : Int) : IntKind.u8.wrap n = ((u8Of n).toNat : Int) := by
  have h : IntKind.u8.wrap n = n % 256 := by simp [IntKind.wrap, IntKind.bits, IntKind.signed]
  rw [h, u8Of]
  simp only [UInt8.toNat_ofNat']
  omega
theorem w64 {n : Int} (h1 : -9223372036854775808 ≤ n) (h2 : n ≤ 9223372036854775807) : IntKind.i64.wrap n = n := by
  rw [IntKind.wrap_i64]; omega

/-- A type of one cell that is no struct and no array. -/
def scB (P : Program) (t : TypeId) : Bool :=
  match P.underlying t with
  | some (.struct _) | some (.array _ _) | none => false
  | _ => true
/-- A struct or an array of so many cells. -/
def agB (P : Program) (t : TypeId) (k : Nat) : Bool :=
  (match P.underlying t with
  | some (.struct _) | some (.array _ _) => true
  | _ => false) && ((P.info? t).map (·.size)) == some k
/-- A struct's field: where it lies. -/
def fldB (P : Program) (s : TypeId) (f off : Nat) : Bool :=
  match P.underlying s with
  | some (.struct fs) => (match fs[f]? with | some fd => fd.offset == off && (match P.info? fd.type with | some i => i.size != 0 | none => false) | none => false)
  | _ => false
/-- A function of the program that has a body. -/
def callable (P : Program) (f : FuncId) : Bool :=
  match P.funcs[f]? with
  | some fn => fn.name != "runtime.NumGoroutine" && fn.body.isSome
  | none => false

section
variable {P : Program} {n : Nat} {L : List (Nat × Value)} {w w' : World} {Q : Exit → Act → World → Prop} {ops : Array Oper} {rest : List Oper} {ty : TypeId} {pos : String} {af : Array Edge} {d : Nat}

theorem enter_of {f : FuncId} (h : callable P f = true) (args : Array Value) (w : World) : (callFunc f args).run P w = .ok (.enter f args) w := by
  unfold callable at h
  split at h
  · rename_i fn hf
    simp only [Bool.and_eq_true, bne_iff_ne, ne_eq] at h
    obtain ⟨h1, h2⟩ := h
    obtain ⟨c, hc⟩ := Option.isSome_iff_exists.1 h2
    simp [callFunc, program, Sem.run_bind, Sem.run, hf, h1, hc]
  · cases h

theorem evs_map {a : Act} (ha : Fr n a L) : ∀ {xs : List Operand} {vs : List Value}, evs L xs = some vs → xs.map a.eval = vs := by
  intro xs
  induction xs with
  | nil => intro vs h; simp [evs] at h; simp [h]
  | cons x t ih =>
    intro vs h
    simp only [evs] at h
    split at h
    · rename_i v us hv hus
      simp only [Option.some.injEq] at h
      subst h
      simp [ha.eval hv, ih hus]
    · cases h

theorem wl_move {x : Operand} {v : Value} (hd : d < n) (hx : ev L x = some v) (h : WL P n ops Q rest ((d, v) :: L) w) :
    WL P n ops Q ({ dst := some d, op := .move x, type := ty, pos := pos, after := af, guard := none } :: rest) L w :=
  wl_run hd (fun a ha => by simp [execOp, ha.eval hx]) h
theorem wl_assign {x : Operand} {v : Value} (hd : d < n) (hx : ev L x = some v) (h : WL P n ops Q rest ((d, v) :: L) w) :
    WL P n ops Q ({ dst := some d, op := .assign x, type := ty, pos := pos, after := af, guard := none } :: rest) L w :=
  wl_run hd (fun a ha => by simp [execOp, ha.eval hx]) h
theorem wl_pick {c x y : Operand} {b : Bool} {v : Value} (hd : d < n) (hc : ev L c = some (.bool b)) (hv : ev L (if b then x else y) = some v) (h : WL P n ops Q rest ((d, v) :: L) w) :
    WL P n ops Q ({ dst := some d, op := .pick c x y, type := ty, pos := pos, after := af, guard := none } :: rest) L w :=
  wl_run hd (fun a ha => by
    have e1 := ha.eval hc
    have e2 := ha.eval hv
    cases b <;> simp [execOp, e1, asBool] at e2 ⊢ <;> simp [e2]) h

/-! ### Numbers -/
theorem wl_lss {k : IntKind} {x y : Operand} {a b : Int} {t u : TypeId} (hd : d < n) (hx : ev L x = some (.int k a)) (hy : ev L y = some (.int k b)) (h : WL P n ops Q rest ((d, .bool (decide (a < b))) :: L) w) :
    WL P n ops Q ({ dst := some d, op := .binOp .lss t x y u, type := ty, pos := pos, after := af, guard := none } :: rest) L w :=
  wl_run hd (fun c hc => by simp [execOp, hc.eval hx, hc.eval hy, eqGuard, binOp, Op.intCmp]) h
theorem wl_leq {k : IntKind} {x y : Operand} {a b : Int} {t u : TypeId} (hd : d < n) (hx : ev L x = some (.int k a)) (hy : ev L y = some (.int k b)) (h : WL P n ops Q rest ((d, .bool (decide (a ≤ b))) :: L) w) :
    WL P n ops Q ({ dst := some d, op := .binOp .leq t x y u, type := ty, pos := pos, after := af, guard := none } :: rest) L w :=
  wl_run hd (fun c hc => by simp [execOp, hc.eval hx, hc.eval hy, eqGuard, binOp, Op.intCmp]) h
theorem wl_gtr {k : IntKind} {x y : Operand} {a b : Int} {t u : TypeId} (hd : d < n) (hx : ev L x = some (.int k a)) (hy : ev L y = some (.int k b)) (h : WL P n ops Q rest ((d, .bool (decide (b < a))) :: L) w) :
    WL P n ops Q ({ dst := some d, op := .binOp .gtr t x y u, type := ty, pos := pos, after := af, guard := none } :: rest) L w :=
  wl_run hd (fun c hc => by simp [execOp, hc.eval hx, hc.eval hy, eqGuard, binOp, Op.intCmp]) h
theorem wl_geq {k : IntKind} {x y : Operand} {a b : Int} {t u : TypeId} (hd : d < n) (hx : ev L x = some (.int k a)) (hy : ev L y = some (.int k b)) (h : WL P n ops Q rest ((d, .bool (decide (b ≤ a))) :: L) w) :
    WL P n ops Q ({ dst := some d, op := .binOp .geq t x y u, type := ty, pos := pos, after := af, guard := none } :: rest) L w :=
  wl_run hd (fun c hc => by simp [execOp, hc.eval hx, hc.eval hy, eqGuard, binOp, Op.intCmp]) h
theorem wl_eql {k : IntKind} {x y : Operand} {a b : Int} {t u : TypeId} (hd : d < n) (hx : ev L x = some (.int k a)) (hy : ev L y = some (.int k b)) (h : WL P n ops Q rest ((d, .bool (decide (a = b))) :: L) w) :
    WL P n ops Q ({ dst := some d, op := .binOp .eql t x y u, type := ty, pos := pos, after := af, guard := none } :: rest) L w :=
  wl_run hd (fun c hc => by
    have e : (a == b) = decide (a = b) := by by_cases h : a = b <;> simp [h]
    simp [execOp, hc.eval hx, hc.eval hy, eqGuard, binOp, Op.intCmp, e]) h
theorem wl_neq {k : IntKind} {x y : Operand} {a b : Int} {t u : TypeId} (hd : d < n) (hx : ev L x = some (.int k a)) (hy : ev L y = some (.int k b)) (h : WL P n ops Q rest ((d, .bool (decide (a ≠ b))) :: L) w) :
    WL P n ops Q ({ dst := some d, op := .binOp .neq t x y u, type := ty, pos := pos, after := af, guard := none } :: rest) L w :=
  wl_run hd (fun c hc => by
    have e : (a != b) = decide (a ≠ b) := by by_cases h : a = b <;> simp [h]
    simp [execOp, hc.eval hx, hc.eval hy, eqGuard, binOp, Op.intCmp, e]) h
theorem wl_add {k : IntKind} {x y : Operand} {a b z : Int} {t u : TypeId} (hd : d < n) (hx : ev L x = some (.int k a)) (hy : ev L y = some (.int k b)) (hz : k.wrap (a + b) = z) (h : WL P n ops Q rest ((d, .int k z) :: L) w) :
    WL P n ops Q ({ dst := some d, op := .binOp .add t x y u, type := ty, pos := pos, after := af, guard := none } :: rest) L w :=
  wl_run hd (fun c hc => by simp [execOp, hc.eval hx, hc.eval hy, eqGuard, binOp, Op.intArith, hz]) h
theorem wl_sub {k : IntKind} {x y : Operand} {a b z : Int} {t u : TypeId} (hd : d < n) (hx : ev L x = some (.int k a)) (hy : ev L y = some (.int k b)) (hz : k.wrap (a - b) = z) (h : WL P n ops Q rest ((d, .int k z) :: L) w) :
    WL P n ops Q ({ dst := some d, op := .binOp .sub t x y u, type := ty, pos := pos, after := af, guard := none } :: rest) L w :=
  wl_run hd (fun c hc => by simp [execOp, hc.eval hx, hc.eval hy, eqGuard, binOp, Op.intArith, hz]) h
theorem wl_mul {k : IntKind} {x y : Operand} {a b z : Int} {t u : TypeId} (hd : d < n) (hx : ev L x = some (.int k a)) (hy : ev L y = some (.int k b)) (hz : k.wrap (a * b) = z) (h : WL P n ops Q rest ((d, .int k z) :: L) w) :
    WL P n ops Q ({ dst := some d, op := .binOp .mul t x y u, type := ty, pos := pos, after := af, guard := none } :: rest) L w :=
  wl_run hd (fun c hc => by simp [execOp, hc.eval hx, hc.eval hy, eqGuard, binOp, Op.intArith, hz]) h
theorem wl_quo {k : IntKind} {x y : Operand} {a b z : Int} {t u : TypeId} (hd : d < n) (hx : ev L x = some (.int k a)) (hy : ev L y = some (.int k b)) (h0 : b ≠ 0) (hz : k.wrap (a.tdiv b) = z) (h : WL P n ops Q rest ((d, .int k z) :: L) w) :
    WL P n ops Q ({ dst := some d, op := .binOp .quo t x y u, type := ty, pos := pos, after := af, guard := none } :: rest) L w :=
  wl_run hd (fun c hc => by simp [execOp, hc.eval hx, hc.eval hy, eqGuard, binOp, Op.intDiv, h0, hz]) h
theorem wl_rem {k : IntKind} {x y : Operand} {a b z : Int} {t u : TypeId} (hd : d < n) (hx : ev L x = some (.int k a)) (hy : ev L y = some (.int k b)) (h0 : b ≠ 0) (hz : a.tmod b = z) (h : WL P n ops Q rest ((d, .int k z) :: L) w) :
    WL P n ops Q ({ dst := some d, op := .binOp .rem t x y u, type := ty, pos := pos, after := af, guard := none } :: rest) L w :=
  wl_run hd (fun c hc => by simp [execOp, hc.eval hx, hc.eval hy, eqGuard, binOp, Op.intDiv, h0, hz]) h
theorem wl_shr {k k' : IntKind} {x y : Operand} {a b z : Int} {t u : TypeId} (hd : d < n) (hx : ev L x = some (.int k a)) (hy : ev L y = some (.int k' b)) (h0 : 0 ≤ b) (hz : a.fdiv (2 ^ min b.toNat k.bits) = z) (h : WL P n ops Q rest ((d, .int k z) :: L) w) :
    WL P n ops Q ({ dst := some d, op := .binOp .shr t x y u, type := ty, pos := pos, after := af, guard := none } :: rest) L w :=
  wl_run hd (fun c hc => by
    have h1 : ¬ b < 0 := by omega
    simp [execOp, hc.eval hx, hc.eval hy, eqGuard, binOp, Op.shift, h1, hz]) h
theorem wl_shl {k k' : IntKind} {x y : Operand} {a b z : Int} {t u : TypeId} (hd : d < n) (hx : ev L x = some (.int k a)) (hy : ev L y = some (.int k' b)) (h0 : 0 ≤ b) (hz : k.wrap (a * 2 ^ min b.toNat k.bits) = z) (h : WL P n ops Q rest ((d, .int k z) :: L) w) :
    WL P n ops Q ({ dst := some d, op := .binOp .shl t x y u, type := ty, pos := pos, after := af, guard := none } :: rest) L w :=
  wl_run hd (fun c hc => by
    have h1 : ¬ b < 0 := by omega
    simp [execOp, hc.eval hx, hc.eval hy, eqGuard, binOp, Op.shift, h1, hz]) h
/-- '&', '|', '^', '&^': what they come to is asked of the model's own word. -/
def bitsV (op : BinOp) (k : IntKind) (a b : Int) : Int :=
  match op with
  | .and => k.wrap ((BitVec.ofInt k.bits a &&& BitVec.ofInt k.bits b).toNat : Int)
  | .or => k.wrap ((BitVec.ofInt k.bits a ||| BitVec.ofInt k.bits b).toNat : Int)
  | .xor => k.wrap ((BitVec.ofInt k.bits a ^^^ BitVec.ofInt k.bits b).toNat : Int)
  | _ => k.wrap ((BitVec.ofInt k.bits a &&& ~~~BitVec.ofInt k.bits b).toNat : Int)
theorem wl_and {k : IntKind} {x y : Operand} {a b z : Int} {t u : TypeId} (hd : d < n) (hx : ev L x = some (.int k a)) (hy : ev L y = some (.int k b)) (hz : bitsV .and k a b = z) (h : WL P n ops Q rest ((d, .int k z) :: L) w) :
    WL P n ops Q ({ dst := some d, op := .binOp .and t x y u, type := ty, pos := pos, after := af, guard := none } :: rest) L w :=
  wl_run hd (fun c hc => by subst hz; simp [execOp, hc.eval hx, hc.eval hy, eqGuard, binOp, Op.intBits, bitsV]) h
theorem wl_or {k : IntKind} {x y : Operand} {a b z : Int} {t u : TypeId} (hd : d < n) (hx : ev L x = some (.int k a)) (hy : ev L y = some (.int k b)) (hz : bitsV .or k a b = z) (h : WL P n ops Q rest ((d, .int k z) :: L) w) :
    WL P n ops Q ({ dst := some d, op := .binOp .or t x y u, type := ty, pos := pos, after := af, guard := none } :: rest) L w :=
  wl_run hd (fun c hc => by subst hz; simp [execOp, hc.eval hx, hc.eval hy, eqGuard, binOp, Op.intBits, bitsV]) h
theorem wl_xor {k : IntKind} {x y : Operand} {a b z : Int} {t u : TypeId} (hd : d < n) (hx : ev L x = some (.int k a)) (hy : ev L y = some (.int k b)) (hz : bitsV .xor k a b = z) (h : WL P n ops Q rest ((d, .int k z) :: L) w) :
    WL P n ops Q ({ dst := some d, op := .binOp .xor t x y u, type := ty, pos := pos, after := af, guard := none } :: rest) L w :=
  wl_run hd (fun c hc => by subst hz; simp [execOp, hc.eval hx, hc.eval hy, eqGuard, binOp, Op.intBits, bitsV]) h
theorem wl_andNot {k : IntKind} {x y : Operand} {a b z : Int} {t u : TypeId} (hd : d < n) (hx : ev L x = some (.int k a)) (hy : ev L y = some (.int k b)) (hz : bitsV .andNot k a b = z) (h : WL P n ops Q rest ((d, .int k z) :: L) w) :
    WL P n ops Q ({ dst := some d, op := .binOp .andNot t x y u, type := ty, pos := pos, after := af, guard := none } :: rest) L w :=
  wl_run hd (fun c hc => by subst hz; simp [execOp, hc.eval hx, hc.eval hy, eqGuard, binOp, Op.intBits, bitsV]) h
theorem wl_not {x : Operand} {b : Bool} {t : TypeId} (hd : d < n) (hx : ev L x = some (.bool b)) (h : WL P n ops Q rest ((d, .bool (!b)) :: L) w) :
    WL P n ops Q ({ dst := some d, op := .unOp .not t x, type := ty, pos := pos, after := af, guard := none } :: rest) L w :=
  wl_run hd (fun c hc => by simp [execOp, hc.eval hx, Op.unary]) h
theorem wl_notd {x : Operand} {p : Prop} [Decidable p] {t : TypeId} (hd : d < n) (hx : ev L x = some (.bool (decide p))) (h : WL P n ops Q rest ((d, .bool (decide (¬ p))) :: L) w) :
    WL P n ops Q ({ dst := some d, op := .unOp .not t x, type := ty, pos := pos, after := af, guard := none } :: rest) L w :=
  wl_run hd (fun c hc => by simp [execOp, hc.eval hx, Op.unary]) h
/-- A conversion of numbers. -/
def intB (P : Program) (t : TypeId) (k : IntKind) : Bool := match P.underlying t with | some (.int k') => k' == k | _ => false
theorem intB_out {t : TypeId} {k : IntKind} (h : intB P t k = true) : P.underlying t = some (.int k) := by
  unfold intB at h
  split at h
  · rename_i k' hk
    rw [hk, beq_iff_eq.1 h]
  · cases h
theorem wl_conv {k k1 k2 : IntKind} {x : Operand} {a z : Int} {t u : TypeId} (hd : d < n) (ht : intB P t k1 = true) (hu : intB P u k2 = true) (hx : ev L x = some (.int k a)) (hz : k2.wrap a = z) (h : WL P n ops Q rest ((d, .int k2 z) :: L) w) :
    WL P n ops Q ({ dst := some d, op := .convert t u x, type := ty, pos := pos, after := af, guard := none } :: rest) L w :=
  wl_run hd (fun c hc => by simp [execOp, hc.eval hx, convert, run_underlying (intB_out ht), run_underlying (intB_out hu), Conv.intToInt, hz]) h

/-! ### Calls -/
theorem wl_call {f : FuncId} {xs : List Operand} {vs : List Value} {ts : Array TypeId} {R : Value → World → Prop} (hd : d < n) (hf : callable P f = true) (hx : evs L xs = some vs)
    (hc : Ret P f vs.toArray w R) (h : ∀ v w', R v w' → WL P n ops Q rest ((d, v) :: L) w') :
    WL P n ops Q ({ dst := some d, op := .call { callee := .value (.func f), args := xs.toArray, argTypes := ts }, type := ty, pos := pos, after := af, guard := none } :: rest) L w := by
  intro a ha
  refine wpList_plain rfl fun K hK => ?_
  have hm := evs_map ha hx
  unfold Oper.wp
  have hrun : (execOp a.eval { dst := some d, op := .call { callee := .value (.func f), args := xs.toArray, argTypes := ts }, type := ty, pos := pos, after := af, guard := none }).run P w = .ok (.enter f vs.toArray) w := by
    simp [execOp, resolve, Act.eval, Deferred.ofValue, invoke, hm, enter_of hf]
  rw [hrun]
  exact Calls.mono hc fun e w' ⟨v, he, hv⟩ => by subst he; exact hK _ _ (h v w' hv _ (ha.put hd v))
theorem wl_callv {f : FuncId} {fo : Operand} {first cap : List Value} {xs : List Operand} {vs : List Value} {ts : Array TypeId} {R : Value → World → Prop} (hd : d < n) (hf : callable P f = true)
    (hfo : ev L fo = some (.func (.func f) first.toArray cap.toArray)) (hx : evs L xs = some vs)
    (hc : Ret P f (first ++ vs ++ cap).toArray w R) (h : ∀ v w', R v w' → WL P n ops Q rest ((d, v) :: L) w') :
    WL P n ops Q ({ dst := some d, op := .call { callee := .value fo, args := xs.toArray, argTypes := ts }, type := ty, pos := pos, after := af, guard := none } :: rest) L w := by
  intro a ha
  refine wpList_plain rfl fun K hK => ?_
  have hm := evs_map ha hx
  unfold Oper.wp
  have hrun : (execOp a.eval { dst := some d, op := .call { callee := .value fo, args := xs.toArray, argTypes := ts }, type := ty, pos := pos, after := af, guard := none }).run P w = .ok (.enter f (first ++ vs ++ cap).toArray) w := by
    simp [execOp, resolve, ha.eval hfo, Deferred.ofValue, invoke, hm, enter_of hf]
  rw [hrun]
  exact Calls.mono hc fun e w' ⟨v, he, hv⟩ => by subst he; exact hK _ _ (h v w' hv _ (ha.put hd v))
theorem wl_extract {x : Operand} {vs : List Value} {i : Nat} {v : Value} (hd : d < n) (hx : ev L x = some (.tuple vs.toArray)) (hv : vs[i]? = some v) (h : WL P n ops Q rest ((d, v) :: L) w) :
    WL P n ops Q ({ dst := some d, op := .extract x i, type := ty, pos := pos, after := af, guard := none } :: rest) L w :=
  wl_run hd (fun c hc => by simp [execOp, hc.eval hx, Instr.extract, hv]) h

/-! ### Slices -/
theorem wl_len {x : Operand} {A : Option Addr} {k c t : Nat} {e : TypeId} (hd : d < n) (ht : P.underlying t = some (.slice e)) (hx : ev L x = some (.slice A k c)) (h : WL P n ops Q rest ((d, .int .i64 (k : Int)) :: L) w) :
    WL P n ops Q ({ dst := some d, op := .call { callee := .builtin .len, args := #[x], argTypes := #[t] }, type := ty, pos := pos, after := af, guard := none } :: rest) L w :=
  wl_run hd (fun a ha => by simp [execOp, resolve, invoke, builtin, Builtin.len_, ha.eval hx, run_underlying ht, goInt]) h
theorem wl_min {k : IntKind} {x y : Operand} {a b : Int} {ts : Array TypeId} (hd : d < n) (hx : ev L x = some (.int k a)) (hy : ev L y = some (.int k b)) (h : WL P n ops Q rest ((d, .int k (min a b)) :: L) w) :
    WL P n ops Q ({ dst := some d, op := .call { callee := .builtin .min, args := #[x, y], argTypes := ts }, type := ty, pos := pos, after := af, guard := none } :: rest) L w :=
  wl_run hd (fun c hc => by
    have e : (if b < a then b else a) = min a b := by rw [Int.min_def]; split <;> split <;> omega
    simp [execOp, resolve, invoke, builtin, Builtin.min_, Builtin.min2, hc.eval hx, hc.eval hy, e]) h
/-- A slice against nil. -/
theorem wl_nilq {x y : Operand} {A : Option Addr} {k c t : Nat} {e : TypeId} {u : TypeId} (hd : d < n) (ht : P.underlying t = some (.slice e)) (hx : ev L x = some (.slice A k c)) (hy : ev L y = some (.slice none 0 0)) (h : WL P n ops Q rest ((d, .bool A.isNone) :: L) w) :
    WL P n ops Q ({ dst := some d, op := .binOp .eql t x y u, type := ty, pos := pos, after := af, guard := none } :: rest) L w :=
  wl_run hd (fun a ha => by
    have hq : ∀ d : Nat, (Op.equalIn (d + 1) t (.slice A k c) (.slice none 0 0)).run P w = .ok A.isNone w := fun d => by
      cases A <;> simp [Op.equalIn, run_underlying ht]
    have hb : (binOp .eql t (.slice A k c) (.slice none 0 0)).run P w = .ok (.bool A.isNone) w := by
      simp only [binOp, Op.equal, Sem.run_bind]
      rw [show Op.maxDepth = 9999 + 1 from rfl, hq 9999]
      simp
    have hg : (eqGuard .eql t x y (.slice A k c) (.slice none 0 0)).run P w = .ok () w := by simp [eqGuard]
    simp only [execOp, ha.eval hx, ha.eval hy, Sem.run_bind, hg, Result.andThen_ok, hb, Sem.run_pure]) h
/-- An element's address. -/
theorem wl_idx {α : Type} {r : Rep α} {S : Nat → Prop} {A : Option Addr} {c t e bytes : Nat} {l : List α} {x ix : Operand} {k : IntKind} {i : Int} (hd : d < n) (hT : slB P t e r.size bytes = true)
    (hx : ev L x = some (.slice A l.length c)) (hi : ev L ix = some (.int k i)) (g : GS r S w A c l) (j : Nat) (hj : i = (j : Int)) (hlt : j < l.length)
    (h : ∀ a cs, a.block < w.heap.size → S a.block → At w a cs → r.rd S w cs l[j] → WL P n ops Q rest ((d, .pointer (some a)) :: L) w) :
    WL P n ops Q ({ dst := some d, op := .indexAddr t x ix, type := ty, pos := pos, after := af, guard := none } :: rest) L w := by
  obtain ⟨i0, z, ht, hi0, _, hs, _, _, _, _⟩ := slB_out hT
  obtain ⟨a, cs, rfl, hb, hS, hat, hr⟩ := g.rd j hlt
  refine wl_run (v := .pointer (some (a.add (j * r.size)))) hd (fun ac ha => ?_) (h _ cs (by rw [block_add]; exact hb) (by rw [block_add]; exact hS) hat hr)
  subst hj
  have h1 : (0 : Int) ≤ (j : Int) ∧ (j : Int) < (l.length : Int) := by omega
  simp [execOp, ha.eval hx, ha.eval hi, Instr.indexAt, asIntOf, run_underlying ht, sizeOf, typeInfo, hi0, hs, hlt]
theorem wl_idx0 {A : Option Addr} {a : Addr} {c t e size bytes m : Nat} {x ix : Operand} {k : IntKind} {i : Int} (hd : d < n) (hT : slB P t e size bytes = true)
    (hx : ev L x = some (.slice A m c)) (hi : ev L ix = some (.int k i)) (hA : A = some a) (j : Nat) (hj : i = (j : Int)) (hlt : j < m)
    (h : WL P n ops Q rest ((d, .pointer (some (a.add (j * size)))) :: L) w) :
    WL P n ops Q ({ dst := some d, op := .indexAddr t x ix, type := ty, pos := pos, after := af, guard := none } :: rest) L w := by
  obtain ⟨i0, z, ht, hi0, _, hs, _, _, _, _⟩ := slB_out hT
  refine wl_run (v := .pointer (some (a.add (j * size)))) hd (fun ac ha => ?_) h
  subst hj
  subst hA
  simp [execOp, ha.eval hx, ha.eval hi, Instr.indexAt, asIntOf, run_underlying ht, sizeOf, typeInfo, hi0, hs, hlt]
theorem wl_load {x : Operand} {t : TypeId} {p : Addr} {v : Value} (hd : d < n) (hs : scB P t = true) (hx : ev L x = some (.pointer (some p))) (hc : w.cell? p = some v) (h : WL P n ops Q rest ((d, v) :: L) w) :
    WL P n ops Q ({ dst := some d, op := .load t x, type := ty, pos := pos, after := af, guard := none } :: rest) L w := by
  refine wl_run hd (fun a ha => ?_) h
  unfold scB at hs
  split at hs
  · cases hs
  · cases hs
  · cases hs
  · rename_i hu h1 h2 h3
    cases hd : P.underlying t with
    | none => exact absurd hd h3
    | some dd =>
      have hna : (isAgg t).run P w = .ok false w := by
        unfold isAgg
        rw [Sem.run_bind, run_underlying hd]
        cases dd <;> simp_all
      simp [execOp, ha.eval hx, Instr.loadAt, Instr.sureAddr, loadVar, hna, load, Sem.run, hc]
theorem run_isAgg {t : TypeId} {k : Nat} (h : agB P t k = true) (w : World) : (isAgg t).run P w = .ok true w ∧ (sizeOf t).run P w = .ok k w := by
  unfold agB at h
  simp only [Bool.and_eq_true, beq_iff_eq] at h
  obtain ⟨h1, h2⟩ := h
  constructor
  · split at h1
    · rename_i fs hu; simp [isAgg, run_underlying hu]
    · rename_i m e hu; simp [isAgg, run_underlying hu]
    · cases h1
  · cases hi : P.info? t with
    | none => rw [hi] at h2; cases h2
    | some i => rw [hi] at h2; simp at h2; simp [sizeOf, typeInfo, hi, h2]
theorem wl_loadA {x : Operand} {t : TypeId} {k : Nat} {p : Addr} {cs : List Value} (hd : d < n) (hs : agB P t k = true) (hx : ev L x = some (.pointer (some p))) (hat : At w p cs) (hl : cs.length = k)
    (h : WL P n ops Q rest ((d, .agg cs.toArray) :: L) w) :
    WL P n ops Q ({ dst := some d, op := .load t x, type := ty, pos := pos, after := af, guard := none } :: rest) L w := by
  subst hl
  refine wl_run hd (fun a ha => ?_) h
  have hl := run_loadCells_list (P := P) w p cs hat
  simp [execOp, ha.eval hx, Instr.loadAt, Instr.sureAddr, loadVar, (run_isAgg hs w).1, (run_isAgg hs w).2, hl]
theorem wl_append {t e size bytes lo k m c c2 : Nat} {A B : Option Addr} {xs news : List Value} {s x : Operand} (hd : d < n) (hT : slB P t e size bytes = true)
    (hs : ev L s = some (.slice A k c)) (hx : ev L x = some (.slice B m c2)) (hown : OwnRow e size lo w A k c xs) (hl : news.length = m * size) (hat : ∀ b, B = some b → At w b news) (hB : B = none → m = 0)
    (h1 : ∀ u ∈ news, u.oneCell' = true) (hb : (k + m) * bytes ≤ 140737488355328) (hlo : lo ≤ w.heap.size)
    (h : ∀ A' c' w', OwnRow e size lo w' A' (k + m) c' (xs ++ news) → Chg (fun b => c ≠ 0 ∧ lo ≤ b ∧ blk A b) w w' → (A' = A ∧ c' = c ∨ A' = some ⟨w.heap.size, 0, none⟩) → WL P n ops Q rest ((d, .slice A' (k + m) c') :: L) w') :
    WL P n ops Q ({ dst := some d, op := .call { callee := .builtin .append, args := #[s, x], argTypes := #[t, t] }, type := ty, pos := pos, after := af, guard := none } :: rest) L w := by
  obtain ⟨A', c', w', hr, h2, h3, h4⟩ := run_append (P := P) (ty := ty) (c2 := c2) hT hown hl hat hB h1 hb hlo
  refine wl_run hd (fun a ha => ?_) (h A' c' w' h2 h3 h4)
  simp [execOp, resolve, invoke, builtin, ha.eval hs, ha.eval hx, hr]
theorem flat_ones {α : Type} (f : α → Value) : ∀ l : List α, (l.map fun b => [f b]).flatten = l.map f
  | [] => rfl
  | b :: t => by simp [flat_ones f t]
/-- Bytes that are read are laid behind bytes of the call's own. -/
theorem wl_appendB {t e lo c c2 : Nat} {S : Nat → Prop} {A B : Option Addr} {l l2 : List UInt8} {s x : Operand} (hd : d < n) (hT : slB P t e 1 1 = true)
    (hs : ev L s = some (.slice A l.length c)) (hx : ev L x = some (.slice B l2.length c2)) (hown : OwnB e lo w A c l) (g : BS S w B c2 l2) (hb : l.length + l2.length ≤ 140737488355328) (hlo : lo ≤ w.heap.size)
    (h : ∀ A' c' w', OwnB e lo w' A' c' (l ++ l2) → Chg (fun b => c ≠ 0 ∧ lo ≤ b ∧ blk A b) w w' → (A' = A ∧ c' = c ∨ A' = some ⟨w.heap.size, 0, none⟩) → WL P n ops Q rest ((d, .slice A' (l ++ l2).length c') :: L) w') :
    WL P n ops Q ({ dst := some d, op := .call { callee := .builtin .append, args := #[s, x], argTypes := #[t, t] }, type := ty, pos := pos, after := af, guard := none } :: rest) L w := by
  obtain ⟨rows, hl, hs1, ho, hr, hat, hnil⟩ := g.cells
  have hfl : rows.flatten = l2.map bv := by
    apply List.ext_getElem?
    intro i
    have : rows = l2.map (fun b => [bv b]) := by
      apply List.ext_getElem (by simp [hl])
      intro j h1 h2
      have := hr j (by simpa using h2) h1
      simpa [byteR, oneR] using this
    rw [this, flat_ones]
  refine wl_append (news := l2.map bv) hd hT hs hx hown (by simp) (fun b hb => by rw [← hfl]; exact hat b hb) (fun hB => by simp [hnil hB]) (by simp [Value.oneCell'] ) (by omega) hlo ?_
  intro A' c' w' h2 h3 h4
  have := h A' c' w' (by rw [OwnB, List.map_append, List.length_append]; exact h2) h3 h4
  rwa [List.length_append] at this
end
end Go.Eng
