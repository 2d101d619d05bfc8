/- From a walk of a law to its row. Program-independent. -/
import Derived.Test.YtnlpibfdobinoaaPlain
import Derived.ProofKit
import Derived.SizedLaws
namespace Go.Eng
open Go.RowKit Go.ChangeShapes Go.WideShapes Go.ChangeAt

section
variable {H : Type} {enc : TypeId × Value → H} {P : Program} {W : World}
/-- What is known of one argument. -/
structure Arg (enc : TypeId × Value → H) (P : Program) (W : World) (base : Nat) (t : TypeId) (v : Value) (d : DataW H) (p : List MemPlace) : Prop where
  ok : Value.okWide P W .any base t v
  rd : DataW.Trod enc P W 0 (fun _ => true) true t v d p
  lt : ∀ x ∈ p, x.block < W.heap.size
  wt : (d.weights P t).all (· ≤ reachBytes) = true
/-- Of all. -/
def Args (enc : TypeId × Value → H) (P : Program) (W : World) (base : Nat) : List TypeId → List Value → List (DataW H) → Prop
  | [], [], [] => True
  | t :: ts, v :: vs, d :: ds => (∃ p, Arg enc P W base t v d p) ∧ Args enc P W base ts vs ds
  | _, _, _ => False
theorem args_of {base : Nat} : ∀ (ts : List TypeId) (vs : List Value) (ds : List (DataW H)) (ps : List MemPlace), (∀ (j : Nat) t v, ts[j]? = some t → vs[j]? = some v → Value.okWide P W .any base t v) →
    DataW.TrodAll enc P W 0 (fun _ => true) true ts vs ds ps → (∀ x ∈ ps, x.block < W.heap.size) → (DataW.weightsEach P ts ds).all (· ≤ reachBytes) = true → Args enc P W base ts vs ds
  | [], [], [], _, _, _, _, _ => trivial
  | t :: ts, v :: vs, d :: ds, ps, hv, ht, hl, hw => by
    obtain ⟨p, q, h1, h2, rfl⟩ := ht
    simp only [DataW.weightsEach, List.all_append, Bool.and_eq_true] at hw
    exact ⟨⟨p, hv 0 t v rfl rfl, h1, fun x hx => hl x (List.mem_append_left _ hx), hw.1⟩,
      args_of ts vs ds q (fun j t v h1 h2 => hv (j + 1) t v (by simpa using h1) (by simpa using h2)) h2 (fun x hx => hl x (List.mem_append_right _ hx)) hw.2⟩
  | [], [], _ :: _, _, _, h, _, _ => h.elim
  | [], _ :: _, _, _, _, h, _, _ => by cases ‹List (DataW H)› <;> exact h.elim
  | _ :: _, [], _, _, _, h, _, _ => by cases ‹List (DataW H)› <;> exact h.elim
  | _ :: _, _ :: _, [], _, _, h, _, _ => h.elim
/-- Each parameter's type can be read again. -/
def readB (P : Program) (ts : List TypeId) : Bool := ts.all fun t => P.readableRec t && decide (t < P.types.size)
theorem trodAll_below {W' : World} (hl : laidOutB P = true) (hb : Below W.heap.size W W') : ∀ (ts : List TypeId) (vs : List Value) (ds : List (DataW H)) (ps : List MemPlace), readB P ts = true →
    DataW.TrodAll enc P W 0 (fun _ => true) true ts vs ds ps → (∀ x ∈ ps, x.block < W.heap.size) → DataW.TrodAll enc P W' 0 (fun b => decide (b < W.heap.size)) true ts vs ds ps
  | [], [], [], _, _, h, _ => h
  | t :: ts, v :: vs, d :: ds, ps, hr, ht, hlt => by
    obtain ⟨p, q, h1, h2, rfl⟩ := ht
    simp only [readB, List.all_cons, Bool.and_eq_true, decide_eq_true_eq] at hr
    exact ⟨p, q, Below.trod hl hr.1.1 hr.1.2 h1 hb (fun x hx => hlt x (List.mem_append_left _ hx)),
      trodAll_below hl hb ts vs ds q hr.2 h2 (fun x hx => hlt x (List.mem_append_right _ hx)), rfl⟩
  | [], [], _ :: _, _, _, h, _ => h.elim
  | [], _ :: _, _, _, _, h, _ => by cases ‹List (DataW H)› <;> exact h.elim
  | _ :: _, [], _, _, _, h, _ => by cases ‹List (DataW H)› <;> exact h.elim
  | _ :: _, _ :: _, [], _, _, h, _ => h.elim
theorem trodAll_len {base : Nat} {sp : Nat → Bool} {hd : Bool} : ∀ (ts : List TypeId) (vs : List Value) (ds : List (DataW H)) (ps : List MemPlace), DataW.TrodAll enc P W base sp hd ts vs ds ps → ds.length = ts.length
  | [], [], [], _, _ => rfl
  | t :: ts, v :: vs, d :: ds, ps, ht => by
    obtain ⟨p, q, _, h2, _⟩ := ht
    simp [trodAll_len ts vs ds q h2]
  | [], [], _ :: _, _, h => h.elim
  | [], _ :: _, _, _, h => by cases ‹List (DataW H)› <;> exact h.elim
  | _ :: _, [], _, _, h => by cases ‹List (DataW H)› <;> exact h.elim
  | _ :: _, _ :: _, [], _, h => h.elim

theorem law_lifted {C : Checked} {os : Os} {f : FuncId} {fn : Func} {s : ChangeSpec} {tb : TypeId} (own : ownKnob C.prog.godebug = none) (started : os.Started) (noInit : C.prog.inits.idxOf? f = none) (hfn : C.prog.funcs[f]? = some fn)
    (witness : ∃ (w : World) (tape : Tape) (i : Input), w.os = os ∧ (w.forCall tape i).Shaped C.prog ∧ i.vars = [] ∧ Input.okWide C.prog (w.forCall tape i) .any w.heap.size f i ∧
      s.pre6 enc C.prog fn [] false (w.forCall tape i).memory i.args ∧ ({} : Assume).holds C.prog (lone (Frame.enter C.prog f i.args .normal) [] (w.forCall tape i)))
    (hlo : laidOutB C.prog = true) (hrd : readB C.prog fn.params.toList = true) (hvars : s.vars = []) (hres : fn.resultTypes = #[tb]) (htb : C.prog.underlying tb = some .bool)
    (hs : ∀ ds : List (DataW H), ds.length = fn.params.toList.length → s.fn H ds = { results := [.lit (.bool true)], args := ds })
    (walk : ∀ (W : World) (base : Nat) (args : Array Value) (ds : List (DataW H)), Args enc C.prog W base fn.params.toList args.toList ds → Ret C.prog f args W fun v w' => v = .bool true ∧ Ext W w') :
    ReturnsInHanded {} C os f .any (s.pre6 enc C.prog fn [] false) (s.post enc C.prog fn false true false false) := by
  refine returnsInHanded_of_change_sized own started noInit hfn witness ?_
  intro W base args ds gs before hval hW _ hsz _
  have hW' := hW
  obtain ⟨p, q, hA, hV, rfl, hfz, hnd⟩ := hW
  have hvt : s.plain.varTypes C.prog = [] := by simp [ChangeSpec.plain, DataSpec.varTypes, hvars]
  rw [hvars] at hV
  obtain ⟨rfl, rfl⟩ := trodVars_none hV
  rw [hvt, List.append_nil, List.append_nil] at hsz
  simp only [List.append_nil] at hW'
  have hlt : ∀ x ∈ p, x.block < W.heap.size := fun x hx => hW'.lt x hx
  have hargs := args_of fn.params.toList args.toList ds p (fun j t v h1 h2 => hval j t v (by simpa using h1) (by simpa using h2)) hA hlt hsz
  refine Calls.mono (walk W base args ds hargs) fun e W' ⟨v, he, hv, hE⟩ => ⟨v, he, ?_⟩
  subst hv
  have hds := hs ds (trodAll_len _ _ _ _ hA)
  have hb := hE.below
  refine ⟨ds, [], p, [], p, [], hW', ?_, ?_, ?_, hb.frame _, fun h => by cases h⟩
  · rw [List.append_nil, hds, hres]
    exact trodAll_mk1 (shut_bool htb true)
  · rw [List.append_nil, hds]
    exact trodAll_below hlo hb _ _ _ _ hrd hA hlt
  · rw [List.append_nil, hds, hvars]
    rfl

/-! ### Opening arguments -/
theorem arg_int {base : Nat} {t : TypeId} {v : Value} {d : DataW H} (ht : P.underlying t = some (.int .i64)) (h : ∃ p, Arg enc P W base t v d p) : ∃ n : Int, v = .int .i64 n ∧ -9223372036854775808 ≤ n ∧ n ≤ 9223372036854775807 := by
  obtain ⟨p, h⟩ := h
  obtain ⟨n, rfl, _, _, hw⟩ := open_int ht h.ok h.rd
  refine ⟨n, rfl, ?_⟩
  simp [Lit.wf, IntKind.min, IntKind.max, IntKind.signed, IntKind.bits] at hw
  omega
theorem arg_u8 {base : Nat} {t : TypeId} {v : Value} {d : DataW H} (ht : P.underlying t = some (.int .u8)) (h : ∃ p, Arg enc P W base t v d p) : ∃ b : UInt8, v = bv b := by
  obtain ⟨p, h⟩ := h
  obtain ⟨n, rfl, _, _, hw⟩ := open_int ht h.ok h.rd
  simp [Lit.wf, IntKind.min, IntKind.max, IntKind.signed, IntKind.bits] at hw
  refine ⟨UInt8.ofNat n.toNat, ?_⟩
  simp only [bv, UInt8.toNat_ofNat']
  congr 1
  omega
theorem arg_bytes {base : Nat} {t e : TypeId} {v : Value} {d : DataW H} (ht : P.underlying t = some (.slice e)) (he : P.underlying e = some (.int .u8)) (hc : P.cellsOf e = 1) (hbb : P.bytesOf e = 1) (h : ∃ p, Arg enc P W base t v d p) :
    ∃ A c l, v = .slice A l.length c ∧ BS (fun b => b < W.heap.size) W A c l := by
  obtain ⟨p, h⟩ := h
  obtain ⟨a0, len, cap, rfl⟩ := okWide_slice ht h.ok
  have hwt := h.wt
  have hltp := h.lt
  obtain ⟨fuel, hf⟩ := h.rd
  rcases open_ints ht he hc hf with ⟨hcs, hx⟩ | ⟨a, len', cap', zs, hcs, _, hl, hm, hz, hx, hcell, hwz⟩
  · simp [Value.cells] at hcs
    obtain ⟨rfl, rfl, rfl⟩ := hcs
    exact ⟨none, 0, [], rfl, GS.nil _ _ _ _ _⟩
  · simp [Value.cells] at hcs
    obtain ⟨rfl, rfl, rfl⟩ := hcs
    simp only [Prod.mk.injEq] at hx
    obtain ⟨rfl, rfl⟩ := hx
    simp only [if_true] at hz
    have hcap : cap ≤ 140737488355328 := by
      have := List.all_eq_true.1 hwt ((lits (H := H) .u8 (zs.take len)).length + (lits (H := H) .u8 (zs.drop len)).length) (by
        have e1 : (((lits (H := H) .u8 (zs.take len)).length + (lits (H := H) .u8 (zs.drop len)).length) * P.bytesOf e) ∈ (DataW.slice (lits (H := H) .u8 (zs.take len)) (lits .u8 (zs.drop len))).weights P t := by simp [DataW.weights, ht]
        rwa [hbb, Nat.mul_one] at e1)
      simp only [lits, List.length_map, List.length_take, List.length_drop, reachBytes, decide_eq_true_eq] at this
      omega
    have hbd : ∀ i, i < len → ∃ b : UInt8, zs.getD i 0 = (b.toNat : Int) := by
      intro i hi
      have hmem : zs.getD i 0 ∈ zs := by
        rw [List.getD_eq_getElem?_getD, List.getElem?_eq_getElem (by omega)]
        exact List.getElem_mem _
      have hw := hwz _ hmem
      simp [Lit.wf, IntKind.min, IntKind.max, IntKind.signed, IntKind.bits] at hw
      refine ⟨UInt8.ofNat (zs.getD i 0).toNat, ?_⟩
      simp only [UInt8.toNat_ofNat', List.getD_eq_getElem?_getD]
      omega
    refine ⟨some a, cap, (zs.take len).map fun z => UInt8.ofNat z.toNat, ?_, ?_⟩
    · have : ((zs.take len).map fun z => UInt8.ofNat z.toNat).length = len := by simp; omega
      rw [this]
    · have hlen : ((zs.take len).map fun z => UInt8.ofNat z.toNat).length = len := by simp; omega
      refine ⟨by omega, by omega, fun i hi => ?_⟩
      have hi' : i < len := by omega
      obtain ⟨b, hb⟩ := hbd i hi'
      have hc1 := hcell i (by omega)
      rw [hb] at hc1
      refine ⟨a, [bv b], rfl, ?_, ?_, ?_, ?_⟩
      · have := World.block_lt_of_cell? W _ hc1
        rwa [block_add] at this
      · have := World.block_lt_of_cell? W _ hc1
        rwa [block_add] at this
      · intro j v hv
        have hj : j = 0 := by
          have := (List.getElem?_eq_some_iff.1 hv).1
          simpa using this
        subst hj
        simp only [List.getElem?_cons_zero, Option.some.injEq] at hv
        subst hv
        rw [add_add']
        simpa [byteR, oneR] using hc1
      · simp only [byteR, oneR, List.getElem_map, List.getElem_take]
        have e1 : zs[i]'(by omega) = zs.getD i 0 := by rw [List.getD_eq_getElem?_getD, List.getElem?_eq_getElem (by omega)]; rfl
        rw [e1, hb]
        simp
end
end Go.Eng

namespace Go.Eng
open Go.RowKit Go.ChangeShapes Go.WideShapes Go.ChangeAt
section
variable {H : Type} {enc : TypeId × Value → H} {P : Program} {W : World}
theorem args_nil {base : Nat} {vs : List Value} {ds : List (DataW H)} (h : Args enc P W base [] vs ds) : vs = [] := by
  cases vs with
  | nil => rfl
  | cons v t => cases ds <;> exact h.elim
theorem args_cons {base : Nat} {t : TypeId} {ts : List TypeId} {vs : List Value} {ds : List (DataW H)} (h : Args enc P W base (t :: ts) vs ds) :
    ∃ v vs' d ds', vs = v :: vs' ∧ (∃ p, Arg enc P W base t v d p) ∧ Args enc P W base ts vs' ds' := by
  cases vs with
  | nil => cases ds <;> exact h.elim
  | cons v vs' =>
    cases ds with
    | nil => exact h.elim
    | cons d ds' => exact ⟨v, vs', d, ds', rfl, h.1, h.2⟩
theorem spec_len {ds : List (DataW H)} {n : Nat} (h : ds.length = n + 1) : ∃ d ds', ds = d :: ds' ∧ ds'.length = n := by
  cases ds with
  | nil => cases h
  | cons d t => exact ⟨d, t, rfl, by simpa using h⟩
end
end Go.Eng
