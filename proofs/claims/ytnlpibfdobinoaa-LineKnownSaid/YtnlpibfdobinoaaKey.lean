/- Structs and arrays of bools and integers: keys, equality. Program-independent. -/
import Derived.Test.YtnlpibfdobinoaaMap
import Derived.DeepKeys3
namespace Go.Eng
open Go.RowKit Go.Maps

/-- A cell of a kind: none a bool, some q an integer. -/
def fitC : Option IntKind → Value → Bool
  | none, .bool _ => true
  | some q, .int q' n => q' == q && (Lit.int q n).wf
  | _, _ => false
def FitK (ks : List (Option IntKind)) (cs : List Value) : Prop := ks.length = cs.length ∧ ∀ (i : Nat) k v, ks[i]? = some k → cs[i]? = some v → fitC k v = true
/-- The kinds of a type's cells. -/
def kindsOf (P : Program) : Nat → TypeId → Option (List (Option IntKind))
  | 0, _ => none
  | m + 1, t => match P.underlying t with
    | some .bool => if P.cellsOf t = 1 then some [none] else none
    | some (.int q) => if P.cellsOf t = 1 then some [some q] else none
    | some (.array n e) => match kindsOf P m e with
      | some s => if P.cellsOf t = n * P.cellsOf e then some (List.replicate n s).flatten else none
      | none => none
    | some (.struct fs) => match fs.toList.mapM (fun f => kindsOf P m f.type) with
      | some ss => if P.runs 0 fs.toList = some (P.cellsOf t) ∧ fs.all (·.name != "_") = true then some ss.flatten else none
      | none => none
    | _ => none
theorem mapM_ex {α β : Type} {f : α → Option β} : ∀ {l : List α}, (∀ x ∈ l, ∃ y, f x = some y) → ∃ ys, l.mapM f = some ys
  | [], _ => ⟨[], rfl⟩
  | x :: t, h => by
    obtain ⟨y, hy⟩ := h x (by simp)
    obtain ⟨ys, hys⟩ := mapM_ex (l := t) (fun z hz => h z (by simp [hz]))
    exact ⟨y :: ys, by simp [List.mapM_cons, hy, hys]⟩
theorem flat_rep {α : Type} (s : List α) : ∀ (n i j : Nat), i < n → j < s.length → (List.replicate n s).flatten[i * s.length + j]? = s[j]?
  | 0, i, j, hi, _ => by omega
  | n + 1, i, j, hi, hj => by
    rw [List.replicate_succ, List.flatten_cons]
    cases i with
    | zero => rw [Nat.zero_mul, Nat.zero_add, List.getElem?_append_left hj]
    | succ i =>
      rw [List.getElem?_append_right (by rw [Nat.succ_mul]; omega), show (i + 1) * s.length + j - s.length = i * s.length + j by rw [Nat.succ_mul]; omega]
      exact flat_rep s n i j (by omega) hj
theorem FitK.sub {ks s : List (Option IntKind)} {cs : List Value} (h : FitK ks cs) (o : Nat) (ho : o + s.length ≤ cs.length) (hs : ∀ j, j < s.length → ks[o + j]? = s[j]?) : FitK s ((cs.drop o).take s.length) := by
  refine ⟨by rw [List.length_take, List.length_drop]; omega, fun i k v hk hv => ?_⟩
  have hi : i < s.length := (List.getElem?_eq_some_iff.1 hk).1
  rw [List.getElem?_take, if_pos hi, List.getElem?_drop] at hv
  exact h.2 (o + i) k v (by rw [hs i hi]; exact hk) hv
section
variable {P : Program}
theorem runs_flat : ∀ (fs : List Field) (ss : List (List (Option IntKind))) (off tot : Nat) (K : Field → Option (List (Option IntKind))), fs.mapM K = some ss → (∀ f ∈ fs, ∀ s, K f = some s → s.length = P.cellsOf f.type) → P.runs off fs = some tot →
    off + ss.flatten.length = tot ∧ ∀ f ∈ fs, ∀ s, K f = some s → off ≤ f.offset ∧ f.offset + s.length ≤ tot ∧ ∀ j, j < s.length → ss.flatten[f.offset - off + j]? = s[j]?
  | [], ss, off, tot, K, hm, _, hr => by
    simp at hm
    subst hm
    simp [Program.runs] at hr
    simp [hr]
  | f :: fs, ss, off, tot, K, hm, hl, hr => by
    rw [List.mapM_cons] at hm
    cases hk : K f with
    | none => rw [hk] at hm; simp at hm
    | some s0 =>
      cases hk2 : fs.mapM K with
      | none => rw [hk, hk2] at hm; simp at hm
      | some ss' =>
        rw [hk, hk2] at hm
        simp at hm
        subst hm
        have hs0 := hl f (by simp) s0 hk
        unfold Program.runs at hr
        split at hr
        · rename_i ho
          have hof : f.offset = off := by simpa using ho
          obtain ⟨h1, h2⟩ := runs_flat fs ss' (off + P.cellsOf f.type) tot K hk2 (fun g hg => hl g (by simp [hg])) hr
          refine ⟨by rw [List.flatten_cons, List.length_append, hs0]; omega, fun g hg s hs => ?_⟩
          rcases List.mem_cons.1 hg with rfl | hg
          · rw [hk] at hs
            obtain rfl := Option.some.inj hs
            refine ⟨by omega, by rw [hs0]; omega, fun j hj => ?_⟩
            rw [hof, Nat.sub_self, Nat.zero_add, List.flatten_cons, List.getElem?_append_left hj]
          · obtain ⟨h3, h4, h5⟩ := h2 g hg s hs
            refine ⟨by omega, h4, fun j hj => ?_⟩
            rw [List.flatten_cons, List.getElem?_append_right (by omega), ← h5 j hj]
            congr 1
            omega
        · cases hr
theorem lits_of : ∀ (m t : Nat) (ks : List (Option IntKind)), kindsOf P m t = some ks → ks.length = P.cellsOf t ∧ ∀ D, m ≤ D → ∀ cs, FitK ks cs → ∃ l, P.keyLits D t cs = some l
  | 0, t, ks, h => by simp [kindsOf] at h
  | m + 1, t, ks, h => by
    unfold kindsOf at h
    split at h
    · rename_i hu
      split at h
      · rename_i hc
        obtain rfl := Option.some.inj h
        refine ⟨hc.symm, fun D hD cs hf => ?_⟩
        obtain ⟨D, rfl⟩ : ∃ d, D = d + 1 := ⟨D - 1, by omega⟩
        obtain ⟨v, rfl⟩ := List.length_eq_one_iff.1 hf.1.symm
        have := hf.2 0 none v rfl rfl
        cases v <;> simp [fitC] at this
        exact ⟨_, by simp [Program.keyLits, hu]; rfl⟩
      · cases h
    · rename_i q hu
      split at h
      · rename_i hc
        obtain rfl := Option.some.inj h
        refine ⟨hc.symm, fun D hD cs hf => ?_⟩
        obtain ⟨D, rfl⟩ : ∃ d, D = d + 1 := ⟨D - 1, by omega⟩
        obtain ⟨v, rfl⟩ := List.length_eq_one_iff.1 hf.1.symm
        have := hf.2 0 (some q) v rfl rfl
        cases v <;> simp [fitC] at this
        exact ⟨_, by simp [Program.keyLits, hu, this]; rfl⟩
      · cases h
    · rename_i n e hu
      split at h
      · rename_i s hs
        split at h
        · rename_i hc
          obtain rfl := Option.some.inj h
          obtain ⟨hl, ih⟩ := lits_of m e s hs
          have hlen : (List.replicate n s).flatten.length = P.cellsOf t := by rw [hc, ← hl]; simp
          refine ⟨hlen, fun D hD cs hf => ?_⟩
          obtain ⟨D, rfl⟩ : ∃ d, D = d + 1 := ⟨D - 1, by omega⟩
          have hcl : cs.length = P.cellsOf t := by rw [← hf.1, hlen]
          have hex : ∀ i ∈ List.range n, ∃ l, P.keyLits D e ((cs.drop (i * P.cellsOf e)).take (P.cellsOf e)) = some l := by
            intro i hi
            have hi' : i < n := List.mem_range.1 hi
            have hb : i * P.cellsOf e + P.cellsOf e ≤ n * P.cellsOf e := by rw [← Nat.succ_mul]; exact Nat.mul_le_mul_right _ hi'
            refine ih D (by omega) _ ?_
            have := hf.sub (s := s) (i * P.cellsOf e) (by rw [hl]; omega) (fun j hj => by rw [← hl]; exact flat_rep s n i j hi' hj)
            rwa [hl] at this
          obtain ⟨ys, hys⟩ := mapM_ex hex
          exact ⟨ys.flatten, by unfold Program.keyLits; simp only [hu]; rw [if_pos hcl, hys]; rfl⟩
        · cases h
      · cases h
    · rename_i fs hu
      split at h
      · rename_i ss hss
        split at h
        · rename_i hc
          obtain rfl := Option.some.inj h
          have hll : ∀ f ∈ fs.toList, ∀ s, kindsOf P m f.type = some s → s.length = P.cellsOf f.type := fun f _ s hs => (lits_of m f.type s hs).1
          obtain ⟨h1, h2⟩ := runs_flat fs.toList ss 0 (P.cellsOf t) (fun f => kindsOf P m f.type) hss hll hc.1
          refine ⟨by omega, fun D hD cs hf => ?_⟩
          obtain ⟨D, rfl⟩ : ∃ d, D = d + 1 := ⟨D - 1, by omega⟩
          have hcl : cs.length = P.cellsOf t := by rw [← hf.1]; omega
          have hex : ∀ f ∈ fs.toList, ∃ l, P.keyLits D f.type ((cs.drop f.offset).take (P.cellsOf f.type)) = some l := by
            intro f hfm
            obtain ⟨s, hs⟩ : ∃ s, kindsOf P m f.type = some s := by
              cases hk : kindsOf P m f.type with
              | some s => exact ⟨s, rfl⟩
              | none =>
                exfalso
                obtain ⟨i, hi, rfl⟩ := List.mem_iff_getElem.1 hfm
                have : ∀ (l : List Field), (∃ x ∈ l, kindsOf P m x.type = none) → l.mapM (fun f => kindsOf P m f.type) = none := by
                  intro l
                  induction l with
                  | nil => rintro ⟨_, h, _⟩; simp at h
                  | cons x t iht =>
                    rintro ⟨y, hy, hn⟩
                    rw [List.mapM_cons]
                    rcases List.mem_cons.1 hy with rfl | hy
                    · rw [hn]; rfl
                    · cases hkx : kindsOf P m x.type with
                      | none => rfl
                      | some _ => rw [iht ⟨y, hy, hn⟩]; rfl
                rw [this fs.toList ⟨_, hfm, hk⟩] at hss
                cases hss
            obtain ⟨hl, ih⟩ := lits_of m f.type s hs
            obtain ⟨_, h4, h5⟩ := h2 f hfm s hs
            refine ih D (by omega) _ ?_
            have := hf.sub (s := s) f.offset (by omega) (fun j hj => by have := h5 j hj; rwa [Nat.sub_zero] at this)
            rwa [hl] at this
          obtain ⟨ys, hys⟩ := mapM_ex hex
          exact ⟨ys.flatten, by unfold Program.keyLits; simp only [hu]; rw [if_pos ⟨hcl, hc.2⟩, hys]; rfl⟩
        · cases h
      · cases h
    · cases h
theorem FitK.nil : FitK [] [] := ⟨rfl, fun i k v h => by simp at h⟩
theorem FitK.cons {k : Option IntKind} {v : Value} {ks : List (Option IntKind)} {cs : List Value} (h : fitC k v = true) (t : FitK ks cs) : FitK (k :: ks) (v :: cs) := by
  refine ⟨by simp [t.1], fun i k' v' hk hv => ?_⟩
  cases i with
  | zero => simp at hk hv; subst hk; subst hv; exact h
  | succ i => exact t.2 i k' v' (by simpa using hk) (by simpa using hv)
theorem FitK.append {ks ks' : List (Option IntKind)} {cs cs' : List Value} (h : FitK ks cs) (t : FitK ks' cs') : FitK (ks ++ ks') (cs ++ cs') := by
  refine ⟨by simp [h.1, t.1], fun i k v hk hv => ?_⟩
  by_cases hi : i < ks.length
  · rw [List.getElem?_append_left hi] at hk
    rw [List.getElem?_append_left (by rw [← h.1]; exact hi)] at hv
    exact h.2 i k v hk hv
  · rw [List.getElem?_append_right (by omega)] at hk
    rw [List.getElem?_append_right (by rw [← h.1]; omega), ← h.1] at hv
    exact t.2 _ k v hk hv
theorem fit_int {a : Int} (h1 : -9223372036854775808 ≤ a) (h2 : a ≤ 9223372036854775807) : fitC (some .i64) (.int .i64 a) = true := by
  simp [fitC, Lit.wf, IntKind.min, IntKind.max, IntKind.signed, IntKind.bits]
  omega
theorem fit_byte (b : UInt8) : fitC (some .u8) (.int .u8 (b.toNat : Int)) = true := by
  have := b.toNat_lt
  simp [fitC, Lit.wf, IntKind.min, IntKind.max, IntKind.signed, IntKind.bits]
  omega
/-- A struct or an array that may be a key. -/
def keyB (P : Program) (m t : Nat) (ks : List (Option IntKind)) : Bool :=
  kindsOf P m t == some ks && P.keyTypeAt m t && P.tiled m t && P.keyType t && decide (m ≤ P.types.size + 1) && decide (m + 1 ≤ 10000) && (match P.underlying t with | some (.array _ _) | some (.struct _) => true | _ => false)
theorem keyB_out {m t : Nat} {ks : List (Option IntKind)} (h : keyB P m t ks = true) : kindsOf P m t = some ks ∧ P.keyTypeAt m t = true ∧ P.tiled m t = true ∧ P.keyType t = true ∧ m ≤ P.types.size + 1 ∧ m + 1 ≤ 10000 ∧ (match P.underlying t with | some (.array _ _) | some (.struct _) => true | _ => false) = true := by
  simp only [keyB, Bool.and_eq_true, beq_iff_eq, decide_eq_true_eq] at h
  obtain ⟨⟨⟨⟨⟨⟨h1, h2⟩, h3⟩, h4⟩, h5⟩, h6⟩, h7⟩ := h
  exact ⟨h1, h2, h3, h4, h5, h6, h7⟩
theorem keyed_of {m t : Nat} {ks : List (Option IntKind)} (h : keyB P m t ks = true) : Keyed P t := by
  obtain ⟨_, h2, h3, _, _, h6, h7⟩ := keyB_out h
  exact Keyed.of_law (deep_law h6 h2 h3 h7)
theorem keyOf_of {m t : Nat} {ks : List (Option IntKind)} (h : keyB P m t ks = true) {cs : List Value} (hf : FitK ks cs) : ∃ l, keyOf P t (.agg cs.toArray) = some l := by
  obtain ⟨h1, h2, h3, h4, h5, h6, h7⟩ := keyB_out h
  obtain ⟨hl, ih⟩ := lits_of m t ks h1
  obtain ⟨l, hll⟩ := ih (P.types.size + 1) h5 cs hf
  have hfm : (Value.agg cs.toArray).formed P t = true := by
    unfold Value.formed
    split at h7 <;> simp_all [hf.1.symm]
  unfold keyOf
  split at h7
  · rename_i hu
    simp only [hu]
    rw [if_pos (by rw [h4, hfm]; rfl)]
    simp [Value.cells, hll]
  · rename_i hu
    simp only [hu]
    rw [if_pos (by rw [h4, hfm]; rfl)]
    simp [Value.cells, hll]
  · cases h7
end
section
variable {P : Program} {n : Nat} {L : List (Nat × Value)} {w w' : World} {Q : Exit → Act → World → Prop} {ops : Array Oper} {rest : List Oper} {ty : TypeId} {pos : String} {af : Array Edge} {d : Nat}
/-- Structs held against each other. -/
theorem wl_eqlK {m t u : Nat} {ks : List (Option IntKind)} {x y : Operand} {xs ys : List Value} (p : Prop) [Decidable p] (hd : d < n) (hB : keyB P m t ks = true) (hG : P.eqGuardType P.depth t = false) (hx : ev L x = some (.agg xs.toArray)) (hy : ev L y = some (.agg ys.toArray))
    (fx : FitK ks xs) (fy : FitK ks ys) (hp : p ↔ xs = ys) (h : WL P n ops Q rest ((d, .bool (decide p)) :: L) w) :
    WL P n ops Q ({ dst := some d, op := .binOp .eql t x y u, type := ty, pos := pos, after := af, guard := none } :: rest) L w := by
  refine wl_run hd (fun a ha => ?_) h
  obtain ⟨lx, hlx⟩ := keyOf_of hB fx
  obtain ⟨ly, hly⟩ := keyOf_of hB fy
  obtain ⟨_, h2, h3, _, _, h6, h7⟩ := keyB_out hB
  obtain ⟨r, hr, hiff⟩ := run_equal_deep w (by omega) h2 h7 hlx hly
  have hpr : r = decide p := by
    have : r = true ↔ p := by
      rw [hiff, hp]
      constructor
      · intro e
        subst e
        have := (keyed_of hB).inj hlx hly
        injection this with this
        exact congrArg Array.toList this
      · intro e
        subst e
        rw [hlx] at hly
        exact Option.some.inj hly
    cases r <;> by_cases hpp : p <;> simp_all
  simp [execOp, ha.eval hx, ha.eval hy, eqGuard, binOp, program, Sem.run, hG, hr, hpr]
end
end Go.Eng
