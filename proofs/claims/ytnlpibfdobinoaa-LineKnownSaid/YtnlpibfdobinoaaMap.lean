/- Maps of the call's own. Program-independent. -/
import Derived.Test.YtnlpibfdobinoaaStr
import Derived.Maps.Keyed
namespace Go.Eng
open Go.RowKit Go.Maps

/-- Block m is a map that tells f. -/
structure MapB (P : Program) (k : TypeId) (w : World) (m : Nat) (f : Value → Option Value) : Prop where
  ex : ∃ es clock, w.heap[m]? = some (.map es clock) ∧ (∀ x ∈ es.toList, ∃ l, keyOf P k x.key = some l) ∧ (∀ x ∈ es.toList, x.born < clock) ∧
    es.toList.Pairwise (fun x y => x.born ≠ y.born) ∧ es.toList.Pairwise (fun x y => x.key ≠ y.key) ∧ (∀ x ∈ es.toList, f x.key = some x.val) ∧ (∀ v u, f v = some u → ∃ x ∈ es.toList, x.key = v ∧ x.val = u)
section
variable {P : Program} {k e : TypeId} {w w' : World} {m : Nat} {f : Value → Option Value} {M : Nat → Prop}
theorem MapB.lt (h : MapB P k w m f) : m < w.heap.size := by
  obtain ⟨es, c, hb, _⟩ := h.ex
  exact (Array.getElem?_eq_some_iff.1 hb).1
theorem MapB.keep (ch : Chg M w w') (hm : ¬ M m) (h : MapB P k w m f) : MapB P k w' m f := by
  have hl := h.lt
  obtain ⟨es, c, hb, r⟩ := h.ex
  exact ⟨es, c, (ch.block m hl hm).trans hb, r⟩
theorem MapB.ext (h : MapB P k w m f) (ch : Ext w w') : MapB P k w' m f := h.keep ch (fun x => x)
theorem Chg.setObj (w : World) (m : Nat) (o : Obj) : Chg (fun b => b = m) w { w with heap := w.heap.setIfInBounds m o } :=
  ⟨rfl, rfl, rfl, by simp, fun k _ hk => by simp [Array.getElem?_setIfInBounds, Ne.symm hk]⟩

theorem MapB.find (K : Keyed P k) (h : MapB P k w m f) {key : Value} {l : Lit} (hk : keyOf P k key = some l) {es : Array MapEntry} {c : Nat} (hb : w.heap[m]? = some (.map es c)) :
    (f key = none ∧ (Instr.findKey k key es.toList).run P w = .ok none w ∧ ∀ x ∈ es.toList, x.key ≠ key) ∨
      ∃ j x, (Instr.findKey k key es.toList).run P w = .ok (some (j, x.val)) w ∧ es.toList[j]? = some x ∧ x.key = key ∧ f key = some x.val := by
  obtain ⟨es', c', hb', h1, h2, h3, h4, h5, h6⟩ := h.ex
  rw [hb] at hb'
  simp only [Option.some.injEq, Obj.map.injEq] at hb'
  obtain ⟨rfl, rfl⟩ := hb'
  rcases K.find w hk es.toList h1 with ⟨hf, hn⟩ | ⟨j, x, hf, hj, hx⟩
  · refine .inl ⟨?_, hf, hn⟩
    cases hv : f key with
    | none => rfl
    | some u =>
      obtain ⟨x, hm, hx, _⟩ := h6 _ _ hv
      exact absurd hx (hn x hm)
  · refine .inr ⟨j, x, hf, hj, hx, ?_⟩
    rw [← hx]
    exact h5 x (List.mem_of_getElem? hj)
end

section
variable {P : Program} {n : Nat} {L : List (Nat × Value)} {w w' : World} {Q : Exit → Act → World → Prop} {ops : Array Oper} {rest : List Oper} {ty : TypeId} {pos : String} {af : Array Edge} {d : Nat} {t k e : TypeId} {m : Nat} {f : Value → Option Value}

theorem wl_makeMap (hd : d < n) (h : ∀ g w', g = w.heap.size → MapB P k w' g (fun _ => none) → Ext w w' → WL P n ops Q rest ((d, .map (some g)) :: L) w') :
    WL P n ops Q ({ dst := some d, op := .makeMap t none, type := ty, pos := pos, after := af, guard := none } :: rest) L w := by
  refine wl_run hd (fun a ha => ?_) (h w.heap.size (w.alloc (.map #[] 0)) rfl ?_ (Ext.alloc _ _))
  · simp [execOp, Instr.makeMap, newObj, Sem.run]
  · exact ⟨#[], 0, heap_alloc_new w _, by simp, by simp, by simp, by simp, by simp, by simp⟩
/-- What a map tells of a key, or nought. -/
theorem wl_lookup {x ix : Operand} {key z : Value} {l : Lit} (hd : d < n) (K : Keyed P k) (ht : P.underlying t = some (.map k e)) (hz : (P.info? e).bind (·.zero) = some z) (hx : ev L x = some (.map (some m))) (hi : ev L ix = some key)
    (hk : keyOf P k key = some l) (hm : MapB P k w m f) (h : WL P n ops Q rest ((d, (f key).getD z) :: L) w) :
    WL P n ops Q ({ dst := some d, op := .lookup t x ix false, type := ty, pos := pos, after := af, guard := none } :: rest) L w := by
  refine wl_run hd (fun a ha => ?_) h
  obtain ⟨es, c, hb, _⟩ := hm.ex
  have hc := K.check w es.isEmpty hk
  have hg : (getObj m).run P w = .ok (.map es c) w := by simp [getObj, Sem.run, hb]
  have hzz : (zeroValue e).run P w = .ok z w := by
    cases hi : P.info? e with
    | none => rw [hi] at hz; cases hz
    | some i => rw [hi] at hz; simp only [Option.bind_some] at hz; simp [zeroValue, typeInfo, hi, hz]
  rcases hm.find K hk hb with ⟨hf, hr, _⟩ | ⟨j, y, hr, _, _, hf⟩
  · simp [execOp, ha.eval hx, ha.eval hi, Instr.lookup, run_underlying ht, hg, hc, hr, hzz, hf]
  · simp [execOp, ha.eval hx, ha.eval hi, Instr.lookup, run_underlying ht, hg, hc, hr, hf]
theorem wl_lookupOk {x ix : Operand} {key z : Value} {l : Lit} (hd : d < n) (K : Keyed P k) (ht : P.underlying t = some (.map k e)) (hz : (P.info? e).bind (·.zero) = some z) (hx : ev L x = some (.map (some m))) (hi : ev L ix = some key)
    (hk : keyOf P k key = some l) (hm : MapB P k w m f) (h : WL P n ops Q rest ((d, .tuple [(f key).getD z, .bool (f key).isSome].toArray) :: L) w) :
    WL P n ops Q ({ dst := some d, op := .lookup t x ix true, type := ty, pos := pos, after := af, guard := none } :: rest) L w := by
  refine wl_run hd (fun a ha => ?_) h
  obtain ⟨es, c, hb, _⟩ := hm.ex
  have hc := K.check w es.isEmpty hk
  have hg : (getObj m).run P w = .ok (.map es c) w := by simp [getObj, Sem.run, hb]
  have hzz : (zeroValue e).run P w = .ok z w := by
    cases hi : P.info? e with
    | none => rw [hi] at hz; cases hz
    | some i => rw [hi] at hz; simp only [Option.bind_some] at hz; simp [zeroValue, typeInfo, hi, hz]
  rcases hm.find K hk hb with ⟨hf, hr, _⟩ | ⟨j, y, hr, _, _, hf⟩
  · simp [execOp, ha.eval hx, ha.eval hi, Instr.lookup, run_underlying ht, hg, hc, hr, hzz, hf]
  · simp [execOp, ha.eval hx, ha.eval hi, Instr.lookup, run_underlying ht, hg, hc, hr, hf]
/-- What is told behind an update. -/
noncomputable def updF (f : Value → Option Value) (key u : Value) : Value → Option Value := fun v => open Classical in if v = key then some u else f v
theorem updF_same (f : Value → Option Value) (key u : Value) : updF f key u key = some u := by simp [updF]
theorem updF_other (f : Value → Option Value) {key u v : Value} (h : v ≠ key) : updF f key u v = f v := by simp [updF, h]
theorem modify_map {β : Type} (q : MapEntry → β) (es : Array MapEntry) (j : Nat) (g : MapEntry → MapEntry) (y : MapEntry) (hy : es[j]? = some y) (hq : q (g y) = q y) : (es.modify j g).toList.map q = es.toList.map q := by
  apply List.ext_getElem?
  intro i
  rw [List.getElem?_map, List.getElem?_map, Array.getElem?_toList, Array.getElem?_toList, Array.getElem?_modify]
  split
  · rename_i e
    subst e
    rw [hy]
    simp [hq]
  · rfl
theorem MapB.upd (K : Keyed P k) {key u : Value} {l : Lit} (hk : keyOf P k key = some l) (hm : MapB P k w m f) (ht : P.underlying t = some (.map k e)) :
    ∃ w', (Instr.mapUpdate t (.map (some m)) key u).run P w = .ok () w' ∧ MapB P k w' m (updF f key u) ∧ Chg (fun b => b = m) w w' := by
  obtain ⟨es, c, hb, h1, h2, h3, h4, h5, h6⟩ := hm.ex
  have hc := K.check w false hk
  have hs := K.stays w hk
  have hg : (getObj m).run P w = .ok (.map es c) w := by simp [getObj, Sem.run, hb]
  have hlt := hm.lt
  have hso : ∀ o : Obj, (setObj m o).run P w = .ok () { w with heap := w.heap.setIfInBounds m o } := by intro o; simp [setObj, Sem.run, hb]
  rcases hm.find K hk hb with ⟨hf, hr, hn⟩ | ⟨j, y, hr, hj, hy, hf⟩
  · refine ⟨_, by simp only [Instr.mapUpdate, run_underlying ht, Sem.run_bind, Result.andThen_ok, hg, hc, hr]; exact hso _, ?_, Chg.setObj w m _⟩
    refine ⟨_, _, by simp [hlt]; exact ⟨rfl, rfl⟩, ?_, ?_, ?_, ?_, ?_, ?_⟩
    · intro x hx
      simp only [Array.toList_push, List.mem_append, List.mem_singleton] at hx
      rcases hx with hx | rfl
      · exact h1 x hx
      · exact ⟨l, hk⟩
    · intro x hx
      simp only [Array.toList_push, List.mem_append, List.mem_singleton] at hx
      rcases hx with hx | rfl
      · have := h2 x hx; omega
      · exact Nat.lt_succ_self _
    · rw [Array.toList_push, List.pairwise_append]
      refine ⟨h3, by simp, fun x hx y hy => ?_⟩
      rw [List.mem_singleton.1 hy]
      have := h2 x hx
      exact Nat.ne_of_lt this
    · rw [Array.toList_push, List.pairwise_append]
      refine ⟨h4, by simp, fun x hx y hy => ?_⟩
      rw [List.mem_singleton.1 hy]
      exact hn x hx
    · intro x hx
      simp only [Array.toList_push, List.mem_append, List.mem_singleton] at hx
      rcases hx with hx | rfl
      · rw [updF_other f (hn x hx)]; exact h5 x hx
      · exact updF_same f _ _
    · intro v u' hv
      by_cases he : v = key
      · subst he
        rw [updF_same] at hv
        exact ⟨⟨v, u, c⟩, by simp, rfl, Option.some.inj hv⟩
      · rw [updF_other f he] at hv
        obtain ⟨x, hx, hxk, hxv⟩ := h6 v u' hv
        exact ⟨x, by simp [hx], hxk, hxv⟩
  · subst hy
    have hj2 : es[j]? = some y := by simpa using hj
    refine ⟨_, by
      simp only [Instr.mapUpdate, run_underlying ht, Sem.run_bind, Result.andThen_ok, hg, hc, hr]
      simp only [hj2, Option.map_some, Option.getD_some, hs, Sem.run_bind, Result.andThen_ok]
      exact hso _, ?_, Chg.setObj w m _⟩
    have hmem : ∀ x ∈ (es.modify j fun e => { e with key := y.key, val := u }).toList, (x.key = y.key ∧ x.val = u ∧ x.born = y.born) ∨ (x ∈ es.toList ∧ x.key ≠ y.key) := by
      intro x hx
      obtain ⟨i, hi, rfl⟩ := List.mem_iff_getElem.1 hx
      have hi' : i < es.size := by simpa using hi
      rw [Array.getElem_toList, Array.getElem_modify]
      split
      · rename_i e
        subst e
        rw [Array.getElem?_eq_getElem hi'] at hj2
        exact .inl ⟨rfl, rfl, by rw [Option.some.inj hj2]⟩
      · rename_i e
        refine .inr ⟨by simp, fun hk' => e ?_⟩
        rw [List.pairwise_iff_getElem] at h4
        have hjl : j < es.toList.length := (List.getElem?_eq_some_iff.1 hj).1
        have hyj : es.toList[j] = y := (List.getElem?_eq_some_iff.1 hj).2
        rcases Nat.lt_trichotomy i j with hlt' | rfl | hgt
        · exact absurd (by rw [hyj, Array.getElem_toList, hk']) (h4 i j (by simpa using hi') hjl hlt')
        · rfl
        · exact absurd (by rw [hyj, Array.getElem_toList, hk']) (h4 j i hjl (by simpa using hi') hgt)
    refine ⟨_, _, by simp [hlt]; exact ⟨rfl, rfl⟩, ?_, ?_, ?_, ?_, ?_, ?_⟩
    · intro x hx
      rcases hmem x hx with ⟨e, _⟩ | ⟨hx, _⟩
      · exact ⟨l, by rw [e]; exact hk⟩
      · exact h1 x hx
    · intro x hx
      rcases hmem x hx with ⟨_, _, e⟩ | ⟨hx, _⟩
      · rw [e]; exact h2 y (List.mem_of_getElem? hj)
      · exact h2 x hx
    · have := modify_map (·.born) es j (fun e => { e with key := y.key, val := u }) y hj2 rfl
      have h3' : (es.toList.map (·.born)).Pairwise (· ≠ ·) := by rw [List.pairwise_map]; exact h3
      rw [← this, List.pairwise_map] at h3'
      exact h3'
    · have := modify_map (·.key) es j (fun e => { e with key := y.key, val := u }) y hj2 rfl
      have h4' : (es.toList.map (·.key)).Pairwise (· ≠ ·) := by rw [List.pairwise_map]; exact h4
      rw [← this, List.pairwise_map] at h4'
      exact h4'
    · intro x hx
      rcases hmem x hx with ⟨e, e2, _⟩ | ⟨hx, hne⟩
      · rw [e, e2]; exact updF_same f _ _
      · rw [updF_other f hne]; exact h5 x hx
    · intro v u' hv
      by_cases he : v = y.key
      · subst he
        rw [updF_same] at hv
        refine ⟨{ y with val := u }, ?_, rfl, Option.some.inj hv⟩
        rw [List.mem_iff_getElem?]
        exact ⟨j, by rw [Array.getElem?_toList, Array.getElem?_modify, if_pos rfl, hj2]; rfl⟩
      · rw [updF_other f he] at hv
        obtain ⟨x, hx, rfl, hxv⟩ := h6 v u' hv
        refine ⟨x, ?_, rfl, hxv⟩
        obtain ⟨i, hi⟩ := List.mem_iff_getElem?.1 hx
        rw [List.mem_iff_getElem?]
        refine ⟨i, ?_⟩
        rw [Array.getElem?_toList, Array.getElem?_modify, if_neg, ← Array.getElem?_toList, hi]
        rintro rfl
        rw [hi] at hj
        exact he (by rw [Option.some.inj hj])
theorem wl_mapUpdate {x ix y : Operand} {key u : Value} {l : Lit} (K : Keyed P k) (ht : P.underlying t = some (.map k e)) (hx : ev L x = some (.map (some m))) (hi : ev L ix = some key) (hy : ev L y = some u)
    (hk : keyOf P k key = some l) (hm : MapB P k w m f) (h : ∀ w', MapB P k w' m (updF f key u) → Chg (fun b => b = m) w w' → WL P n ops Q rest L w') :
    WL P n ops Q ({ dst := none, op := .mapUpdate t x ix y, type := ty, pos := pos, after := af, guard := none } :: rest) L w := by
  obtain ⟨w', hr, hm', hch⟩ := hm.upd (u := u) K hk ht
  exact wl_eff (fun a ha => by simp only [execOp, ha.eval hx, ha.eval hi, ha.eval hy, Sem.run_bind, hr, Result.andThen_ok, Sem.run_pure]) (h w' hm' hch)
end
end Go.Eng
