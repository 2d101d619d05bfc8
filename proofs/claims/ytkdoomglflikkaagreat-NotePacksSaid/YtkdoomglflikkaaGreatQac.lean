/- Part 3 of what the proof of NotePacks stands on: the engine, and facts on the program's tables. -/
import Derived.Test.YtkdoomglflikkaaGreatQab
namespace Go.Eng
open Go.RowKit
section
variable {P : Program} {n : Nat} {L : List (Nat × Value)} {w : World} {Q : Exit → Act → World → Prop} {ops : Array Oper} {rest : List Oper} {ty : TypeId} {pos : String} {af : Array Edge} {d : Nat}
def cmpFn (P : Program) (f : FuncId) : Bool := match P.funcs[f]? with
 | some fn => !(fn.name == "runtime.NumGoroutine") && fn.body.isNone && (Extern.findNext fn).isNone && (fn.name == "internal/bytealg.Compare")
 | none => false
theorem loadB {w : World} : ∀ (l : List UInt8) (a : Addr) (acc : ByteArray), At w a (l.map fun b => bv b) → (Extern.Bytes.loadBytes a l.length acc).run P w = .ok ⟨acc.data ++ l.toArray⟩ w
 | [], a, acc, _ => by simp [Extern.Bytes.loadBytes]
 | x :: l, a, acc, h => by
  have h0 : w.cell? a = some (bv x) := by
   have := h 0 (bv x) rfl
   simpa [Addr.add] using this
  have ih := loadB (w := w) l (a.add 1) (acc.push x) (fun j y hy => by
   have := h (j + 1) y (by simpa using hy)
   have e : (a.add 1).add j = a.add (j + 1) := by
    unfold Addr.add
    by_cases hj : j = 0
    ·subst hj; simp
    ·simp [hj]; omega
   rw [e]; exact this)
  have hx : ((x.toNat : Int)).toNat.toUInt8 = x := by simp
  simp only [List.length_cons, Extern.Bytes.loadBytes, Sem.run_bind, run_load, h0, Result.andThen, bv]
  rw [hx, ih]
  congr 1
  apply ByteArray.ext
  simp [ByteArray.push]
theorem bytesOf_bs {S : Nat → Prop} {A : Option Addr} {c : Nat} {l : List UInt8} (h : BS S w A c l) : (Extern.Bytes.bytesOf (.slice A l.length c)).run P w = .ok ⟨l.toArray⟩ w := by
 cases A with
 | none =>
  cases l with
  | nil => simp [Extern.Bytes.bytesOf]; rfl
  | cons x t =>
   obtain ⟨a, _, ha, _⟩ := h.rd 0 (by simp)
   cases ha
 | some a =>
  simp only [Extern.Bytes.bytesOf]
  have hat : At w a (l.map fun b => bv b) := by
   intro j v hj
   rw [List.getElem?_map] at hj
   cases hl : l[j]? with
   | none => rw [hl] at hj; cases hj
   | some x =>
    rw [hl] at hj
    simp only [Option.map_some, Option.some.injEq] at hj
    subst hj
    have hjl : j < l.length := (List.getElem?_eq_some_iff.1 hl).1
    obtain ⟨a', cs, ha, _, _, hc, hr⟩ := h.rd j hjl
    cases ha
    obtain rfl : cs = [bv l[j]] := hr
    have := hc 0 _ rfl
    have hx : l[j] = x := (List.getElem?_eq_some_iff.1 hl).2
    rw [hx] at this
    have e : (a.add (j * byteR.size)).add 0 = a.add j := by
     show (a.add (j * 1)).add 0 = a.add j
     rw [Nat.mul_one]; unfold Addr.add; simp
    rwa [e] at this
  have := loadB (P := P) l a .empty hat
  rw [this]
  congr 1
  apply ByteArray.ext
  simp
theorem wl_cmpB {f : FuncId} {xs : List Operand} {A B : Option Addr} {c k : Nat} {la lb : List UInt8} {S S' : Nat → Prop} {ts : Array TypeId} (hd : d < n) (hf : cmpFn P f = true) (hx : evs L xs = some [.slice A la.length c, .slice B lb.length k]) (ha : BS S w A c la) (hb : BS S' w B k lb)
  (h : WL P n ops Q rest ((d, .int .i64 (Lib.compareBytes la lb)) :: L) w) :
  WL P n ops Q ({ dst := some d, op := .call { callee := .value (.func f), args := xs.toArray, argTypes := ts }, type := ty, pos := pos, after := af, guard := none } :: rest) L w := by
 unfold cmpFn at hf
 split at hf
 ·rename_i fn hfn
  simp only [Bool.and_eq_true, Bool.not_eq_true', beq_iff_eq] at hf
  obtain ⟨⟨⟨h1, h2⟩, h3⟩, h4⟩ := hf
  have he : Extern.find fn = some Extern.BytealgCompare.compare := by
   unfold Extern.find
   rw [h4]
   kernel_rfl
  have hrun := run_callFunc_extern hfn (by simpa using h1) h2 (by simpa using h3) he #[.slice A la.length c, .slice B lb.length k] w
  have hcmp : (Extern.BytealgCompare.compare #[.slice A la.length c, .slice B lb.length k]).run P w = .ok (.int .i64 (Lib.compareBytes la lb)) w := by
   change Sem.run P (do pure (goInt (Extern.BytealgCompare.cmp (← Extern.Bytes.bytesOf (.slice A la.length c)) (← Extern.Bytes.bytesOf (.slice B lb.length k))))) w = _
   simp only [Sem.run_bind, Sem.run_pure, bytesOf_bs ha, bytesOf_bs hb, Result.andThen_ok]
   rw [Lib.cmp_eq]
   rfl
  rw [hcmp] at hrun
  refine wl_run hd (fun a haf => ?_) h
  have hm := evs_map haf hx
  simp [execOp, resolve, Act.eval, Deferred.ofValue, invoke, hm, hrun, Result.andThen]
 ·cases hf
theorem wl_bsliceI {t e bytes : Nat} {xs : List Operand} {l : List Int} {k : Nat} {ps : Array (Nat × Operand)} (hd : d < n) (hT : slB P t e 1 bytes = true) (hp : ps = (partsOf 0 xs).toArray) (hv : evs L xs = some (l.map fun n => .int .i64 n)) (hk : k = l.length) (hm : l.length ≤ 16777216)
  (h : ∀ g w', GS intR (fun _ => True) w' (some ⟨g, 0, none⟩) k l → Ext w w' → WL P n ops Q rest ((d, .slice (some ⟨g, 0, none⟩) l.length k) :: L) w') :
  WL P n ops Q ({ dst := some d, op := .buildSlice t k ps, type := ty, pos := pos, after := af, guard := none } :: rest) L w :=
 wl_bsliceE (fun _ => rfl) hd hT hp hv hk hm 0 (Nat.zero_le _) (fun g w' _ ho hE => h g w' (ho.gsF (fun _ _ _ => trivial)) hE)
end
end Go.Eng
namespace Go.Eng
theorem cmpB_lt : ∀ (a b : List UInt8), a.length = b.length → (Lib.compareBytes a b < 0 ↔ ltD a b = true)
 | [], [], _ => by simp [Lib.compareBytes, ltD]
 | [], _ :: _, h => by simp at h
 | _ :: _, [], h => by simp at h
 | x :: a, y :: b, h => by
  have ih := cmpB_lt a b (by simpa using h)
  unfold Lib.compareBytes ltD
  by_cases hxy : x = y
  ·subst hxy
   have hlt : ¬ x < x := UInt8.lt_irrefl x
   simp only [hlt, if_false, if_true]
   exact ih
  ·rw [if_neg hxy, decide_eq_true_eq]
   have e : x < y ↔ x.toNat < y.toNat := UInt8.lt_iff_toNat_lt
   by_cases h1 : x < y
   ·rw [if_pos h1]; exact ⟨fun _ => e.1 h1, fun _ => by omega⟩
   ·rw [if_neg h1]
    have hne : x.toNat ≠ y.toNat := fun he => hxy (UInt8.toNat_inj.1 he)
    have h2 : y < x := UInt8.lt_iff_toNat_lt.2 (by have h3 : ¬ x.toNat < y.toNat := fun h => h1 (e.2 h); omega)
    rw [if_pos h2]
    exact ⟨fun h => by omega, fun h => absurd (e.2 h) h1⟩
def cntM (l : List Stn) (s : Int) (g : Dig) : Nat := (l.filter fun x => decide (x.seq = s ∧ x.dig = g)).length
theorem cntM_snoc (l : List Stn) (x : Stn) (s : Int) (g : Dig) : cntM (l ++ [x]) s g = cntM l s g + (if x.seq = s ∧ x.dig = g then 1 else 0) := by
 unfold cntM
 rw [List.filter_append, List.length_append]
 by_cases h : x.seq = s ∧ x.dig = g <;> simp [h]
theorem cntM_zero {l : List Stn} {i : Nat} {s : Int} {g : Dig} (hi : i ≤ l.length) : cntM (l.take i) s g = 0 ↔ ∀ k, k < i → ¬ ((l.getD k stand0).seq = s ∧ (l.getD k stand0).dig = g) := by
 unfold cntM
 rw [List.length_eq_zero_iff, List.filter_eq_nil_iff]
 constructor
 ·intro h k hk hc
  refine h (l.getD k stand0) ?_ (by simpa using hc)
  rw [List.mem_iff_getElem?]
  refine ⟨k, ?_⟩
  rw [List.getElem?_take, if_pos hk, List.getD_eq_getElem?_getD, List.getElem?_eq_getElem (by omega)]
  rfl
 ·intro h x hx hc
  obtain ⟨k, hk⟩ := List.mem_iff_getElem?.1 hx
  rw [List.getElem?_take] at hk
  split at hk
  ·rename_i hki
   refine h k hki ?_
   rw [List.getD_eq_getElem?_getD, hk]
   simpa using hc
  ·cases hk
end Go.Eng
namespace Go.Eng
open Go.RowKit Go.Maps
section
variable {P : Program} {n : Nat} {L : List (Nat × Value)} {w w' : World} {Q : Exit → Act → World → Prop} {ops : Array Oper} {rest : List Oper} {ty : TypeId} {pos : String} {af : Array Edge} {d : Nat} {t k e : TypeId} {m : Nat} {f : Value → Option Value}
def Born (w : World) (m : Nat) (key : Value) (b : Nat) : Prop := ∃ es c x, w.heap[m]? = some (.map es c) ∧ x ∈ es.toList ∧ x.key = key ∧ x.born = b
theorem idx_born {es : Array MapEntry} {j : Nat} {y : MapEntry} (hj : es[j]? = some y) (h3 : es.toList.Pairwise (fun x y => x.born ≠ y.born)) : es.findIdx? (fun e => (e.born : Int) == (y.born : Int)) = some j := by
 obtain ⟨hjl, hyj⟩ := Array.getElem?_eq_some_iff.1 hj
 rw [Array.findIdx?_eq_some_iff_getElem]
 refine ⟨hjl, by rw [hyj]; simp, fun i hi => ?_⟩
 rw [List.pairwise_iff_getElem] at h3
 have := h3 i j (by simp; omega) (by simpa using hjl) hi
 rw [Array.getElem_toList, Array.getElem_toList, hyj] at this
 simp only [Bool.not_eq_true, beq_eq_false_iff_ne, ne_eq]
 intro e
 exact this (by exact_mod_cast e)
theorem MapB.entS {key u : Value} {b : Nat} (hm : MapB P k w m f) (hB : Born w m key b) :
  ∃ w', (Instr.entryStore t (.map (some m)) (goInt b) u).run P w = .ok () w' ∧ MapB P k w' m (updF f key u) ∧ Chg (fun b => b = m) w w' := by
 obtain ⟨es, c, hb, h1, h2, h3, h4, h5, h6⟩ := hm.ex
 obtain ⟨es', c', y, hb', hy, hyk, hyb⟩ := hB
 rw [hb] at hb'
 simp only [Option.some.injEq, Obj.map.injEq] at hb'
 obtain ⟨rfl, rfl⟩ := hb'
 subst hyk
 subst hyb
 have hlt := hm.lt
 have hg : (getObj m).run P w = .ok (.map es c) w := by simp [getObj, Sem.run, hb]
 have hso : ∀ o : Obj, (setObj m o).run P w = .ok () { w with heap := w.heap.setIfInBounds m o } := by intro o; simp [setObj, Sem.run, hb]
 have hai : (asInt (goInt y.born)).run P w = .ok (y.born : Int) w := by simp [asInt, asIntOf, goInt]
 obtain ⟨j, hj⟩ := List.mem_iff_getElem?.1 hy
 have hj2 : es[j]? = some y := by simpa using hj
 have hfi := idx_born hj2 h3
 refine ⟨_, by
  simp only [Instr.entryStore, Sem.run_bind, Result.andThen_ok, hg, hai, hfi]
  exact hso _, ?_, Chg.setObj w m _⟩
 have hmem : ∀ x ∈ (es.modify j fun e => { e with val := u }).toList, (x.key = y.key ∧ x.val = u ∧ x.born = y.born) ∨ (x ∈ es.toList ∧ x.key ≠ y.key) := by
  intro x hx
  obtain ⟨i, hi, rfl⟩ := List.mem_iff_getElem.1 hx
  have hi' : i < es.size := by simpa using hi
  rw [Array.getElem_toList, Array.getElem_modify]
  split
  ·rename_i e
   subst e
   rw [Array.getElem?_eq_getElem hi'] at hj2
   have hyy := Option.some.inj hj2
   exact .inl ⟨by have := congrArg MapEntry.key hyy; exact this, rfl, by have := congrArg MapEntry.born hyy; exact this⟩
  ·rename_i e
   refine .inr ⟨by simp, fun hk' => e ?_⟩
   rw [List.pairwise_iff_getElem] at h4
   have hjl : j < es.toList.length := (List.getElem?_eq_some_iff.1 hj).1
   have hyj : es.toList[j] = y := (List.getElem?_eq_some_iff.1 hj).2
   rcases Nat.lt_trichotomy i j with hlt' | rfl | hgt
   ·exact absurd (by rw [hyj, Array.getElem_toList, hk']) (h4 i j (by simpa using hi') hjl hlt')
   ·rfl
   ·exact absurd (by rw [hyj, Array.getElem_toList, hk']) (h4 j i hjl (by simpa using hi') hgt)
 refine ⟨_, _, by simp [hlt]; exact ⟨rfl, rfl⟩, ?_, ?_, ?_, ?_, ?_, ?_⟩
 ·intro x hx
  rcases hmem x hx with ⟨e, _⟩ | ⟨hx, _⟩
  ·obtain ⟨l, hl⟩ := h1 y (List.mem_of_getElem? hj)
   exact ⟨l, by rw [e]; exact hl⟩
  ·exact h1 x hx
 ·intro x hx
  rcases hmem x hx with ⟨_, _, e⟩ | ⟨hx, _⟩
  ·rw [e]; exact h2 y (List.mem_of_getElem? hj)
  ·exact h2 x hx
 ·have := modify_map (·.born) es j (fun e => { e with val := u }) y hj2 rfl
  have h3' : (es.toList.map (·.born)).Pairwise (· ≠ ·) := by rw [List.pairwise_map]; exact h3
  rw [← this, List.pairwise_map] at h3'
  exact h3'
 ·have := modify_map (·.key) es j (fun e => { e with val := u }) y hj2 rfl
  have h4' : (es.toList.map (·.key)).Pairwise (· ≠ ·) := by rw [List.pairwise_map]; exact h4
  rw [← this, List.pairwise_map] at h4'
  exact h4'
 ·intro x hx
  rcases hmem x hx with ⟨e, e2, _⟩ | ⟨hx, hne⟩
  ·rw [e, e2]; exact updF_same f _ _
  ·rw [updF_other f hne]; exact h5 x hx
 ·intro v u' hv
  by_cases he : v = y.key
  ·subst he
   rw [updF_same] at hv
   refine ⟨{ y with val := u }, ?_, rfl, Option.some.inj hv⟩
   rw [List.mem_iff_getElem?]
   exact ⟨j, by rw [Array.getElem?_toList, Array.getElem?_modify, if_pos rfl, hj2]; rfl⟩
  ·rw [updF_other f he] at hv
   obtain ⟨x, hx, rfl, hxv⟩ := h6 v u' hv
   refine ⟨x, ?_, rfl, hxv⟩
   obtain ⟨i, hi⟩ := List.mem_iff_getElem?.1 hx
   rw [List.mem_iff_getElem?]
   refine ⟨i, ?_⟩
   rw [Array.getElem?_toList, Array.getElem?_modify, if_neg, ← Array.getElem?_toList, hi]
   rintro rfl
   rw [hi] at hj
   exact he (by rw [Option.some.inj hj])
theorem modify_self {es : Array MapEntry} {j : Nat} {y : MapEntry} (hj : es[j]? = some y) {g : MapEntry → MapEntry} (hg : g y = y) : es.modify j g = es := by
 apply Array.ext_getElem?
 intro i
 rw [Array.getElem?_modify]
 split
 ·rename_i e
  subst e
  rw [hj]
  simp [hg]
 ·rfl
theorem updF_self {key u : Value} (h : f key = some u) : updF f key u = f := by
 funext v
 by_cases e : v = key
 ·subst e; rw [updF_same, h]
 ·exact updF_other f e
theorem MapB.entM (K : Keyed P k) {key z : Value} {l : Lit} (hk : keyOf P k key = some l) (hm : MapB P k w m f) (ht : P.underlying t = some (.map k e)) (hz : (P.info? e).bind (·.zero) = some z) :
  ∃ w' b, (Instr.mapEntry t (.map (some m)) key).run P w = .ok (.tuple #[(f key).getD z, goInt (b : Nat)]) w' ∧ MapB P k w' m (updF f key ((f key).getD z)) ∧ Born w' m key b ∧ Chg (fun b => b = m) w w' := by
 have hm0 := hm
 obtain ⟨es, c, hb, h1, h2, h3, h4, h5, h6⟩ := hm.ex
 have hc := K.check w false hk
 have hs := K.stays w hk
 have hg : (getObj m).run P w = .ok (.map es c) w := by simp [getObj, Sem.run, hb]
 have hlt := hm.lt
 have hso : ∀ o : Obj, (setObj m o).run P w = .ok () { w with heap := w.heap.setIfInBounds m o } := by intro o; simp [setObj, Sem.run, hb]
 have hzz : (zeroValue e).run P w = .ok z w := by
  cases hi : P.info? e with
  | none => rw [hi] at hz; cases hz
  | some i =>
   rw [hi] at hz
   simp only [Option.bind_some] at hz
   simp [zeroValue, typeInfo, hi, hz]
 rcases hm.find K hk hb with ⟨hf, hr, hn⟩ | ⟨j, y, hr, hj, hy, hf⟩
 ·rw [hf, Option.getD_none]
  obtain ⟨w2, hr2, hm2, hc2⟩ := hm0.upd (u := z) K hk ht
  have he2 : (Instr.mapUpdate t (.map (some m)) key z).run P w = .ok () { w with heap := w.heap.setIfInBounds m (.map (es.push { key, val := z, born := c }) (c + 1)) } := by
   simp only [Instr.mapUpdate, run_underlying ht, Sem.run_bind, Result.andThen_ok, hg, hc, hr]; exact hso _
  rw [he2] at hr2
  injection hr2 with _ hw
  subst hw
  refine ⟨_, c, by
   simp only [Instr.mapEntry, run_underlying ht, Sem.run_bind, Result.andThen_ok, hg, hc, hr, hzz, hso, Sem.run_pure]; (try rfl), hm2, ⟨_, _, ⟨key, z, c⟩, by simp [hlt]; exact ⟨rfl, rfl⟩, by simp, rfl, rfl⟩, hc2⟩
 ·subst hy
  have hj2 : es[j]? = some y := by simpa using hj
  rw [hf, Option.getD_some, updF_self hf]
  have hself : es.modify j (fun e => { e with key := y.key }) = es := modify_self hj2 rfl
  refine ⟨_, y.born, by
   simp only [Instr.mapEntry, run_underlying ht, Sem.run_bind, Result.andThen_ok, hg, hc, hr]
   simp only [hj2, Option.map_some, Option.getD_some, hs, Result.andThen_ok, hself, hso, Sem.run_pure]; (try rfl), ⟨es, c, by simp [hlt], h1, h2, h3, h4, h5, h6⟩, ⟨es, c, y, by simp [hlt], List.mem_of_getElem? hj, rfl, rfl⟩, Chg.setObj w m _⟩
variable {w0 : World} {M0 Fz : Nat → Prop} {H : List It} {i : Nat}
theorem wl_hmapEntry {x ix : Operand} {key z : Value} {l : Lit} (hd : d < n) (K : Keyed P k) (ht : P.underlying t = some (.map k e)) (hz : (P.info? e).bind (·.zero) = some z) (hx : ev L x = some (.map (some m))) (hix : ev L ix = some key)
  (hk : keyOf P k key = some l) (hp : HP w0 M0 Fz w H) (hi : H[i]? = some (itM P k m f))
  (h : ∀ w' b, HP w0 M0 Fz w' (H.set i (itM P k m (updF f key ((f key).getD z)))) → Born w' m key b → Chg (fun b => ¬ Fz b) w w' → WL P n ops Q rest ((d, .tuple #[(f key).getD z, goInt (b : Nat)]) :: L) w') :
  WL P n ops Q ({ dst := some d, op := .mapEntry t x ix, type := ty, pos := pos, after := af, guard := none } :: rest) L w := by
 obtain ⟨K', ⟨ho, hK⟩, _, hup⟩ := hp.focus hi
 obtain ⟨w', b, hr, hm', hB, hch⟩ := ho.entM K hk ht hz
 obtain ⟨hp', hc'⟩ := hup w' (itM P k m (updF f key ((f key).getD z))) K' (hch.weak (fun b _ e => (hK b).2 e)) ⟨hm', hK⟩ (fun b hb => .inl hb)
 exact wl_run hd (fun a ha => by simp only [execOp, ha.eval hx, ha.eval hix, Sem.run_bind, hr, Result.andThen_ok, Sem.run_pure]) (h w' b hp' hB hc')
theorem wl_hentS {x s y : Operand} {key u : Value} {b : Nat} (hx : ev L x = some (.map (some m))) (hs : ev L s = some (goInt (b : Nat))) (hy : ev L y = some u) (hp : HP w0 M0 Fz w H) (hi : H[i]? = some (itM P k m f)) (hB : Born w m key b)
  (h : ∀ w', HP w0 M0 Fz w' (H.set i (itM P k m (updF f key u))) → Chg (fun b => ¬ Fz b) w w' → WL P n ops Q rest L w') :
  WL P n ops Q ({ dst := none, op := .entryStore t x s y, type := ty, pos := pos, after := af, guard := none } :: rest) L w := by
 obtain ⟨K', ⟨ho, hK⟩, _, hup⟩ := hp.focus hi
 obtain ⟨w', hr, hm', hch⟩ := ho.entS (t := t) (u := u) hB
 obtain ⟨hp', hc'⟩ := hup w' (itM P k m (updF f key u)) K' (hch.weak (fun b _ e => (hK b).2 e)) ⟨hm', hK⟩ (fun b hb => .inl hb)
 exact wl_eff (fun a ha => by simp only [execOp, ha.eval hx, ha.eval hs, ha.eval hy, Sem.run_bind, hr, Result.andThen_ok, Sem.run_pure]) (h w' hp' hc')
theorem updF_updF (f : Value → Option Value) (key u v : Value) : updF (updF f key u) key v = updF f key v := by
 funext x
 by_cases e : x = key
 ·subst e; rw [updF_same, updF_same]
 ·rw [updF_other _ e, updF_other _ e, updF_other _ e]
end
end Go.Eng
namespace Go.Eng
open Go.RowKit Go.Maps
section
variable {P : Program} {n : Nat} {Q : Exit → Act → World → Prop} {L : List (Nat × Value)} {w w0 : World} {M0 Fz : Nat → Prop} {H : List It}
noncomputable def bumpH (P : Program) (k m : Nat) (f : Value → Option Value) (key z : Value) (H : List It) (i : Nat) (b : Bool) : List It := if b then H.set i (itM P k m (updF f key ((f key).getD z))) else H
def bumpW (m : Nat) (key v0 v1 : Value) : Nat → Value → World → Prop
 | 0, v, _ => v = .map (some m)
 | 1, v, _ => v = key
 | 2, v, _ => v = v0
 | 3, v, _ => v = v1
 | 4, v, w => ∃ b : Nat, v = .tuple #[v0, goInt b] ∧ Born w m key b
 | 5, v, w => ∃ b : Nat, v = goInt b ∧ Born w m key b
 | _, _, _ => True
theorem Born.ext {w w' : World} {m b : Nat} {key : Value} (h : Born w m key b) (hE : Ext w w') : Born w' m key b := by
 obtain ⟨es, c, x, hb, r⟩ := h
 exact ⟨es, c, x, (hE.block m (Array.getElem?_eq_some_iff.1 hb).1 (fun x => x)).trans hb, r⟩
theorem wc_bump {id k _e _t m i : Nat} {f : Value → Option Value} {key z : Value} {_lk' : Lit} {v1 : Value} {l : List Oper} (hm : P.follows .mixedOrders = true) (hB : drawnB (l.take 6) (l.drop 6) = true) (hC : (edgesOf l.toArray 5).contains 4 = true) (hl : l.length = 7)
  (hp : HP w0 M0 Fz w H) (_hi : H[i]? = some (itM P k m f))
  (X : AllOps (fun j o => ∀ F w' b, HP w0 M0 Fz w' (bumpH P k m f key z H i b) → Chg (fun b => ¬ Fz b) w w' → (j = 4 → b = false) → Kn l.toArray L (bumpW m key ((f key).getD z) v1) j F w' →
   WL P n l.toArray (QR n F (dstOf l.toArray j) fun v w'' => (if j = 4 then HP w0 M0 Fz w'' (bumpH P k m f key z H i true) ∧ Chg (fun b => ¬ Fz b) w' w'' else w'' = w') ∧ bumpW m key ((f key).getD z) v1 j v w'') [o] F w') 0 (l.take 6))
  (hQ : ∀ F w', HP w0 M0 Fz w' (bumpH P k m f key z H i true) → Chg (fun b => ¬ Fz b) w w' → (∀ x v, lk L x = some v → ((List.range (l.take 6).length).all fun j => match dstOf l.toArray j with | some d => !Nat.beq d x | none => true) = true → lk F x = some v) →
   (∀ j d, j < (l.take 6).length → dstOf l.toArray j = some d → ∃ v, lk F d = some v ∧ bumpW m key ((f key).getD z) v1 j v w') → WL P n l.toArray Q (l.drop 6) F w') :
  WK n ((Code.region id l.toArray true).wp P Q) L w := by
 have e0 : l.take 6 ++ l.drop 6 = l := List.take_append_drop 6 l
 have hC' : 4 ∈ edgesOf l.toArray 5 := by simpa [List.contains_iff_mem] using hC
 have key' := wc_drawV (P := P) (n := n) (id := id) (pre := l.take 6) (tl := l.drop 6) (Q := Q) (L := L) (w := w) (bumpW m key ((f key).getD z) v1)
  (fun g _ w' => HP w0 M0 Fz w' (bumpH P k m f key z H i (g 4)) ∧ Chg (fun b => ¬ Fz b) w w' ∧ (g 5 = true → g 4 = true))
  (fun j _ _ w' w'' => if j = 4 then HP w0 M0 Fz w'' (bumpH P k m f key z H i true) ∧ Chg (fun b => ¬ Fz b) w' w'' else w'' = w') hm hB
 rw [e0] at key'
 refine key' (fun g T q hf => ?_) (fun j g T T' v w1 w2 hgj hed hI hR _ _ _ => ?_) (fun a j v g T u w1 w2 haj hga hgj hed hI hR h => ?_) (fun j o ho g F w' hgj hed hI hK => ?_) (fun g F w' hall hI h2 h3 => ?_)
 ·rw [hf 4 (by omega), hf 5 (by omega)]
  exact ⟨hp.ext ⟨rfl, rfl, rfl, Nat.le_refl _, fun _ _ _ => rfl⟩, ⟨rfl, rfl, rfl, Nat.le_refl _, fun _ _ _ => rfl⟩, fun h => by cases h⟩
 ·obtain ⟨h1, h2, h3⟩ := hI
  by_cases hj : j = 4
  ·subst hj
   rw [if_pos rfl] at hR
   exact ⟨by simpa using hR.1, h2.step hR.2 (fun _ _ x => x), by simp⟩
  ·rw [if_neg hj] at hR
   subst hR
   refine ⟨by simpa [Ne.symm hj] using h1, h2, fun h => ?_⟩
   by_cases hj5 : j = 5
   ·subst hj5; simpa using hed 4 hC'
   ·have : g 5 = true := by simpa [Ne.symm hj5] using h
    simpa [Ne.symm hj] using h3 this
 ·by_cases ha : a = 4
  ·subst ha
   have hj5 : j ≠ 5 := fun h5 => by subst h5; rw [hI.2.2 hgj] at hga; cases hga
   match j, haj, hj5, h with
   | 0, _, _, h => exact h
   | 1, _, _, h => exact h
   | 2, _, _, h => exact h
   | 3, _, _, h => exact h
   | 4, h4, _, _ => exact absurd rfl h4
   | 5, _, h5, _ => exact absurd rfl h5
   | j + 6, _, _, _ => exact trivial
  ·rw [if_neg ha] at hR
   subst hR
   exact h
 ·have := X.at_ j o ho
  rw [Nat.zero_add] at this
  exact this F w' (g 4) hI.1 hI.2.1 (fun h4 => by rw [← h4]; exact hgj) hK
 ·have h4 := hall 4 (by rw [List.length_take]; omega)
  rw [h4] at hI
  exact hQ F w' hI.1 hI.2.1 h2 h3
end
end Go.Eng
namespace Go.Eng
open Go.RowKit
section
variable {P : Program} {n : Nat} {Q : Exit → Act → World → Prop} {L : List (Nat × Value)} {w : World}
def okE (ops : Array Oper) (m e de j dj : Nat) : Bool :=
 decide (e < m) && decide (j < m) && decide (m ≤ ops.size) && decide (j ≠ e) && (dstOf ops e == some de) && (dstOf ops j == some dj) && (edgesOf ops j).contains e && (List.range ops.size).all fun i => (decide (i = e) || !(dstOf ops i == some de)) && (decide (i = j) || !(dstOf ops i == some dj))
theorem wc_drawE {id : Nat} (m e de j dj : Nat) {l : List Oper} (Post : World → Value → World → Prop) (Ψ : Value → Value → World → Prop) (Φ : Nat → Value → Prop) (hm : P.follows .mixedOrders = true) (hB : drawnB (l.take m) (l.drop m) = true) (hO : okE l.toArray m e de j dj = true)
  (hPost : ∀ v w1 w2, Ext w1 w2 → Post w v w1 → Post w v w2) (hΨ : ∀ v u w1 w2, Ext w1 w2 → Ψ v u w1 → Ψ v u w2)
  (H : AllOps (fun i o => i = e ∨ i = j ∨ ∀ F w', (Ext w w' ∨ ∃ v, Post w v w') → Kn l.toArray L (fun i v _w => i = e ∨ i = j ∨ Φ i v) i F w' → WL P n l.toArray (QR n F (dstOf l.toArray i) fun v w'' => Ext w' w'' ∧ Φ i v) [o] F w') 0 (l.take m))
  (He : ∀ o, (l.take m)[e]? = some o → ∀ F w', Ext w w' → Kn l.toArray L (fun i v _w => i = e ∨ i = j ∨ Φ i v) e F w' → WL P n l.toArray (QR n F (some de) fun v w'' => Post w v w'') [o] F w')
  (Hj : ∀ o, (l.take m)[j]? = some o → ∀ F w' v, lk F de = some v → Post w v w' → Kn l.toArray L (fun i v _w => i = e ∨ i = j ∨ Φ i v) j F w' → WL P n l.toArray (QR n F (some dj) fun u w'' => Ext w' w'' ∧ Ψ v u w'') [o] F w')
  (hQ : ∀ F w' v u, lk F de = some v → Post w v w' → lk F dj = some u → Ψ v u w' → (∀ x v, lk L x = some v → ((List.range (l.take m).length).all fun i => match dstOf l.toArray i with | some d => !Nat.beq d x | none => true) = true → lk F x = some v) →
   (∀ i d, i < (l.take m).length → dstOf l.toArray i = some d → ∃ v, lk F d = some v ∧ (i = e ∨ i = j ∨ Φ i v)) → WL P n l.toArray Q (l.drop m) F w') :
  WK n ((Code.region id l.toArray true).wp P Q) L w := by
 have e0 : l.take m ++ l.drop m = l := List.take_append_drop m l
 unfold okE at hO
 simp only [Bool.and_eq_true, decide_eq_true_eq, List.all_eq_true, List.mem_range, Bool.or_eq_true, Bool.not_eq_true', beq_eq_false_iff_ne, beq_iff_eq, ne_eq] at hO
 obtain ⟨⟨⟨⟨⟨⟨⟨hem, hjm⟩, hml⟩, hje⟩, hde⟩, hdj⟩, hed'⟩, hone⟩ := hO
 have hje2 : e ∈ edgesOf l.toArray j := by simpa [List.contains_iff_mem] using hed'
 have hsz : ∀ {i d : Nat}, dstOf l.toArray i = some d → i < l.toArray.size := by
  intro i d hd
  unfold dstOf at hd
  cases ho : l.toArray[i]? with
  | none => rw [ho] at hd; cases hd
  | some o => exact (Array.getElem?_eq_some_iff.1 ho).1
 have hwe : ∀ i, i ≠ e → dstOf l.toArray i ≠ some de := fun i hi hd => by
  rcases (hone i (hsz hd)).1 with h | h
  ·exact hi h
  ·exact h hd
 have hwj : ∀ i, i ≠ j → dstOf l.toArray i ≠ some dj := fun i hi hd => by
  rcases (hone i (hsz hd)).2 with h | h
  ·exact hi h
  ·exact h hd
 have key' := wc_drawV (P := P) (n := n) (id := id) (pre := l.take m) (tl := l.drop m) (Q := Q) (L := L) (w := w) (fun i v _ => i = e ∨ i = j ∨ Φ i v)
  (fun g T w' => (g e = false → Ext w w') ∧ (g e = true → ∃ v, T de = some v ∧ Post w v w' ∧ (g j = true → ∃ u, T dj = some u ∧ Ψ v u w')) ∧ (g j = true → g e = true))
  (fun i T v w' w'' => if i = e then Post w v w'' else Ext w' w'' ∧ (i = j → ∀ v', T de = some v' → Ψ v' v w'')) hm hB
 rw [e0] at key'
 refine key' (fun g T q hf => ?_) (fun i g T T' v w1 w2 hgi hed hI hR hT hTd _ => ?_) (fun a i v g T u w1 w2 _ _ _ _ _ _ h => h) (fun i o ho g F w' hgi hed hI hK => ?_) (fun g F w' hall hI h2 h3 => ?_)
 ·have hel : e < l.length := by simp at hml; omega
  have hjl : j < l.length := by simp at hml; omega
  refine ⟨fun _ => ⟨rfl, rfl, rfl, Nat.le_refl _, fun _ _ _ => rfl⟩, fun h => ?_, fun h => ?_⟩
  ·rw [hf e hel] at h; cases h
  ·rw [hf j hjl] at h; cases h
 ·obtain ⟨h1, h2, h3⟩ := hI
  by_cases hi : i = e
  ·subst hi
   rw [if_pos rfl] at hR
   have hgj : g j = false := by
    cases hq : g j with
    | false => rfl
    | true => rw [h3 hq] at hgi; cases hgi
   refine ⟨fun h => by simp at h, fun _ => ⟨v, hTd _ hde, hR, fun h => ?_⟩, fun _ => by simp⟩
   simp [hje, hgj] at h
  ·rw [if_neg hi] at hR
   have he' : (if e = i then true else g e) = g e := if_neg (Ne.symm hi)
   show ((if e = i then true else g e) = false → _) ∧ ((if e = i then true else g e) = true → _) ∧ ((if j = i then true else g j) = true → (if e = i then true else g e) = true)
   rw [he']
   refine ⟨fun h => (h1 h).trans hR.1, fun h => ?_, fun h => ?_⟩
   ·obtain ⟨u, hu, hp, hj'⟩ := h2 h
    refine ⟨u, hT de (hwe i hi) u hu, hPost _ _ _ hR.1 hp, fun hgj => ?_⟩
    by_cases hij : i = j
    ·subst hij
     exact ⟨v, hTd _ hdj, hR.2 rfl u hu⟩
    ·obtain ⟨y, hy, hψ⟩ := hj' (by simpa [Ne.symm hij] using hgj)
     exact ⟨y, hT dj (hwj i hij) y hy, hΨ _ _ _ _ hR.1 hψ⟩
   ·by_cases hij : i = j
    ·subst hij; exact hed e hje2
    ·exact h3 (by simpa [Ne.symm hij] using h)
 ·have conv : ∀ {R1 R2 : Value → World → Prop}, (∀ v w'', R1 v w'' → R2 v w'') → WL P n l.toArray (QR n F (dstOf l.toArray i) R1) [o] F w' → WL P n l.toArray (QR n F (dstOf l.toArray i) R2) [o] F w' := by
   intro R1 R2 hR h a ha
   have h1 := h a ha
   have hq : ∀ a' w'', QR n F (dstOf l.toArray i) R1 .normal a' w'' → QR n F (dstOf l.toArray i) R2 .normal a' w'' := by
    intro a' w'' h6
    unfold QR at h6 ⊢
    cases hd : dstOf l.toArray i with
    | none => rw [hd] at h6; exact ⟨h6.1, h6.2.1, hR _ _ h6.2.2⟩
    | some d => rw [hd] at h6; obtain ⟨q1, v, q2, q3⟩ := h6; exact ⟨q1, v, q2, hR _ _ q3⟩
   unfold wpList at h1 ⊢
   split
   ·rename_i hwn
    rw [if_pos hwn] at h1
    rcases h1 with h1 | ⟨h4, a1, w1, hx, h5⟩
    ·exact .inl (Oper.wp_mono2 (fun a' w'' h6 => hq a' w'' h6) (fun e a w hne h => absurd h.1 hne) h1)
    ·cases hx
   ·rename_i hwn
    rw [if_neg hwn] at h1
    exact hq _ _ h1
  by_cases hi : i = e
  ·subst hi
   have := He o ho F w' (hI.1 hgi) hK
   rw [← hde] at this
   exact conv (fun v w'' h => ⟨by rw [if_pos rfl]; exact h, .inl rfl⟩) this
  ·by_cases hij : i = j
   ·subst hij
    obtain ⟨v, hv, hp, _⟩ := hI.2.1 (hed e hje2)
    have := Hj o ho F w' v hv hp hK
    rw [← hdj] at this
    refine conv (fun u w'' h => ⟨?_, .inr (.inl rfl)⟩) this
    rw [if_neg hi]
    refine ⟨h.1, fun _ v' hv' => ?_⟩
    rw [hv] at hv'
    cases hv'
    exact h.2
   ·have hPP : Ext w w' ∨ ∃ v, Post w v w' := by
     cases hg : g e with
     | false => exact .inl (hI.1 hg)
     | true => obtain ⟨v, _, hv, _⟩ := hI.2.1 hg; exact .inr ⟨v, hv⟩
    have h0 := H.at_ i o ho
    rw [Nat.zero_add] at h0
    rcases h0 with h0 | h0 | h0
    ·exact absurd h0 hi
    ·exact absurd h0 hij
    ·exact conv (fun u w'' h => ⟨by rw [if_neg hi]; exact ⟨h.1, fun hx => absurd hx hij⟩, .inr (.inr h.2)⟩) (h0 F w' hPP hK)
 ·have hel : e < (l.take m).length := by rw [List.length_take]; simp at hml; omega
  have hjl : j < (l.take m).length := by rw [List.length_take]; simp at hml; omega
  obtain ⟨v, hv, hp, hj'⟩ := hI.2.1 (hall e hel)
  obtain ⟨u, hu, hψ⟩ := hj' (hall j hjl)
  exact hQ F w' v u hv hp hu hψ h2 h3
end
end Go.Eng
namespace Go.Eng
open Go.RowKit
section
variable {P : Program} {n : Nat} {L : List (Nat × Value)} {w : World} {Q : Exit → Act → World → Prop} {ops : Array Oper} {rest : List Oper} {ty : TypeId} {pos : String} {af : Array Edge} {d : Nat}
theorem wl_appN {α : Type} {r : Rep α} {t e bytes lo c2 : Nat} {S : Nat → Prop} {B : Option Addr} {l : List α} {s x : Operand} (hd : d < n) (hT : slB P t e r.size bytes = true) (hs : ev L s = some (.slice none 0 0)) (hx : ev L x = some (.slice B l.length c2))
  (g : GS r S w B c2 l) (hr : ∀ {S S' : Nat → Prop} {w w' : World} {cs : List Value} {x : α}, r.rd S w cs x → r.rd S' w' cs x) (hb : l.length * bytes ≤ 140737488355328) (hlo : lo ≤ w.heap.size)
  (h : ∀ A' c' w', GS r (fun b => lo ≤ b) w' A' c' l → Ext w w' → WL P n ops Q rest ((d, .slice A' l.length c') :: L) w') :
  WL P n ops Q ({ dst := some d, op := .call { callee := .builtin .append, args := #[s, x], argTypes := #[t, t] }, type := ty, pos := pos, after := af, guard := none } :: rest) L w := by
 obtain ⟨rows, hl, hs1, ho, hrd, hat, hnil⟩ := g.cells
 have hfl : rows.flatten.length = l.length * r.size := by rw [flat_len _ _ hs1, hl]
 refine wl_append (lo := lo) (k := 0) (m := l.length) (c := 0) (xs := []) (news := rows.flatten) hd hT hs hx (OwnRow.nil e r.size lo w none) hfl (fun b hB => hat b hB) (fun hB => by rw [hnil hB]; rfl)
  (fun u hu => by obtain ⟨x, h1, h2⟩ := List.mem_flatten.1 hu; exact ho x h1 u h2) (by rw [Nat.zero_add]; exact hb) hlo (fun A' c' w' hown hch _ => ?_)
 rw [Nat.zero_add]
 rw [Nat.zero_add, List.nil_append] at hown
 refine h A' c' w' ?_ (hch.weak (fun b _ hb => hb.1 rfl))
 rcases hown.row with ⟨hc, h0⟩ | ⟨gg, cur, rfl, hlog, hget, hsz, htk⟩
 ·have : l = [] := List.length_eq_zero_iff.1 h0
  subst this
  exact GS.nil _ _ _ _ _
 ·have hgl : gg < w'.heap.size := (Array.getElem?_eq_some_iff.1 hget).1
  refine GS.of_rows rows ?_ hgl hlog hown.le g.mx (fun i hi => ⟨rows[i]'(by omega), List.getElem?_eq_getElem (by omega), hr (hrd i hi (by omega))⟩)
  exact hown.at0
end
end Go.Eng
namespace Go.Eng
open Go.RowKit
structure IntAt (S : Nat → Prop) (w : World) (k : IntKind) (p : Addr) : Prop where
 inS : S p.block
 ex : ∃ v, w.cell? p = some (.int k v)
 nf : w.frozen? p = false
structure IntW (S : Nat → Prop) (w w' : World) : Prop where
 chg : Chg S w w'
 int : ∀ k p, IntAt S w k p → IntAt S w' k p
 slc : ∀ p A n c, w.cell? p = some (.slice A n c) → w'.cell? p = some (.slice A n c)
section
variable {S : Nat → Prop} {w w1 w2 : World} {k : IntKind} {p : Addr}
theorem IntAt.lt (h : IntAt S w k p) : p.block < w.heap.size := by
 obtain ⟨v, hv⟩ := h.ex
 exact World.block_lt_of_cell? w p hv
theorem IntW.refl (S : Nat → Prop) (w : World) : IntW S w w := ⟨Chg.refl _ _, fun _ _ h => h, fun _ _ _ _ h => h⟩
theorem IntW.ext (h : IntW S w w1) (e : Ext w1 w2) : IntW S w w2 :=
  ⟨h.chg.step e (fun _ _ x => x.elim), fun k p hp => by
    have h1 := h.int k p hp
    obtain ⟨v, hv⟩ := h1.ex
    exact ⟨h1.inS, ⟨v, e.cell hv (fun x => x)⟩, by rw [e.frozen h1.lt (fun x => x)]; exact h1.nf⟩,
   fun p A n c hs => e.cell (h.slc p A n c hs) (fun x => x)⟩
theorem IntW.set (h : IntW S w w1) (hp : IntAt S w1 k p) (v : Int) : IntW S w (w1.setCell p (.int k v)) := by
 obtain ⟨u, hu⟩ := hp.ex
 refine ⟨h.chg.step (Chg.setCell w1 p _) (fun b _ e => by rw [e]; exact hp.inS), fun k' q hq => ?_, fun q A n c hs => ?_⟩
 ·have h1 := h.int k' q hq
  refine ⟨h1.inS, ?_, by rw [World.frozen?_setCell]; exact h1.nf⟩
  obtain ⟨x, hx⟩ := h1.ex
  by_cases e : q = p
  ·subst e
   rw [hu] at hx
   cases hx
   exact ⟨v, World.cell?_setCell_same w1 q _ hu⟩
  ·exact ⟨x, (World.cell?_setCell_other w1 p q _ (fun x => e x.symm)).trans hx⟩
 ·have h1 := h.slc q A n c hs
  refine (World.cell?_setCell_other w1 p q _ (fun e => ?_)).trans h1
  subst e
  rw [hu] at h1
  cases h1
theorem IntW.trans (h : IntW S w w1) (k : IntW S w1 w2) : IntW S w w2 :=
 ⟨h.chg.step k.chg (fun _ _ x => x), fun a b x => k.int a b (h.int a b x), fun p A n c x => k.slc p A n c (h.slc p A n c x)⟩
theorem HP.int {w0 : World} {Fz : Nat → Prop} {g e : Nat} {cs : List Value} (h : HP w0 S Fz w [itB g e cs]) (hg : ¬ S g) (hi : IntW S w w1) : HP w0 S Fz w1 [itB g e cs] := by
 obtain ⟨Ks, h1, h2, h3⟩ := h.ex
 refine ⟨h.chg.step hi.chg (fun _ _ x => x), fun b hb => Nat.lt_of_lt_of_le (h.fz b hb) hi.chg.size, Ks, fun i x hx => ?_, h2, h3⟩
 have hr := h1 i x hx
 cases i with
 | succ i => simp at hx
 | zero =>
  simp only [List.getElem?_cons_zero, Option.some.injEq] at hx
  subst hx
  exact (itB g e cs).st (fun b hb => hi.chg.block b ((itB g e cs).lt hr b hb) (by rw [(hr.2 b).1 hb]; exact hg)) hr
end
section
variable {P : Program} {n : Nat} {L : List (Nat × Value)} {w : World} {Q : Exit → Act → World → Prop} {ops : Array Oper} {rest : List Oper} {ty : TypeId} {pos : String} {af : Array Edge} {d : Nat}
theorem aLc {t : TypeId} {x : Operand} {p : Addr} {v : Value} [c : ScC P t] (hc : w.cell? p = some v) (h : WL P n ops Q rest ((d, v) :: L) w) (hd : d < n := by decide) (hx : ev L x = some (.pointer (some p)) := by rfl) :
  WL P n ops Q ({ dst := some d, op := .load t x, type := ty, pos := pos, after := af, guard := none } :: rest) L w := wl_load hd c.h hx hc h
theorem wl_storeI {S : Nat → Prop} {k : IntKind} {x y : Operand} {t : TypeId} {p : Addr} {v : Int} [c : SzC P t 1] (hi : IntAt S w k p) (hx : ev L x = some (.pointer (some p)) := by rfl) (hy : ev L y = some (.int k v) := by rfl)
  (h : ∀ w', IntW S w w' → WL P n ops Q rest L w') :
  WL P n ops Q ({ dst := none, op := .store t x y, type := ty, pos := pos, after := af, guard := none } :: rest) L w := by
 obtain ⟨u, hu⟩ := hi.ex
 exact wl_store c.h hx hy rfl hu hi.nf (h _ ((IntW.refl S w).set hi v))
end
section
variable {P : Program} {n : Nat} {L : List (Nat × Value)} {w : World} {Q : Exit → Act → World → Prop} {ops : Array Oper} {rest : List Oper} {ty : TypeId} {pos : String} {af : Array Edge} {d : Nat}
theorem aLc2 {t : TypeId} {x : Operand} {p : Addr} {i j : Nat} {v : Value} [c : ScC P t] (hc : w.cell? (p.add (i + j)) = some v) (h : WL P n ops Q rest ((d, v) :: L) w) (hd : d < n := by decide) (hx : ev L x = some (.pointer (some ((p.add i).add j))) := by rfl) :
  WL P n ops Q ({ dst := some d, op := .load t x, type := ty, pos := pos, after := af, guard := none } :: rest) L w := wl_load hd c.h hx (by rw [add_add']; exact hc) h
theorem wl_storeI2 {S : Nat → Prop} {k : IntKind} {x y : Operand} {t : TypeId} {p : Addr} {i j : Nat} {v : Int} [c : SzC P t 1] (hi : IntAt S w k (p.add (i + j))) (hx : ev L x = some (.pointer (some ((p.add i).add j))) := by rfl) (hy : ev L y = some (.int k v) := by rfl)
  (h : ∀ w', IntW S w w' → WL P n ops Q rest L w') :
  WL P n ops Q ({ dst := none, op := .store t x y, type := ty, pos := pos, after := af, guard := none } :: rest) L w := by
 rw [← add_add'] at hi
 exact wl_storeI hi hx hy h
end
def IntsAt (S : Nat → Prop) (w : World) (k : IntKind) (A : Option Addr) (n st o : Nat) : Prop := ∀ i, i < n → ∃ a, A = some a ∧ IntAt S w k (a.add (i * st + o))
theorem IntsAt.to {S : Nat → Prop} {w w' : World} {k : IntKind} {A : Option Addr} {n st o : Nat} (h : IntsAt S w k A n st o) (hi : IntW S w w') : IntsAt S w' k A n st o := fun i hl => by
 obtain ⟨a, hA, h1⟩ := h i hl
 exact ⟨a, hA, hi.int _ _ h1⟩
def WshAt (S : Nat → Prop) (w : World) (A : Option Addr) (n : Nat) : Prop := ∀ i, i < n → ∃ a, A = some a ∧ IntAt S w .i64 (a.add (i * 10 + 5)) ∧ ∃ B m c, w.cell? (a.add (i * 10 + 6)) = some (.slice B m c) ∧ m ≤ 140737488355328 ∧ IntsAt S w .u8 B m 1 0
theorem WshAt.to {S : Nat → Prop} {w w' : World} {A : Option Addr} {n : Nat} (h : WshAt S w A n) (hi : IntW S w w') : WshAt S w' A n := fun i hl => by
 obtain ⟨a, hA, h1, B, m, c, h2, hm, h3⟩ := h i hl
 exact ⟨a, hA, hi.int _ _ h1, B, m, c, hi.slc _ _ _ _ h2, hm, h3.to hi⟩
theorem OwnRow.cellI {e size lo n c o : Nat} {w : World} {A : Option Addr} {xs : List Value} {k : IntKind} {v : Int} (h : OwnRow e size lo w A n c xs) (ho : xs[o]? = some (.int k v)) : ∃ a, A = some a ∧ IntAt (fun b => lo ≤ b) w k (a.add o) := by
 rcases h.row with ⟨hc, h0⟩ | ⟨g, cur, hA, hb, hg, _, _⟩
 ·have := h.len
  rw [h0, Nat.zero_mul] at this
  rw [List.eq_nil_of_length_eq_zero this] at ho
  simp at ho
 ·exact ⟨⟨g, 0, none⟩, hA, by rw [block_add]; exact hb, ⟨v, h.at_ hA _ _ ho⟩, by rw [add_lit']; simp [World.frozen?, hg]⟩
theorem OwnRow.bytesI {e lo c : Nat} {w : World} {A : Option Addr} {l : List UInt8} (h : OwnRow e 1 lo w A l.length c (l.map bv)) : IntsAt (fun b => lo ≤ b) w .u8 A l.length 1 0 := fun i hi => by
 obtain ⟨a, hA, h1⟩ := h.cellI (o := i) (k := .u8) (v := (l[i].toNat : Int)) (by rw [List.getElem?_map, List.getElem?_eq_getElem hi]; rfl)
 exact ⟨a, hA, by rw [Nat.mul_one, Nat.add_zero]; exact h1⟩
theorem OwnRow.intsI {e lo c : Nat} {w : World} {A : Option Addr} {l : List Int} (h : OwnRow e 1 lo w A l.length c (l.map fun z => .int .i64 z)) : IntsAt (fun b => lo ≤ b) w .i64 A l.length 1 0 := fun i hi => by
 obtain ⟨a, hA, h1⟩ := h.cellI (o := i) (k := .i64) (v := l[i]) (by rw [List.getElem?_map, List.getElem?_eq_getElem hi]; rfl)
 exact ⟨a, hA, by rw [Nat.mul_one, Nat.add_zero]; exact h1⟩
theorem IntAt.keep {S M : Nat → Prop} {w w' : World} {k : IntKind} {p : Addr} (h : IntAt S w k p) (ch : Chg M w w') (hm : ∀ b, b < w.heap.size → S b → ¬ M b) : IntAt S w' k p := by
 obtain ⟨v, hv⟩ := h.ex
 have hn := hm _ h.lt h.inS
 exact ⟨h.inS, ⟨v, ch.cell hv hn⟩, by rw [ch.frozen h.lt hn]; exact h.nf⟩
theorem IntsAt.keep {S M : Nat → Prop} {w w' : World} {k : IntKind} {A : Option Addr} {n st o : Nat} (h : IntsAt S w k A n st o) (ch : Chg M w w') (hm : ∀ b, b < w.heap.size → S b → ¬ M b) : IntsAt S w' k A n st o := fun i hi => by
 obtain ⟨a, hA, h1⟩ := h i hi
 exact ⟨a, hA, h1.keep ch hm⟩
theorem IntsAt.mono {S S' : Nat → Prop} {w : World} {k : IntKind} {A : Option Addr} {n st o : Nat} (h : IntsAt S w k A n st o) (hm : ∀ b, b < w.heap.size → S b → S' b) : IntsAt S' w k A n st o := fun i hi => by
 obtain ⟨a, hA, h1⟩ := h i hi
 exact ⟨a, hA, hm _ h1.lt h1.inS, h1.ex, h1.nf⟩
end Go.Eng
namespace Go.Eng
open Go.RowKit
theorem HP.frzN {w0 w : World} {M0 Fz : Nat → Prop} {H : List It} (h : HP w0 M0 Fz w H) (N : Nat → Prop) (hN : ∀ b, N b → b < w.heap.size) (hd : ∀ x ∈ H, ∀ K, x.R w K → ∀ b, K b → ¬ N b) : HP w0 M0 (fun b => Fz b ∨ N b) w H := by
 obtain ⟨Ks, h1, h2, h3⟩ := h.ex
 refine ⟨h.chg, fun b hb => hb.elim (h.fz b) (hN b), Ks, h1, fun i hi b hb => ⟨(h2 i hi b hb).1, fun x => ?_⟩, h3⟩
 rcases x with x | x
 ·exact (h2 i hi b hb).2 x
 ·exact hd _ (List.getElem_mem hi) _ (h1 i _ (List.getElem?_eq_getElem hi)) b hb x
theorem HP.frzRowN {w0 w : World} {M0 Fz : Nat → Prop} {H : List It} {e size k c : Nat} {A : Option Addr} {xs : List Value} (h : HP w0 M0 Fz w (itR e size A k c xs :: H)) : HP w0 M0 (fun b => Fz b ∨ (c ≠ 0 ∧ blk A b)) w H := by
 obtain ⟨Ks, h1, h2, h3⟩ := h.ex
 obtain ⟨ho, hK⟩ := h1 0 _ rfl
 refine ⟨h.chg, fun b hb => hb.elim (h.fz b) (fun x => (ho.lt x.1 b x.2).2), fun i => Ks (i + 1), fun i y hi => h1 (i + 1) y (by simpa using hi), fun i hi b hb => ⟨(h2 (i + 1) (by simpa using hi) b hb).1, ?_⟩, fun i j hi hj hne => h3 (i + 1) (j + 1) (by simpa using hi) (by simpa using hj) (by omega)⟩
 rintro (hf | hf)
 ·exact (h2 (i + 1) (by simpa using hi) b hb).2 hf
 ·exact h3 0 (i + 1) (by simp) (by simpa using hi) (by omega) b ((hK b).2 hf) hb
section
variable {α : Type}
theorem SP.rd_st {r : Rep α} {lo : Nat} {x : α} {K : Nat → Prop} (hK : ∀ b, K b → b < lo) : ∀ v w w', Chg K w w' → (SP.rd r (fun b => lo ≤ b) x).p v w → (SP.rd r (fun b => lo ≤ b) x).p v w' := by
 rintro _ w w' ch ⟨cs, rfl, h⟩
 exact ⟨cs, rfl, r.keep ch (fun b _ hs hk => absurd (hK b hk) (Nat.not_lt.2 hs)) h⟩
theorem SP.gs_st {r : Rep α} {lo : Nat} {l : List α} {K : Nat → Prop} (hK : ∀ b, K b → b < lo) : ∀ v w w', Chg K w w' → (SP.gs r (fun b => lo ≤ b) l).p v w → (SP.gs r (fun b => lo ≤ b) l).p v w' := by
 rintro _ w w' ch ⟨A, c, rfl, h⟩
 exact ⟨A, c, rfl, GS.keep ch (fun b _ hs hk => absurd (hK b hk) (Nat.not_lt.2 hs)) h⟩
def SP.oneN (r : Rep α) (e lo : Nat) (x : α) : SP := ⟨fun v w => ∃ g cs, v = .slice (some ⟨g, 0, none⟩) 1 1 ∧ lo ≤ g ∧ OwnRow e r.size 0 w (some ⟨g, 0, none⟩) 1 1 cs ∧ r.rd (fun b => lo ≤ b) w cs x, by
 rintro _ w w' ch ⟨g, cs, rfl, h1, h2, h3⟩
 exact ⟨g, cs, rfl, h1, h2.ext ch, r.keep ch (fun _ _ _ x => x) h3⟩⟩
theorem SP.oneN_st {r : Rep α} {e lo : Nat} {x : α} {K : Nat → Prop} (hK : ∀ b, K b → b < lo) : ∀ v w w', Chg K w w' → (SP.oneN r e lo x).p v w → (SP.oneN r e lo x).p v w' := by
 rintro _ w w' ch ⟨g, cs, rfl, h1, h2, h3⟩
 exact ⟨g, cs, rfl, h1, h2.keep ch (fun b _ _ ⟨a, ha, hb⟩ hk => by cases ha; subst hb; exact absurd (hK _ hk) (Nat.not_lt.2 h1)), r.keep ch (fun b _ hs hk => absurd (hK b hk) (Nat.not_lt.2 hs)) h3⟩
def SP.turnN (r : Rep α) (K : Nat → Prop) (e lo n : Nat) (xs : List Value) (x : α) : SP := ⟨fun v w => ∃ A c cs, v = .slice A n c ∧ OwnRow e r.size 0 w A n c (xs ++ cs) ∧ (∀ b, c ≠ 0 ∧ blk A b → K b ∨ lo ≤ b) ∧ r.rd (fun b => lo ≤ b ∧ ¬ (c ≠ 0 ∧ blk A b)) w cs x, by
 rintro _ w w' ch ⟨A, c, cs, rfl, h1, h2, h3⟩
 exact ⟨A, c, cs, rfl, h1.ext ch, h2, r.keep ch (fun _ _ _ x => x) h3⟩⟩
end
end Go.Eng
namespace Go.Eng
open Go.RowKit
section
variable {P : Program} {n : Nat} {L : List (Nat × Value)} {w : World} {Q : Exit → Act → World → Prop} {ops : Array Oper} {rest : List Oper} {ty ty2 : TypeId} {pos pos2 : String} {af af2 : Array Edge} {d d2 : Nat}
theorem GS.marked {bs : List UInt8} {e : TypeId} {fr : Nat × Nat} (hm : bs.length ≤ 16777216) : GS byteR (fun b => w.heap.size ≤ b) (w.alloc (.cells (bs.map bv).toArray e fr)) (some ⟨w.heap.size, 0, none⟩) bs.length bs := by
 have hnew := heap_alloc_new w (.cells (bs.map bv).toArray e fr)
 refine GS.of_rows (bs.map fun b => [bv b]) ?_ (Array.getElem?_eq_some_iff.1 hnew).1 (Nat.le_refl _) (Nat.le_refl _) (by omega) (fun i hi => ?_)
 ·intro j v hv
  have hf : (bs.map fun b => [bv b]).flatten = bs.map bv := by
   clear hv hnew hm
   induction bs with
   | nil => rfl
   | cons b t ih => rw [List.map_cons, List.flatten_cons, ih]; rfl
  rw [hf] at hv
  have e1 : ((⟨w.heap.size, 0, none⟩ : Addr).add j) = ⟨w.heap.size, j, none⟩ := by simp [Addr.add]; omega
  rw [e1]
  unfold World.cell?
  rw [hnew]
  simpa using hv
 ·exact ⟨[bv bs[i]], by simp [hi], rfl⟩
theorem wl_bytesLit {t e : Nat} {xs : List Operand} {bs : List UInt8} {k : Nat} {ps : Array (Nat × Operand)} (hd : d < n) (hd2 : d2 < n) (hT : slB P t e 1 1 = true) (he : P.underlying e = some (.int .u8)) (hp : ps = (partsOf 0 xs).toArray) (hv : evs L xs = some (bs.map bv)) (hk : k = bs.length)
  (hm : bs.length ≤ 16777216)
  (h : ∀ g w', g = w.heap.size → GS byteR (fun b => w.heap.size ≤ b) w' (some ⟨g, 0, none⟩) k bs → Ext w w' → WL P n ops Q rest ((d2, .slice (some ⟨g, 0, none⟩) bs.length k) :: (d, .slice (some ⟨g, 0, none⟩) bs.length k) :: L) w') :
  WL P n ops Q ({ dst := some d, op := .buildSlice t k ps, type := ty, pos := pos, after := af, guard := none } :: { dst := some d2, op := .convert t t (.tmp d), type := ty2, pos := pos2, after := af2, guard := none } :: rest) L w := by
 subst hp
 subst hk
 have hs : ∀ v ∈ bs.map bv, v.cells.size = 1 := by
  intro v hv
  obtain ⟨b, _, rfl⟩ := List.mem_map.1 hv
  rfl
 have hfl : ((bs.map bv).map (fun v => v.cells.toList)).flatten = bs.map bv := flat_cells1 _ (by
  intro v hv
  obtain ⟨b, _, rfl⟩ := List.mem_map.1 hv
  rfl)
 refine wl_run (w' := w.alloc (.cells (bs.map bv).toArray e)) (v := .slice (some ⟨w.heap.size, 0, none⟩) bs.length bs.length) hd (fun a ha => ?_) ?_
 ·have hm' := evs_map ha hv
  have e2 : (Array.map (fun x => match x with | (i, x) => (i, a.eval x)) (partsOf 0 xs).toArray) = ((bs.map bv).zipIdx.map (fun p => (p.2, p.1))).toArray := by
   show ((partsOf 0 xs).toArray.map fun p => (p.1, a.eval p.2)) = _
   rw [List.map_toArray, partsOf_map, hm']
  have hr := run_buildSlice (P := P) w hT (bs.map bv) hs (by simpa using hm)
  rw [hfl] at hr
  simp only [List.length_map] at hr
  simp only [execOp]
  rw [e2]
  simp [hr]
 ·obtain ⟨_, _, ht, _⟩ := slB_out hT
  refine wl_run (w' := w.alloc (.cells (bs.map bv).toArray e ((bs.map bv).toArray.size, (bs.map bv).toArray.size + 1))) (v := .slice (some ⟨w.heap.size, 0, none⟩) bs.length bs.length) hd2 (fun a ha => ?_) ?_
  ·have hx : a.eval (.tmp d) = .slice (some ⟨w.heap.size, 0, none⟩) bs.length bs.length := ha.eval (by simp [ev, lk])
   simp [execOp, hx, Lib.run_convert_bytes_const (P := P) w t e (bs.map bv).toArray bs.length bs.length ht he]
  ·exact h w.heap.size _ rfl (GS.marked hm) (Ext.alloc w _)
theorem wl_bsliceN {t e bytes : Nat} {xs : List Operand} {l : List Int} {k : Nat} {ps : Array (Nat × Operand)} (hd : d < n) (hT : slB P t e 1 bytes = true) (hp : ps = (partsOf 0 xs).toArray) (hv : evs L xs = some (l.map fun n => .int .i64 n)) (hk : k = l.length) (hm : l.length ≤ 16777216)
  (h : ∀ g w', g = w.heap.size → GS intR (fun b => w.heap.size ≤ b) w' (some ⟨g, 0, none⟩) k l → Ext w w' → WL P n ops Q rest ((d, .slice (some ⟨g, 0, none⟩) l.length k) :: L) w') :
  WL P n ops Q ({ dst := some d, op := .buildSlice t k ps, type := ty, pos := pos, after := af, guard := none } :: rest) L w :=
 wl_bsliceE (fun _ => rfl) hd hT hp hv hk hm w.heap.size (Nat.le_refl _) (fun g w' hg ho hE => h g w' hg (OwnRow.gs1 ho) hE)
end
end Go.Eng
