/- A region that draws its order, whose operations only add to memory: one look at each operation serves every order. Program-independent. -/
import Derived.Test.YtnlpibfdobinoaaOps
import Derived.Orders
namespace Go.Eng
open Go.RowKit

def dstOf (ops : Array Oper) (j : Nat) : Option Nat := (ops[j]?).bind (·.dst)
def edgesOf (ops : Array Oper) (j : Nat) : List Nat :=
  match ops[j]? with
  | some o => (o.after.toList.filter (Region.binds .any)).map (·.on)
  | none => []
/-- Is p carried out ahead of i in every order? -/
def anc (ops : Array Oper) : Nat → Nat → Nat → Bool
  | 0, _, _ => false
  | f + 1, i, p => (edgesOf ops i).any fun e => Nat.beq e p || anc ops f e p
/-- Slot x holds at i what it held ahead of the region. -/
def okInit (ops : Array Oper) (i x : Nat) : Bool :=
  (List.range ops.size).all fun j => (match dstOf ops j with | some d => !Nat.beq d x | none => true) || Nat.beq j i || anc ops ops.size j i
def fwd (ops : Array Oper) : Bool := (List.range ops.size).all fun i => (edgesOf ops i).all fun e => decide (e < i)
/-- No two operations write one slot. -/
def oneEach (ops : Array Oper) : Bool :=
  (List.range ops.size).all fun i => (List.range ops.size).all fun j => Nat.beq i j || (match dstOf ops i, dstOf ops j with | some d, some e => !Nat.beq d e | _, _ => true)
/-- No operation writes slot x. -/
def unwritten (ops : Array Oper) (x : Nat) : Bool := (List.range ops.size).all fun j => match dstOf ops j with | some d => !Nat.beq d x | none => true

def QR (n : Nat) (F : List (Nat × Value)) (dst : Option Nat) (R : Value → World → Prop) : Exit → Act → World → Prop :=
  fun e a w => e = .normal ∧ match dst with
    | some d => ∃ v, Fr n a ((d, v) :: F) ∧ R v w
    | none => Fr n a F ∧ R undef w
theorem qr_some {n d : Nat} {F : List (Nat × Value)} {R : Value → World → Prop} {v : Value} {w : World} (h : R v w) : WK n (QR n F (some d) R .normal) ((d, v) :: F) w := fun _ ha => ⟨rfl, v, ha, h⟩

def fullL (a : Act) : List (Nat × Value) := slots 0 a.tmps.toList
theorem lk_slots : ∀ (l : List Value) (s k : Nat), lk (slots s l) (s + k) = l[k]? := by
  intro l
  induction l with
  | nil => intro s k; simp [slots, lk]
  | cons x t ih =>
    intro s k
    simp only [slots, lk]
    cases k with
    | zero =>
      have : Nat.beq (s + 0) s = true := by simp
      rw [this]
      simp
    | succ k =>
      have : Nat.beq (s + (k + 1)) s = false := by
        cases hb : Nat.beq (s + (k + 1)) s
        · rfl
        · have := Nat.eq_of_beq_eq_true hb
          omega
      rw [this]
      have := ih (s + 1) k
      simp only [cond_false, List.getElem?_cons_succ]
      rw [← this]
      congr 1
      omega
theorem lk_full (a : Act) (k : Nat) : lk (fullL a) k = a.tmps[k]? := by
  have := lk_slots a.tmps.toList 0 k
  rw [Nat.zero_add] at this
  rw [fullL, this]
  simp
theorem fr_full (a : Act) (h : a.defers = []) : Fr a.tmps.size a (fullL a) := ⟨rfl, h, fun k v hk => by rwa [lk_full] at hk⟩

theorem Oper.wp_mono2 {P : Program} {o : Oper} {a : Act} {w : World} {K K' : Act → World → Prop} {Q Q' : Exit → Act → World → Prop} (h : ∀ a w, K a w → K' a w) (hq : ∀ e a w, e ≠ .normal → Q e a w → Q' e a w)
    (hh : o.wp P a w K Q) : o.wp P a w K' Q' := by
  unfold Oper.wp at *
  generalize (execOp a.eval o).run P w = r at *
  have hl : LetsOut Q → LetsOut Q' := fun ⟨a, w, x⟩ => ⟨a, w, hq _ _ _ (by simp) x⟩
  cases r with
  | ok n w' =>
    cases n <;> simp only [Oper.upon] at hh ⊢ <;>
      first
        | exact h _ _ hh
        | exact Calls.mono hh (fun e w'' he => by cases e <;> first | exact h _ _ he | exact hq _ _ _ (by simp) he | exact hl he)
        | exact Rows.mono hh (fun _ _ he => h _ _ he)
  | halt x w' => cases x <;> simp only [Oper.upon] at hh ⊢ <;> exact hq _ _ _ (by simp) hh

section
variable {P : Program} {n : Nat} {ops : Array Oper} {L0 : List (Nat × Value)} {w0 : World} {Φ : Nat → Value → World → Prop}
/-- What is known when some operations are done. -/
structure DI (n : Nat) (ops : Array Oper) (L0 : List (Nat × Value)) (w0 : World) (Φ : Nat → Value → World → Prop) (listed : Array Bool) (a : Act) (w : World) : Prop where
  lsz : listed.size = ops.size
  size : a.tmps.size = n
  defers : a.defers = []
  ext : Ext w0 w
  closed : ∀ j, j < ops.size → listed.getD j true = true → ∀ e ∈ edgesOf ops j, listed.getD e false = true
  init : ∀ x v, lk L0 x = some v → (∀ j, j < ops.size → dstOf ops j = some x → listed.getD j true = false) → a.tmps[x]? = some v
  done : ∀ j, j < ops.size → listed.getD j true = true → ∀ d, dstOf ops j = some d → ∃ v, a.tmps[d]? = some v ∧ Φ j v w

/-- What operation i may lean on. -/
structure Kn (ops : Array Oper) (L0 : List (Nat × Value)) (Φ : Nat → Value → World → Prop) (i : Nat) (F : List (Nat × Value)) (w : World) : Prop where
  init : ∀ x v, lk L0 x = some v → okInit ops i x = true → lk F x = some v
  pred : ∀ p, anc ops ops.size i p = true → ∀ d, dstOf ops p = some d → ∃ v, lk F d = some v ∧ Φ p v w

theorem edges_listed {listed : Array Bool} {i : Nat} (h : i ∈ Region.ready .any ops listed) : listed.getD i true = false ∧ ∃ o, ops[i]? = some o ∧ ∀ e ∈ edgesOf ops i, listed.getD e false = true := by
  obtain ⟨h0, o, ho, hall⟩ := mem_ready.1 h
  refine ⟨h0, o, ho, fun e he => ?_⟩
  unfold edgesOf at he
  rw [ho] at he
  simp only [List.mem_map, List.mem_filter] at he
  obtain ⟨g, ⟨hg, hb⟩, rfl⟩ := he
  exact hall g (by simpa using hg) hb

theorem anc_listed {listed : Array Bool} {a : Act} {w : World} (h : DI n ops L0 w0 Φ listed a w) : ∀ (f i p : Nat), (∀ e ∈ edgesOf ops i, listed.getD e false = true) → anc ops f i p = true → listed.getD p false = true := by
  intro f
  induction f with
  | zero => intro i p _ hh; simp [anc] at hh
  | succ f ih =>
    intro i p he hh
    simp only [anc, List.any_eq_true, Bool.or_eq_true] at hh
    obtain ⟨e, hm, hor⟩ := hh
    rcases hor with hb | hb
    · rw [← Nat.eq_of_beq_eq_true hb]; exact he e hm
    · have h1 := he e hm
      have hlt : e < listed.size := by
        rcases Nat.lt_or_ge e listed.size with hl | hl
        · exact hl
        · rw [Array.getD_eq_getD_getElem?, Array.getElem?_eq_none hl] at h1; cases h1
      have h2 : listed.getD e true = true := by
        rw [Array.getD_eq_getD_getElem?, Array.getElem?_eq_getElem hlt] at h1 ⊢; exact h1
      exact ih e p (h.closed e (by rw [← h.lsz]; exact hlt) h2) hb

theorem getD_true_of_false {listed : Array Bool} {p : Nat} (h : listed.getD p false = true) : listed.getD p true = true := by
  rw [Array.getD_eq_getD_getElem?] at h ⊢
  cases hp : listed[p]? <;> simp_all
theorem lt_of_getD {listed : Array Bool} {p : Nat} (h : listed.getD p false = true) : p < listed.size := by
  rcases Nat.lt_or_ge p listed.size with hl | hl
  · exact hl
  · rw [Array.getD_eq_getD_getElem?, Array.getElem?_eq_none hl] at h; cases h

theorem DI.kn {listed : Array Bool} {a : Act} {w : World} (h : DI n ops L0 w0 Φ listed a w) {i : Nat} (hi : i ∈ Region.ready .any ops listed) : Kn ops L0 Φ i (fullL a) w := by
  obtain ⟨h0, o, ho, he⟩ := edges_listed hi
  refine ⟨fun x v hx hok => ?_, fun p hp d hd => ?_⟩
  · rw [lk_full]
    refine h.init x v hx fun j hj hd => ?_
    simp only [okInit, List.all_eq_true, List.mem_range] at hok
    have := hok j hj
    rw [hd] at this
    have hxx : Nat.beq x x = true := by simp
    simp only [hxx, Bool.not_true, Bool.false_or, Bool.or_eq_true] at this
    rcases this with hb | hb
    · rw [Nat.eq_of_beq_eq_true hb]; exact h0
    · cases hl : listed.getD j true with
      | false => rfl
      | true =>
        have := getD_true_of_false (anc_listed h ops.size j i (h.closed j hj hl) hb)
        rw [h0] at this
        cases this
  · rw [lk_full]
    have hl := anc_listed h ops.size i p he hp
    exact h.done p (by rw [← h.lsz]; exact lt_of_getD hl) (getD_true_of_false hl) d hd

theorem getD_set (listed : Array Bool) (i j : Nat) (b : Bool) (hi : i < listed.size) : (listed.setIfInBounds i true).getD j b = if j = i then true else listed.getD j b := by
  rw [Array.getD_eq_getD_getElem?, Array.getElem?_setIfInBounds, Array.getD_eq_getD_getElem?]
  by_cases e : j = i
  · subst e; simp [hi]
  · rw [if_neg (Ne.symm e), if_neg e]

theorem DI.next {listed : Array Bool} {a a' : Act} {w w' : World} (h : DI n ops L0 w0 Φ listed a w) (hst : ∀ i v w w', Ext w w' → Φ i v w → Φ i v w') (h1 : oneEach ops = true)
    {i : Nat} (hi : i ∈ Region.ready .any ops listed) (hq : QR n (fullL a) (dstOf ops i) (fun v w' => Ext w w' ∧ Φ i v w') .normal a' w') :
    DI n ops L0 w0 Φ (listed.setIfInBounds i true) a' w' := by
  obtain ⟨h0, o, ho, he⟩ := edges_listed hi
  have hlt : i < ops.size := (Array.getElem?_eq_some_iff.1 ho).1
  have hlt' : i < listed.size := by rw [h.lsz]; exact hlt
  obtain ⟨_, hq⟩ := hq
  have key : a'.tmps.size = n ∧ a'.defers = [] ∧ Ext w w' ∧ (∀ x, dstOf ops i ≠ some x → ∀ v, a.tmps[x]? = some v → a'.tmps[x]? = some v) ∧ (∀ d, dstOf ops i = some d → ∃ v, a'.tmps[d]? = some v ∧ Φ i v w') := by
    cases hd : dstOf ops i with
    | none =>
      rw [hd] at hq
      obtain ⟨hf, hE, _⟩ := hq
      exact ⟨hf.size, hf.defers, hE, fun x _ v hv => hf.get x v (by rw [lk_full]; exact hv), fun d hd => by cases hd⟩
    | some d =>
      rw [hd] at hq
      obtain ⟨v, hf, hE, hv⟩ := hq
      refine ⟨hf.size, hf.defers, hE, fun x hx u hu => hf.get x u ?_, fun d' hd' => ⟨v, ?_, hv⟩⟩
      · simp only [lk]
        have : Nat.beq x d = false := by
          cases hb : Nat.beq x d
          · rfl
          · exact absurd (by rw [Nat.eq_of_beq_eq_true hb]) hx
        rw [this, cond_false, lk_full]
        exact hu
      · cases hd'
        refine hf.get d v ?_
        have : Nat.beq d d = true := by simp
        simp only [lk, this, cond_true]
  obtain ⟨k1, k2, k3, k4, k5⟩ := key
  have hne : ∀ j, j < ops.size → j ≠ i → ∀ d, dstOf ops j = some d → dstOf ops i ≠ some d := by
    intro j hj hji d hd hd'
    simp only [oneEach, List.all_eq_true, List.mem_range, Bool.or_eq_true] at h1
    rcases h1 i hlt j hj with hb | hb
    · exact hji (Nat.eq_of_beq_eq_true hb).symm
    · rw [hd, hd'] at hb
      have : Nat.beq d d = true := by simp
      simp [this] at hb
  refine ⟨by simpa using h.lsz, k1, k2, h.ext.trans k3, ?_, ?_, ?_⟩
  · intro j hj hl e hm
    rw [getD_set _ _ _ _ hlt'] at hl ⊢
    split
    · rfl
    · by_cases e' : j = i
      · subst e'; exact he e hm
      · rw [if_neg e'] at hl; exact h.closed j hj hl e hm
  · intro x v hx hn
    refine k4 x (fun hd => ?_) v (h.init x v hx fun j hj hd => ?_)
    · have := hn i hlt hd
      rw [getD_set _ _ _ _ hlt', if_pos rfl] at this
      cases this
    · have := hn j hj hd
      rw [getD_set _ _ _ _ hlt'] at this
      split at this
      · cases this
      · exact this
  · intro j hj hl d hd
    rw [getD_set _ _ _ _ hlt'] at hl
    by_cases e : j = i
    · subst e; exact k5 d hd
    · rw [if_neg e] at hl
      obtain ⟨v, hv, hp⟩ := h.done j hj hl d hd
      exact ⟨v, k4 d (hne j hj e d hd) v hv, hst j v w w' k3 hp⟩

theorem count_step {listed : Array Bool} {i : Nat} (hi : listed.getD i true = false) : (listed.setIfInBounds i true).toList.count false + 1 = listed.toList.count false := by
  have hlt : i < listed.size := by
    rcases Nat.lt_or_ge i listed.size with hl | hl
    · exact hl
    · rw [Array.getD_eq_getD_getElem?, Array.getElem?_eq_none hl] at hi; cases hi
  have hv : listed.toList[i]'(by simpa using hlt) = false := by
    rw [Array.getD_eq_getD_getElem?, Array.getElem?_eq_getElem hlt] at hi
    simpa using hi
  have hpos : 0 < listed.toList.count false := List.count_pos_iff.2 (by rw [← hv]; exact List.getElem_mem _)
  rw [Array.toList_setIfInBounds, List.count_set (by simpa using hlt), hv]
  have e1 : (if (false == false) = true then 1 else 0) = 1 := rfl
  have e2 : (if (true == false) = true then 1 else 0) = 0 := rfl
  rw [e1, e2]
  omega

theorem all_listed {listed : Array Bool} (hsz : listed.size = ops.size) (hf : fwd ops = true) (hr : Region.ready .any ops listed = []) : ∀ j, j < ops.size → listed.getD j true = true := by
  intro j
  induction j using Nat.strongRecOn with
  | _ j ih =>
    intro hj
    cases hl : listed.getD j true with
    | true => rfl
    | false =>
      have hmem : j ∈ Region.ready .any ops listed := by
        refine mem_ready.2 ⟨hl, ops[j], Array.getElem?_eq_getElem hj, fun e he hb => ?_⟩
        simp only [fwd, List.all_eq_true, List.mem_range, decide_eq_true_eq] at hf
        have hin : e.on ∈ edgesOf ops j := by
          unfold edgesOf
          rw [Array.getElem?_eq_getElem hj]
          exact List.mem_map.2 ⟨e, List.mem_filter.2 ⟨by simpa using he, hb⟩, rfl⟩
        have hlt := hf j hj e.on hin
        have := ih e.on hlt (by omega)
        have hls : e.on < listed.size := by omega
        rw [Array.getD_eq_getD_getElem?, Array.getElem?_eq_getElem hls] at this ⊢
        exact this
      rw [hr] at hmem
      cases hmem

theorem ready_of_count {listed : Array Bool} (hsz : listed.size = ops.size) (h : listed.toList.count false = 0) : Region.ready .any ops listed = [] := by
  cases hr : Region.ready .any ops listed with
  | nil => rfl
  | cons i t =>
    have hi : i ∈ Region.ready .any ops listed := by rw [hr]; simp
    obtain ⟨h0, _⟩ := edges_listed hi
    have := count_step h0
    omega

/-- **EVERY ORDER**: Φ i says what operation i yields; each operation is looked at once, leaning on what is carried out ahead of it in every order. -/
theorem wc_draw {id : Nat} {l : List Oper} {Q : Exit → Act → World → Prop} {L : List (Nat × Value)} {w : World} (Φ : Nat → Value → World → Prop) (hm : P.follows .mixedOrders = true)
    (hB : (fwd l.toArray && oneEach l.toArray) = true) (hst : ∀ i v w w', Ext w w' → Φ i v w → Φ i v w')
    (H : ∀ i o, l[i]? = some o → ∀ F w', Ext w w' → Kn l.toArray L Φ i F w' → WL P n l.toArray (QR n F (dstOf l.toArray i) fun v w'' => Ext w' w'' ∧ Φ i v w'') [o] F w')
    (hQ : ∀ F w', Ext w w' → (∀ x v, lk L x = some v → unwritten l.toArray x = true → lk F x = some v) → (∀ j d, dstOf l.toArray j = some d → ∃ v, lk F d = some v ∧ Φ j v w') → WK n (Q .normal) F w') :
    WK n ((Code.region id l.toArray true).wp P Q) L w := by
  rw [Bool.and_eq_true] at hB
  obtain ⟨hf, h1⟩ := hB
  intro a ha
  have key : ∀ (fuel : Nat) (listed : Array Bool) (a : Act) (w' : World), listed.toList.count false ≤ fuel → DI n l.toArray L w Φ listed a w' → wpAny P .any l.toArray Q fuel listed a w' := by
    intro fuel
    have fin : ∀ (listed : Array Bool) (a : Act) (w' : World), DI n l.toArray L w Φ listed a w' → Region.ready .any l.toArray listed = [] → Q .normal a w' := by
      intro listed a w' hD hr
      have hall := all_listed hD.lsz hf hr
      refine hQ (fullL a) w' hD.ext (fun x v hx hu => ?_) (fun j d hd => ?_) a (by have := fr_full a hD.defers; rwa [hD.size] at this)
      · rw [lk_full]
        refine hD.init x v hx fun j hj hd => ?_
        simp only [unwritten, List.all_eq_true, List.mem_range] at hu
        have := hu j hj
        rw [hd] at this
        have hxx : Nat.beq x x = true := by simp
        simp [hxx] at this
      · rw [lk_full]
        have hj : j < l.toArray.size := by
          rcases Nat.lt_or_ge j l.toArray.size with hl | hl
          · exact hl
          · unfold dstOf at hd; rw [Array.getElem?_eq_none hl] at hd; cases hd
        exact hD.done j hj (hall j hj) d hd
    induction fuel with
    | zero =>
      intro listed a w' hc hD
      have hr := ready_of_count hD.lsz (by omega)
      exact ⟨hr, fin listed a w' hD hr⟩
    | succ fuel ih =>
      intro listed a w' hc hD
      refine ⟨fin listed a w' hD, fun i hi => ?_⟩
      obtain ⟨h0, o, ho, he⟩ := edges_listed hi
      have hol : l[i]? = some o := by simpa using ho
      have hfr := fr_full a hD.defers
      rw [hD.size] at hfr
      have hw := H i o hol (fullL a) w' hD.ext (hD.kn hi) a hfr
      have hnext : ∀ a' w'', QR n (fullL a) (dstOf l.toArray i) (fun v w'' => Ext w' w'' ∧ Φ i v w'') .normal a' w'' → wpAny P .any l.toArray Q fuel (listed.setIfInBounds i true) a' w'' := fun a' w'' hq =>
        ih _ _ _ (by have := count_step h0; omega) (hD.next hst h1 hi hq)
      unfold wpOp
      rw [ho]
      unfold wpList at hw
      simp only
      split
      · rename_i hwn
        rw [if_pos hwn] at hw
        rcases hw with hw | ⟨_, a1, w1, hx, _⟩
        · exact .inl (Oper.wp_mono2 (fun a' w'' h => hnext a' w'' h) (fun e a w hne h => absurd h.1 hne) hw)
        · cases hx
      · rename_i hwn
        rw [if_neg hwn] at hw
        exact hnext _ _ hw
  have hdi : DI n l.toArray L w Φ (Array.replicate l.toArray.size false) a { w with drawn := w.drawn + 1 } := by
    refine ⟨by simp, ha.size, ha.defers, Ext.drew w, fun j hj hl => ?_, fun x v hx _ => ha.get x v hx, fun j hj hl => ?_⟩
    · rw [Array.getD_eq_getD_getElem?, Array.getElem?_replicate, if_pos hj] at hl; cases hl
    · rw [Array.getD_eq_getD_getElem?, Array.getElem?_replicate, if_pos hj] at hl; cases hl
  exact wp_region_any hm (key _ _ _ _ (by simp) hdi)
end
end Go.Eng
