/- Regions that draw their order, whose operations may change memory, each as it says; one look at each operation serves every order. Program-independent. -/
import Derived.Test.YtnlpibfdobinoaaOpt
namespace Go.Eng
open Go.RowKit
section
variable {P : Program} {n : Nat} {ops : Array Oper} {L0 : List (Nat × Value)} {I : (Nat → Bool) → World → Prop} {Rl : Nat → World → World → Prop} {Φ : Nat → Value → World → Prop}
/-- What is known when some operations are done. -/
structure DG (n : Nat) (ops : Array Oper) (L0 : List (Nat × Value)) (I : (Nat → Bool) → World → Prop) (Φ : Nat → Value → World → Prop) (listed : Array Bool) (a : Act) (w : World) : Prop where
  lsz : listed.size = ops.size
  size : a.tmps.size = n
  defers : a.defers = []
  ext : I (fun j => listed.getD j true) w
  closed : ∀ j, j < ops.size → listed.getD j true = true → ∀ e ∈ edgesOf ops j, listed.getD e false = true
  init : ∀ x v, lk L0 x = some v → (∀ j, j < ops.size → dstOf ops j = some x → listed.getD j true = false) → a.tmps[x]? = some v
  done : ∀ j, j < ops.size → listed.getD j true = true → ∀ d, dstOf ops j = some d → ∃ v, a.tmps[d]? = some v ∧ Φ j v w

theorem DG.listedOf {listed : Array Bool} {a : Act} {w : World} (h : DG n ops L0 I Φ listed a w) : ∀ (f i p : Nat), (∀ e ∈ edgesOf ops i, listed.getD e false = true) → anc ops f i p = true → listed.getD p false = true := by
  intro f
  induction f with
  | zero => intro i p _ hh; simp [anc] at hh
  | succ f ih =>
    intro i p he hh
    simp only [anc, List.any_eq_true, Bool.or_eq_true] at hh
    obtain ⟨e, hm, hor⟩ := hh
    rcases hor with hb | hb
    · rw [← Nat.eq_of_beq_eq_true hb]; exact he e hm
    · have h1 := he e hm
      have hlt : e < listed.size := by
        rcases Nat.lt_or_ge e listed.size with hl | hl
        · exact hl
        · rw [Array.getD_eq_getD_getElem?, Array.getElem?_eq_none hl] at h1; cases h1
      have h2 : listed.getD e true = true := by
        rw [Array.getD_eq_getD_getElem?, Array.getElem?_eq_getElem hlt] at h1 ⊢; exact h1
      exact ih e p (h.closed e (by rw [← h.lsz]; exact hlt) h2) hb

theorem DG.kn {listed : Array Bool} {a : Act} {w : World} (h : DG n ops L0 I Φ listed a w) {i : Nat} (hi : i ∈ Region.ready .any ops listed) : Kn ops L0 Φ i (fullL a) w := by
  obtain ⟨h0, o, ho, he⟩ := edges_listed hi
  refine ⟨fun x v hx hok => ?_, fun p hp d hd => ?_⟩
  · rw [lk_full]
    refine h.init x v hx fun j hj hd => ?_
    simp only [okInit, List.all_eq_true, List.mem_range] at hok
    have := hok j hj
    rw [hd] at this
    have hxx : Nat.beq x x = true := by simp
    simp only [hxx, Bool.not_true, Bool.false_or, Bool.or_eq_true] at this
    rcases this with hb | hb
    · rw [Nat.eq_of_beq_eq_true hb]; exact h0
    · cases hl : listed.getD j true with
      | false => rfl
      | true =>
        have := getD_true_of_false (DG.listedOf h ops.size j i (h.closed j hj hl) hb)
        rw [h0] at this
        cases this
  · rw [lk_full]
    have hl := DG.listedOf h ops.size i p he hp
    exact h.done p (by rw [← h.lsz]; exact lt_of_getD hl) (getD_true_of_false hl) d hd

theorem DG.next {listed : Array Bool} {a a' : Act} {w w' : World} (h : DG n ops L0 I Φ listed a w) (hst : ∀ i j v w w', i ≠ j → Rl i w w' → Φ j v w → Φ j v w') (hI : ∀ i f w w', f i = false → I f w → Rl i w w' → I (fun j => if j = i then true else f j) w') (h1 : oneEach ops = true)
    {i : Nat} (hi : i ∈ Region.ready .any ops listed) (hq : QR n (fullL a) (dstOf ops i) (fun v w' => Rl i w w' ∧ Φ i v w') .normal a' w') :
    DG n ops L0 I Φ (listed.setIfInBounds i true) a' w' := by
  obtain ⟨h0, o, ho, he⟩ := edges_listed hi
  have hlt : i < ops.size := (Array.getElem?_eq_some_iff.1 ho).1
  have hlt' : i < listed.size := by rw [h.lsz]; exact hlt
  obtain ⟨_, hq⟩ := hq
  have key : a'.tmps.size = n ∧ a'.defers = [] ∧ Rl i w w' ∧ (∀ x, dstOf ops i ≠ some x → ∀ v, a.tmps[x]? = some v → a'.tmps[x]? = some v) ∧ (∀ d, dstOf ops i = some d → ∃ v, a'.tmps[d]? = some v ∧ Φ i v w') := by
    cases hd : dstOf ops i with
    | none =>
      rw [hd] at hq
      obtain ⟨hf, hE, _⟩ := hq
      exact ⟨hf.size, hf.defers, hE, fun x _ v hv => hf.get x v (by rw [lk_full]; exact hv), fun d hd => by cases hd⟩
    | some d =>
      rw [hd] at hq
      obtain ⟨v, hf, hE, hv⟩ := hq
      refine ⟨hf.size, hf.defers, hE, fun x hx u hu => hf.get x u ?_, fun d' hd' => ⟨v, ?_, hv⟩⟩
      · simp only [lk]
        have : Nat.beq x d = false := by
          cases hb : Nat.beq x d
          · rfl
          · exact absurd (by rw [Nat.eq_of_beq_eq_true hb]) hx
        rw [this, cond_false, lk_full]
        exact hu
      · cases hd'
        refine hf.get d v ?_
        have : Nat.beq d d = true := by simp
        simp only [lk, this, cond_true]
  obtain ⟨k1, k2, k3, k4, k5⟩ := key
  have hne : ∀ j, j < ops.size → j ≠ i → ∀ d, dstOf ops j = some d → dstOf ops i ≠ some d := by
    intro j hj hji d hd hd'
    simp only [oneEach, List.all_eq_true, List.mem_range, Bool.or_eq_true] at h1
    rcases h1 i hlt j hj with hb | hb
    · exact hji (Nat.eq_of_beq_eq_true hb).symm
    · rw [hd, hd'] at hb
      have : Nat.beq d d = true := by simp
      simp [this] at hb
  refine ⟨by simpa using h.lsz, k1, k2, (by
    have := hI i _ _ _ h0 h.ext k3
    have e : (fun j => if j = i then true else listed.getD j true) = fun j => (listed.setIfInBounds i true).getD j true := funext fun j => (getD_set listed i j true hlt').symm
    rwa [e] at this), ?_, ?_, ?_⟩
  · intro j hj hl e hm
    rw [getD_set _ _ _ _ hlt'] at hl ⊢
    split
    · rfl
    · by_cases e' : j = i
      · subst e'; exact he e hm
      · rw [if_neg e'] at hl; exact h.closed j hj hl e hm
  · intro x v hx hn
    refine k4 x (fun hd => ?_) v (h.init x v hx fun j hj hd => ?_)
    · have := hn i hlt hd
      rw [getD_set _ _ _ _ hlt', if_pos rfl] at this
      cases this
    · have := hn j hj hd
      rw [getD_set _ _ _ _ hlt'] at this
      split at this
      · cases this
      · exact this
  · intro j hj hl d hd
    rw [getD_set _ _ _ _ hlt'] at hl
    by_cases e : j = i
    · subst e; exact k5 d hd
    · rw [if_neg e] at hl
      obtain ⟨v, hv, hp⟩ := h.done j hj hl d hd
      exact ⟨v, k4 d (hne j hj e d hd) v hv, hst i j v w w' (Ne.symm e) k3 hp⟩

/-- Is each of the last operations, from m on, carried out behind all that stand ahead of it, in every order? -/
def chainB (ops : Array Oper) (m : Nat) : Bool := (List.range ops.size).all fun i => decide (i < m) || (List.range i).all fun p => anc ops ops.size i p
theorem anc_closed {listed : Array Bool} (hl : listed.size = ops.size) (hc : ∀ j, j < ops.size → listed.getD j true = true → ∀ e ∈ edgesOf ops j, listed.getD e false = true) : ∀ (f i p : Nat), (∀ e ∈ edgesOf ops i, listed.getD e false = true) → anc ops f i p = true → listed.getD p false = true := by
  intro f
  induction f with
  | zero => intro i p _ hh; simp [anc] at hh
  | succ f ih =>
    intro i p he hh
    simp only [anc, List.any_eq_true, Bool.or_eq_true] at hh
    obtain ⟨e, hm, hor⟩ := hh
    rcases hor with hb | hb
    · rw [← Nat.eq_of_beq_eq_true hb]; exact he e hm
    · have h1 := he e hm
      have hlt := lt_of_getD h1
      exact ih e p (hc e (by rw [← hl]; exact hlt) (getD_true_of_false h1)) hb
/-- The last operations, one behind the other. -/
theorem tail_any {Q : Exit → Act → World → Prop} {l : List Oper} {m : Nat} (hf : fwd l.toArray = true) (hch : chainB l.toArray m = true) : ∀ (fuel q : Nat) (listed : Array Bool) (a : Act) (w : World), m ≤ q → q ≤ l.length → listed.size = l.toArray.size →
    (∀ j, j < q → listed.getD j true = true) → (∀ j, q ≤ j → j < l.toArray.size → listed.getD j true = false) → listed.toList.count false ≤ fuel → wpList P l.toArray Q (l.drop q) a w → wpAny P .any l.toArray Q fuel listed a w := by
  intro fuel
  have base : ∀ (q : Nat) (listed : Array Bool) (a : Act) (w : World), q ≤ l.length → listed.size = l.toArray.size → (∀ j, q ≤ j → j < l.toArray.size → listed.getD j true = false) → wpList P l.toArray Q (l.drop q) a w → Region.ready .any l.toArray listed = [] → Q .normal a w := by
    intro q listed a w hql hls hnot hw hr
    have hall := all_listed hls hf hr
    rcases Nat.lt_or_ge q l.length with hlt | hge
    · have h1 := hall q (by simpa using hlt)
      rw [hnot q (Nat.le_refl _) (by simpa using hlt)] at h1
      cases h1
    · rw [List.drop_of_length_le hge] at hw
      simpa [wpList] using hw
  induction fuel with
  | zero =>
    intro q listed a w hm hql hls hyes hnot hc hw
    have hr := ready_of_count hls (by omega)
    exact ⟨hr, base q listed a w hql hls hnot hw hr⟩
  | succ fuel ih =>
    intro q listed a w hm hql hls hyes hnot hc hw
    refine ⟨base q listed a w hql hls hnot hw, fun i hi => ?_⟩
    obtain ⟨h0, o, ho, he⟩ := edges_listed hi
    have hil : i < l.toArray.size := (Array.getElem?_eq_some_iff.1 ho).1
    have hqi : q ≤ i := by
      rcases Nat.lt_or_ge i q with h | h
      · rw [hyes i h] at h0; cases h0
      · exact h
    have hclosed : ∀ j, j < l.toArray.size → listed.getD j true = true → ∀ e ∈ edgesOf l.toArray j, listed.getD e false = true := by
      intro j hj hlj e hem
      have hlt : e < j := by
        simp only [fwd, List.all_eq_true, List.mem_range, decide_eq_true_eq] at hf
        exact hf j hj e hem
      have hjq : j < q := by
        rcases Nat.lt_or_ge j q with h | h
        · exact h
        · rw [hnot j h hj] at hlj; cases hlj
      have h1 := hyes e (by omega)
      have hls2 : e < listed.size := by omega
      rw [Array.getD_eq_getD_getElem?, Array.getElem?_eq_getElem hls2] at h1 ⊢
      exact h1
    obtain rfl : i = q := by
      rcases Nat.lt_or_ge q i with h | h
      · simp only [chainB, List.all_eq_true, List.mem_range, Bool.or_eq_true, decide_eq_true_eq] at hch
        rcases hch i hil with h' | h'
        · omega
        · have := getD_true_of_false (anc_closed hls hclosed _ i q he (h' q h))
          rw [hnot q (Nat.le_refl _) (by omega)] at this
          cases this
      · omega
    have hll : i < l.length := by simpa using hil
    have hol : l[i] = o := by
      have : l[i]? = some o := by simpa using ho
      exact (List.getElem?_eq_some_iff.1 this).2
    rw [List.drop_eq_getElem_cons hll, hol] at hw
    have hlis : i < listed.size := by rw [hls]; exact hil
    have hnext : ∀ a' w', wpList P l.toArray Q (l.drop (i + 1)) a' w' → wpAny P .any l.toArray Q fuel (listed.setIfInBounds i true) a' w' := by
      intro a' w' hw'
      refine ih (i + 1) _ a' w' (by omega) (by omega) (by simpa using hls) (fun j hj => ?_) (fun j hj hjl => ?_) (by have := count_step h0; omega) hw'
      · rw [getD_set _ _ _ _ hlis]
        split
        · rfl
        · exact hyes j (by omega)
      · rw [getD_set _ _ _ _ hlis, if_neg (by omega)]
        exact hnot j (by omega) hjl
    unfold wpOp
    rw [ho]
    unfold wpList at hw
    simp only
    split
    · rename_i hwn
      rw [if_pos hwn] at hw
      rcases hw with hw | hw
      · exact .inl (Oper.wp_mono2 (fun a' w'' h => hnext a' w'' h) (fun e a w _ h => h) hw)
      · exact .inr hw
    · rename_i hwn
      rw [if_neg hwn] at hw
      exact hnext _ _ hw
/-- **EVERY ORDER**, of operations that may change memory, each as Rl says; tl: operations that are carried out last, one behind the other, in every order. -/
theorem wc_drawG {id : Nat} {pre tl : List Oper} {Q : Exit → Act → World → Prop} {L : List (Nat × Value)} {w : World} (Φ : Nat → Value → World → Prop) (I : (Nat → Bool) → World → Prop) (Rl : Nat → World → World → Prop) (hm : P.follows .mixedOrders = true)
    (hB : (fwd (pre ++ tl).toArray && oneEach (pre ++ tl).toArray && chainB (pre ++ tl).toArray pre.length) = true)
    (hI0 : ∀ f k, (∀ j, j < (pre ++ tl).length → f j = false) → I f { w with drawn := k }) (hI : ∀ i f w w', f i = false → I f w → Rl i w w' → I (fun j => if j = i then true else f j) w') (hst : ∀ i j v w w', i ≠ j → Rl i w w' → Φ j v w → Φ j v w')
    (H : ∀ i o, pre[i]? = some o → ∀ f F w', f i = false → I f w' → Kn (pre ++ tl).toArray L Φ i F w' → WL P n (pre ++ tl).toArray (QR n F (dstOf (pre ++ tl).toArray i) fun v w'' => Rl i w' w'' ∧ Φ i v w'') [o] F w')
    (hQ : ∀ f F w', I f w' → (∀ x v, lk L x = some v → ((List.range pre.length).all fun j => match dstOf (pre ++ tl).toArray j with | some d => !Nat.beq d x | none => true) = true → lk F x = some v) →
      (∀ j d, j < pre.length → dstOf (pre ++ tl).toArray j = some d → ∃ v, lk F d = some v ∧ Φ j v w') → WL P n (pre ++ tl).toArray Q tl F w') :
    WK n ((Code.region id (pre ++ tl).toArray true).wp P Q) L w := by
  simp only [Bool.and_eq_true] at hB
  obtain ⟨⟨hf, h1⟩, hT⟩ := hB
  have hsz : (pre ++ tl).toArray.size = pre.length + tl.length := by simp
  intro a ha
  have key : ∀ (fuel : Nat) (listed : Array Bool) (a : Act) (w' : World), listed.toList.count false ≤ fuel → (∀ j, pre.length ≤ j → j < (pre ++ tl).toArray.size → listed.getD j true = false) → DG n (pre ++ tl).toArray L I Φ listed a w' → wpAny P .any (pre ++ tl).toArray Q fuel listed a w' := by
    intro fuel
    have atEnd : ∀ (listed : Array Bool) (a : Act) (w' : World), DG n (pre ++ tl).toArray L I Φ listed a w' → (∀ j, j < pre.length → listed.getD j true = true) → (∀ j, pre.length ≤ j → j < (pre ++ tl).toArray.size → listed.getD j true = false) →
        wpList P (pre ++ tl).toArray Q tl a w' := by
      intro listed a w' hD hall hnot
      refine hQ _ (fullL a) w' hD.ext (fun x v hx hu => ?_) (fun j d hj hd => ?_) a (by have := fr_full a hD.defers; rwa [hD.size] at this)
      · rw [lk_full]
        refine hD.init x v hx fun j hj hd => ?_
        rcases Nat.lt_or_ge j pre.length with hlt | hge
        · simp only [List.all_eq_true, List.mem_range] at hu
          have := hu j hlt
          rw [hd] at this
          have hxx : Nat.beq x x = true := by simp
          simp [hxx] at this
        · exact hnot j hge hj
      · rw [lk_full]
        exact hD.done j (by omega) (hall j hj) d hd
    have allIn : ∀ (listed : Array Bool) (a : Act) (w' : World) (fuel : Nat), DG n (pre ++ tl).toArray L I Φ listed a w' → (∀ j, j < pre.length → listed.getD j true = true) → (∀ j, pre.length ≤ j → j < (pre ++ tl).toArray.size → listed.getD j true = false) → listed.toList.count false ≤ fuel →
        wpAny P .any (pre ++ tl).toArray Q fuel listed a w' := by
      intro listed a w' fuel hD hall hnot hc
      refine tail_any (m := pre.length) hf hT fuel pre.length listed a w' (Nat.le_refl _) (by simp) hD.lsz hall hnot hc ?_
      rw [List.drop_left]
      exact atEnd listed a w' hD hall hnot
    induction fuel with
    | zero =>
      intro listed a w' hc hnt hD
      have hr := ready_of_count hD.lsz (by omega)
      have hall := all_listed hD.lsz hf hr
      exact allIn listed a w' 0 hD (fun j hj => hall j (by omega)) hnt hc
    | succ fuel ih =>
      intro listed a w' hc hnt hD
      by_cases hall : ∀ j, j < pre.length → listed.getD j true = true
      · exact allIn listed a w' (fuel + 1) hD hall hnt hc
      · refine ⟨fun hr => absurd (fun j hj => all_listed hD.lsz hf hr j (by omega)) hall, fun i hi => ?_⟩
        obtain ⟨h0, o, ho, he⟩ := edges_listed hi
        have hol : (pre ++ tl)[i]? = some o := by simpa using ho
        have hil : i < pre.length + tl.length := by rw [← hsz]; exact (Array.getElem?_eq_some_iff.1 ho).1
        have hlt : i < pre.length := by
          rcases Nat.lt_or_ge i pre.length with h | h
          · exact h
          · exfalso
            apply hall
            intro j hj
            have hT' := hT
            simp only [chainB, List.all_eq_true, List.mem_range, Bool.or_eq_true, decide_eq_true_eq] at hT'
            rcases hT' i (by omega) with h' | h'
            · omega
            · exact getD_true_of_false (DG.listedOf hD _ i j he (h' j (by omega)))
        have hop : pre[i]? = some o := by rwa [List.getElem?_append_left hlt] at hol
        have hfr := fr_full a hD.defers
        rw [hD.size] at hfr
        have hw := H i o hop _ (fullL a) w' h0 hD.ext (hD.kn hi) a hfr
        have hnext : ∀ a' w'', QR n (fullL a) (dstOf (pre ++ tl).toArray i) (fun v w'' => Rl i w' w'' ∧ Φ i v w'') .normal a' w'' → wpAny P .any (pre ++ tl).toArray Q fuel (listed.setIfInBounds i true) a' w'' := fun a' w'' hq =>
          ih _ _ _ (by have := count_step h0; omega) (fun j hj hjl => by rw [getD_set _ _ _ _ (by rw [hD.lsz, hsz]; exact hil), if_neg (by omega)]; exact hnt j hj hjl) (hD.next hst hI h1 hi hq)
        unfold wpOp
        rw [ho]
        unfold wpList at hw
        simp only
        split
        · rename_i hwn
          rw [if_pos hwn] at hw
          rcases hw with hw | ⟨_, a1, w1, hx, _⟩
          · exact .inl (Oper.wp_mono2 (fun a' w'' h => hnext a' w'' h) (fun e a w hne h => absurd h.1 hne) hw)
          · cases hx
        · rename_i hwn
          rw [if_neg hwn] at hw
          exact hnext _ _ hw
  have hdi : DG n (pre ++ tl).toArray L I Φ (Array.replicate (pre ++ tl).toArray.size false) a { w with drawn := w.drawn + 1 } := by
    refine ⟨by simp, ha.size, ha.defers, hI0 _ _ (fun j hj => by rw [Array.getD_eq_getD_getElem?, Array.getElem?_replicate, if_pos (by simpa using hj)]; rfl), fun j hj hl => ?_, fun x v hx _ => ha.get x v hx, fun j hj hl => ?_⟩
    · rw [Array.getD_eq_getD_getElem?, Array.getElem?_replicate, if_pos hj] at hl; cases hl
    · rw [Array.getD_eq_getD_getElem?, Array.getElem?_replicate, if_pos hj] at hl; cases hl
  refine wp_region_any hm (key _ _ _ _ (by simp) (fun j _ hj => ?_) hdi)
  rw [Array.getD_eq_getD_getElem?, Array.getElem?_replicate, if_pos hj]
  rfl
end
end Go.Eng

namespace Go.Eng
open Go.RowKit
section
variable {P : Program} {n : Nat} {Q : Exit → Act → World → Prop} {L : List (Nat × Value)} {w : World}
/-- The check on such a region. -/
def drawnB (pre tl : List Oper) : Bool := fwd (pre ++ tl).toArray && oneEach (pre ++ tl).toArray && chainB (pre ++ tl).toArray pre.length
def unwrittenPre (pre tl : List Oper) (x : Nat) : Bool := (List.range pre.length).all fun j => match dstOf (pre ++ tl).toArray j with | some d => !Nat.beq d x | none => true
/-- Every order; all operations but the last one only add to memory. -/
theorem wc_drawLT {id : Nat} (pre tl : List Oper) {l : List Oper} (Φ : List SP) (hl : l = pre ++ tl) (hm : P.follows .mixedOrders = true) (hB : drawnB pre tl = true)
    (H : AllOps (fun i o => ∀ F w', Ext w w' → Kn (pre ++ tl).toArray L (fun i => (spAt Φ i).p) i F w' → WL P n (pre ++ tl).toArray (QR n F (dstOf (pre ++ tl).toArray i) fun v w'' => Ext w' w'' ∧ (spAt Φ i).p v w'') [o] F w') 0 pre)
    (hQ : ∀ F w', Ext w w' → (∀ x v, lk L x = some v → unwrittenPre pre tl x = true → lk F x = some v) → (∀ j d, j < pre.length → dstOf (pre ++ tl).toArray j = some d → ∃ v, lk F d = some v ∧ (spAt Φ j).p v w') → WL P n (pre ++ tl).toArray Q tl F w') :
    WK n ((Code.region id l.toArray true).wp P Q) L w := by
  subst hl
  exact wc_drawG (fun i => (spAt Φ i).p) (fun _ w' => Ext w w') (fun _ => Ext) hm hB (fun _ _ _ => ⟨rfl, rfl, rfl, Nat.le_refl _, fun _ _ _ => rfl⟩) (fun _ _ _ _ _ h k => h.trans k) (fun _ j v w w' _ ch h => (spAt Φ j).st v w w' ch h)
    (fun i o ho _ F w' _ hE hk => by have := H.at_ i o ho; rw [Nat.zero_add] at this; exact this F w' hE hk) (fun _ => hQ)
def AllSt (M : Nat → Prop) (e : Nat) : Nat → List SP → Prop
  | _, [] => True
  | k, s :: t => (k = e ∨ ∀ v w w', Chg M w w' → s.p v w → s.p v w') ∧ AllSt M e (k + 1) t
theorem AllSt.at_ {M : Nat → Prop} {e : Nat} : ∀ {Φ : List SP} {k : Nat}, AllSt M e k Φ → ∀ i, k + i ≠ e → ∀ v w w', Chg M w w' → (spAt Φ i).p v w → (spAt Φ i).p v w'
  | [], k, _, i, _, v, w, w', _, h => by simp [spAt, SP.any] at h ⊢
  | s :: t, k, hh, 0, hne, v, w, w', ch, h => by
    rcases hh.1 with e' | e'
    · exact absurd e' (by simpa using hne)
    · exact e' v w w' ch h
  | s :: t, k, hh, i + 1, hne, v, w, w', ch, h => by
    have := AllSt.at_ hh.2 i (by omega) v w w' ch
    simp only [spAt, List.getElem?_cons_succ] at this h ⊢
    exact this h
/-- Every order; operation e may change the blocks of M, the others only add to memory (but the last); ahead of e all is as it was. -/
theorem wc_drawLM {id : Nat} (pre tl : List Oper) {l : List Oper} (M : Nat → Prop) (e : Nat) (Φ : List SP) (hl : l = pre ++ tl) (hm : P.follows .mixedOrders = true) (hB : drawnB pre tl = true) (hS : AllSt M e 0 Φ)
    (H : AllOps (fun i o => ∀ F w', Chg M w w' → (i = e → Ext w w') → Kn (pre ++ tl).toArray L (fun i => (spAt Φ i).p) i F w' → WL P n (pre ++ tl).toArray (QR n F (dstOf (pre ++ tl).toArray i) fun v w'' => (if i = e then Chg M w' w'' else Ext w' w'') ∧ (spAt Φ i).p v w'') [o] F w') 0 pre)
    (hQ : ∀ F w', Chg M w w' → (∀ x v, lk L x = some v → unwrittenPre pre tl x = true → lk F x = some v) → (∀ j d, j < pre.length → dstOf (pre ++ tl).toArray j = some d → ∃ v, lk F d = some v ∧ (spAt Φ j).p v w') → WL P n (pre ++ tl).toArray Q tl F w') :
    WK n ((Code.region id l.toArray true).wp P Q) L w := by
  subst hl
  refine wc_drawG (fun i => (spAt Φ i).p) (fun f w' => Chg M w w' ∧ (f e = false → Ext w w')) (fun i w' w'' => if i = e then Chg M w' w'' else Ext w' w'') hm hB (fun _ _ _ => ⟨⟨rfl, rfl, rfl, Nat.le_refl _, fun _ _ _ => rfl⟩, fun _ => ⟨rfl, rfl, rfl, Nat.le_refl _, fun _ _ _ => rfl⟩⟩) (fun i f _ _ hf h k => ?_) (fun i j v w1 w2 hij k h => ?_)
    (fun i o ho f F w' hf hE hk => by have := H.at_ i o ho; rw [Nat.zero_add] at this; exact this F w' hE.1 (fun e' => hE.2 (by rw [← e']; exact hf)) hk) (fun _ F w' hE => hQ F w' hE.1)
  · split at k
    · rename_i hie
      exact ⟨h.1.step k (fun _ _ x => x), fun hf' => by simp [hie] at hf'⟩
    · rename_i hie
      refine ⟨h.1.step k (fun _ _ x => x.elim), fun hf' => ?_⟩
      have hf2 : f e = false := by simpa [Ne.symm hie] using hf'
      exact (h.2 hf2).trans k
  · split at k
    · rename_i hie
      exact hS.at_ j (by omega) v w1 w2 k h
    · exact (spAt Φ j).st v w1 w2 k h
end
end Go.Eng

namespace Go.Eng
open Go.RowKit
section
variable {P : Program} {n : Nat} {Q : Exit → Act → World → Prop} {L : List (Nat × Value)} {w : World}
theorem wl_drop {ops : Array Oper} {rest : List Oper} (L' : List (Nat × Value)) (hs : subL L' L) (h : WL P n ops Q rest L' w) : WL P n ops Q rest L w := fun a ha => h a (ha.sub hs)
/-- Every order; the operations from m on are carried out last, one behind the other. -/
theorem wc_drawTL {id : Nat} (m : Nat) {l : List Oper} (Φ : List SP) (hm : P.follows .mixedOrders = true) (hB : drawnB (l.take m) (l.drop m) = true)
    (H : AllOps (fun i o => ∀ F w', Ext w w' → Kn l.toArray L (fun i => (spAt Φ i).p) i F w' → WL P n l.toArray (QR n F (dstOf l.toArray i) fun v w'' => Ext w' w'' ∧ (spAt Φ i).p v w'') [o] F w') 0 (l.take m))
    (hQ : ∀ F w', Ext w w' → (∀ x v, lk L x = some v → ((List.range (l.take m).length).all fun j => match dstOf l.toArray j with | some d => !Nat.beq d x | none => true) = true → lk F x = some v) →
      (∀ j d, j < (l.take m).length → dstOf l.toArray j = some d → ∃ v, lk F d = some v ∧ (spAt Φ j).p v w') → WL P n l.toArray Q (l.drop m) F w') :
    WK n ((Code.region id l.toArray true).wp P Q) L w := by
  have e : l.take m ++ l.drop m = l := List.take_append_drop m l
  refine wc_drawLT (l.take m) (l.drop m) Φ e.symm hm hB ?_ ?_
  · rw [e]; exact H
  · rw [e]
    intro F w' h1 h2 h3
    exact hQ F w' h1 (fun x v hx hu => h2 x v hx (by unfold unwrittenPre; rw [e]; exact hu)) h3
end
/-- A block that is new. -/
def SP.nb (lo e : Nat) (cs : List Value) : SP := ⟨fun v w => ∃ g, v = .pointer (some ⟨g, 0, none⟩) ∧ lo ≤ g ∧ w.heap[g]? = some (.cells cs.toArray e (0, 0)), by
  rintro _ w w' ch ⟨g, rfl, h1, h2⟩
  exact ⟨g, rfl, h1, (ch.block g (Array.getElem?_eq_some_iff.1 h2).1 (fun x => x)).trans h2⟩⟩
end Go.Eng
