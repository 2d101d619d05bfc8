/- Drawn regions in which one operation turns one thing of the call's own. Program-independent. -/
import Derived.Test.YtnlpibfdobinoaaSep
import Derived.Test.YtnlpibfdobinoaaDrg
namespace Go.Eng
open Go.RowKit
section
variable {P : Program} {n : Nat} {Q : Exit → Act → World → Prop} {L : List (Nat × Value)} {w w0 w' : World} {M0 Fz : Nat → Prop} {H : List It}
theorem HP.apart (h : HP w0 M0 Fz w H) {i : Nat} {x : It} (hi : H[i]? = some x) : ∃ K, x.R w K ∧ (∀ b, K b → ¬ Fz b) ∧ (∀ b, K b → b < w.heap.size) ∧ (∀ w', Chg K w w' → HP w0 M0 Fz w' (H.eraseIdx i)) ∧
    (∀ (w' : World) (x' : It) (K' : Nat → Prop), Chg K w w' → x'.R w' K' → (∀ b, K' b → K b ∨ w.heap.size ≤ b) → HP w0 M0 Fz w' (H.set i x')) := by
  obtain ⟨K, h1, h2, h3⟩ := h.focus hi
  have hil : i < H.length := (List.getElem?_eq_some_iff.1 hi).1
  refine ⟨K, h1, h2, fun b hb => x.lt h1 b hb, fun w' hch => ?_, fun w' x' K' a b c => (h3 w' x' K' a b c).1⟩
  -- the thing itself is left out
  have hh := (h3 w' ⟨fun _ K' => ∀ b, ¬ K' b, fun _ h => h, fun h b hb => absurd hb (h b)⟩ (fun _ => False) hch (fun _ h => h) (fun _ h => h.elim)).1
  obtain ⟨Ks, e1, e2, e3⟩ := hh.ex
  have hlen : (H.set i ⟨fun _ K' => ∀ b, ¬ K' b, fun _ h => h, fun h b hb => absurd hb (h b)⟩).length = H.length := List.length_set
  have up : ∀ j, j < (H.eraseIdx i).length → (if j < i then j else j + 1) < H.length := by
    intro j hj
    rw [List.length_eraseIdx, if_pos hil] at hj
    split <;> omega
  refine ⟨hh.chg, hh.fz, fun j => Ks (if j < i then j else j + 1), fun j y hj => ?_, fun j hj => ?_, fun j k hj hk hne => ?_⟩
  · refine e1 _ y ?_
    rw [List.getElem?_eraseIdx] at hj
    split
    · rename_i hlt
      rw [if_pos hlt] at hj
      rw [List.getElem?_set_ne (by omega)]
      exact hj
    · rename_i hlt
      rw [if_neg hlt] at hj
      rw [List.getElem?_set_ne (by omega)]
      exact hj
  · exact e2 _ (by rw [hlen]; exact up j hj)
  · exact e3 _ _ (by rw [hlen]; exact up j hj) (by rw [hlen]; exact up k hk) (by split <;> split <;> omega)
/-- Every order; operation e turns the blocks of M; the operations from m on are carried out last. -/
theorem wc_drawTM {id : Nat} (m e : Nat) (M : Nat → Prop) {l : List Oper} (Φ : List SP) (hm : P.follows .mixedOrders = true) (hB : drawnB (l.take m) (l.drop m) = true) (hS : AllSt M e 0 Φ)
    (H : AllOps (fun i o => ∀ F w', Chg M w w' → (i = e → Ext w w') → Kn l.toArray L (fun i => (spAt Φ i).p) i F w' → WL P n l.toArray (QR n F (dstOf l.toArray i) fun v w'' => (if i = e then Chg M w' w'' else Ext w' w'') ∧ (spAt Φ i).p v w'') [o] F w') 0 (l.take m))
    (hQ : ∀ F w', Chg M w w' → (∀ x v, lk L x = some v → ((List.range (l.take m).length).all fun j => match dstOf l.toArray j with | some d => !Nat.beq d x | none => true) = true → lk F x = some v) →
      (∀ j d, j < (l.take m).length → dstOf l.toArray j = some d → ∃ v, lk F d = some v ∧ (spAt Φ j).p v w') → WL P n l.toArray Q (l.drop m) F w') :
    WK n ((Code.region id l.toArray true).wp P Q) L w := by
  have e0 : l.take m ++ l.drop m = l := List.take_append_drop m l
  refine wc_drawLM (l.take m) (l.drop m) M e Φ e0.symm hm hB hS ?_ ?_
  · rw [e0]; exact H
  · rw [e0]
    intro F w' h1 h2 h3
    exact hQ F w' h1 (fun x v hx hu => h2 x v hx (by unfold unwrittenPre; rw [e0]; exact hu)) h3
end
/-- A row just made. -/
def SP.tmpR (lo e size k : Nat) (xs : List Value) : SP := ⟨fun v w => ∃ g, v = .slice (some ⟨g, 0, none⟩) k k ∧ lo ≤ g ∧ OwnRow e size 0 w (some ⟨g, 0, none⟩) k k xs, by
  rintro _ w w' ch ⟨g, rfl, h1, h2⟩
  exact ⟨g, rfl, h1, h2.ext ch⟩⟩
theorem SP.tmpR_st {lo e size k : Nat} {xs : List Value} {K : Nat → Prop} (hK : ∀ b, K b → b < lo) : ∀ v w w', Chg K w w' → (SP.tmpR lo e size k xs).p v w → (SP.tmpR lo e size k xs).p v w' := by
  rintro _ w w' ch ⟨g, rfl, h1, h2⟩
  exact ⟨g, rfl, h1, h2.keep ch (fun b _ _ ⟨a, ha, hb⟩ hk => by cases ha; subst hb; have := hK _ hk; exact absurd h1 (Nat.not_le.2 this))⟩
/-- A row that was turned, or made anew. -/
def SP.turn (K : Nat → Prop) (lo e size k : Nat) (xs : List Value) : SP := ⟨fun v w => ∃ A c, v = .slice A k c ∧ OwnRow e size 0 w A k c xs ∧ ∀ b, c ≠ 0 ∧ blk A b → K b ∨ lo ≤ b, by
  rintro _ w w' ch ⟨A, c, rfl, h1, h2⟩
  exact ⟨A, c, rfl, h1.ext ch, h2⟩⟩
end Go.Eng
