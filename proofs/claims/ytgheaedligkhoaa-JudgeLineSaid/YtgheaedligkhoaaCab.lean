/- What each of these functions computes, for every argument that its theorem names; a part of what the proof of JudgeLine stands on. -/
import Derived.Test.YtgheaedligkhoaaCaa
import Derived.Test.YtgheaedligkhoaaAaa
import Derived.Test.YtgheaedligkhoaaAab
import Derived.Test.YtgheaedligkhoaaAac
import Derived.Test.YtgheaedligkhoaaAad
import Derived.Test.YtgheaedligkhoaaAae
import Derived.Test.YtgheaedligkhoaaAam
import Derived.Test.YtgheaedligkhoaaAar
import Derived.Test.YtgheaedligkhoaaAas
import Derived.Test.YtgheaedligkhoaaAau
import Derived.Test.YtgheaedligkhoaaAav
import Derived.Test.YtgheaedligkhoaaAax
namespace Go.Proofs.Ytgheaedligkhoaa
open Go.RowKit Go.Eng _root_.Go.Proofs.Try Go.Eng _root_.Go.Proofs.Try
set_option maxRecDepth 100000
variable {w0 w : World} {M0 Fz : Nat → Prop} {H : List It} {A : Option Addr} {c : Nat}
theorem hv_all {p : Pln} {o : Wsh} {l : List Evt} : ∀ {k : Nat}, k ≤ l.length → (∀ j, j < k → ¬ R8 (l.take j) (l.getD j evt0)) → HV p o l k
 | 0, _, _ => HV.nil p o l
 | k + 1, hk, h8 => (hv_all (k := k) (by omega) (fun j hj => h8 j (by omega))).step (by omega) h8
theorem hist_eq {p : Pln} {l : List Evt} {i : Nat} (hi : i < l.length) (h2 : (l.getD i evt0).kind = 2) (h8 : ∀ j, j < i → ¬ R8 (l.take j) (l.getD j evt0)) : histP p (l.getD i evt0).wish (l.take (i + 1)) = histS p l i := by
 have h := hv_all (p := p) (o := (l.getD i evt0).wish) (l := l) (k := i + 1) (by omega) (fun j hj => by
  by_cases e : j = i
  ·subst e; exact fun x => by have := x.1; omega
  ·exact h8 j (by omega))
 unfold histP histS
 rw [h.out, h.fg, forgS_step _ _ hi, forgF_no (by omega)]
 congr 1
 unfold opsS
 rw [List.range_succ, List.filterMap_append, List.filterMap_cons_none (show opK l _ (i + 1) i = none from if_neg (fun x => by have := x.1; omega)), List.filterMap_nil, List.append_nil]
 refine fm_congr (fun j hj => ?_)
 unfold opK
 rw [opU_opS]
 rfl
theorem R11_iff {p : Pln} {l : List Evt} {i : Nat} (hi : i < l.length) (h8 : ∀ j, j < i → ¬ R8 (l.take j) (l.getD j evt0)) : R11 p l i ↔ P11 p (l.take (i + 1)) (l.getD i evt0) := by
 unfold R11 P11
 refine and_congr_right (fun hw => ?_)
 rw [hist_eq hi hw.1 h8]
 constructor
 ·rintro ⟨h1, h2⟩
  refine ⟨⟨h1, rfl, rfl⟩, ?_, h2⟩
  unfold linO at h2
  by_cases hc : chkH (histS p l i) = 0
  ·exact ((chkH_zero _).1 hc).1
  ·rw [if_neg hc] at h2
   exact absurd (Prod.mk.inj h2).2 hc
 ·rintro ⟨h1, _, h2⟩
  exact ⟨h1.1, h2⟩
theorem plain_ok {p : Pln} {l : List Evt} {i : Nat} (hi : i < l.length) (hno : ∀ j, j < i → broken p l j = 0) : firstA (anJ p l i (valOf (l.take i)) (l.getD i evt0)) 0 10 = broken p l i := by
 obtain ⟨hV, hA⟩ := known (by omega) hno
 have h8 : ∀ j, j < i → ¬ R8 (l.take j) (l.getD j evt0) := fun j hj => (broken_no (hno j hj)).2.2.2.1
 generalize hv : valOf (l.take i) = v at hV
 have a0 : anJ p l i v (l.getD i evt0) 0 = if R1 p (l.take i) (l.getD i evt0) then 1 else 0 := iteC (V1_iff hV) rfl rfl
 have a1 : anJ p l i v (l.getD i evt0) 1 = if R2 (l.take i) (l.getD i evt0) then 2 else 0 := iteC (V2_iff hV) rfl rfl
 have a2 : anJ p l i v (l.getD i evt0) 2 = if R3 p (l.getD i evt0) then 3 else 0 := iteC Iff.rfl rfl rfl
 have a3 : anJ p l i v (l.getD i evt0) 3 = if R4 (l.take i) (l.getD i evt0) then 4 else 0 := iteC ((V4_iff hV).trans (R4_iff hA).symm) rfl rfl
 unfold broken
 rw [firstA_if a0 (by decide)]
 by_cases r1 : R1 p (l.take i) (l.getD i evt0)
 ·rw [if_pos r1, if_pos r1]
 rw [if_neg r1, if_neg r1, firstA_if a1 (by decide)]
 by_cases r2 : R2 (l.take i) (l.getD i evt0)
 ·rw [if_pos r2, if_pos r2]
 rw [if_neg r2, if_neg r2, firstA_if a2 (by decide)]
 by_cases r3 : R3 p (l.getD i evt0)
 ·rw [if_pos r3, if_pos r3]
 have hs := hV.step hi r2
 have a4 : anJ p l i v (l.getD i evt0) 4 = if R5 p (l.take (i + 1)) (l.getD i evt0) then 5 else 0 := iteC ((V5_iff hs).trans (R5_iff hi).symm) rfl rfl
 have a5 : anJ p l i v (l.getD i evt0) 5 = if R6 (l.take i) (l.getD i evt0) then 6 else 0 := iteC ((V6_iff hV).trans R6_iff.symm) rfl rfl
 have h7 : (l.getD i evt0).kind = 7 → 0 ≤ (l.getD i evt0).epoch := fun h7 => Decidable.byContradiction (fun hn => r3 ⟨.inr (.inr h7), .inr (.inr (.inl (by omega)))⟩)
 have a6 : anJ p l i v (l.getD i evt0) 6 = if R7 (l.take i) (l.getD i evt0) then 7 else 0 := iteC ((V7_iff hV).trans (R7_iff hA h7).symm) rfl rfl
 have a7 : anJ p l i v (l.getD i evt0) 7 = if R8 (l.take i) (l.getD i evt0) then 8 else 0 := iteC (V8_iff hV) rfl rfl
 have a8 : anJ p l i v (l.getD i evt0) 8 = if R9 (l.take i) (l.getD i evt0) then 9 else if R10 (l.take i) (l.getD i evt0) then 10 else 0 := iteC (V9_iff hV) rfl (iteC Iff.rfl rfl rfl)
 have a9 : anJ p l i v (l.getD i evt0) 9 = if R11 p l i then 11 else 0 := iteC (R11_iff hi h8).symm rfl rfl
 rw [if_neg r3, if_neg r3, firstA_if a3 (by decide), firstA_if a4 (by decide), firstA_if a5 (by decide), firstA_if a6 (by decide), firstA_if a7 (by decide)]
 have e8 : firstA (anJ p l i v (l.getD i evt0)) 8 2 = if R9 (l.take i) (l.getD i evt0) then 9 else if R10 (l.take i) (l.getD i evt0) then 10 else if R11 p l i then 11 else 0 := by
  rw [firstA, a8]
  by_cases r9 : R9 (l.take i) (l.getD i evt0)
  ·rw [if_pos r9, if_neg (by decide), if_pos r9]
  ·rw [if_neg r9, if_neg r9]
   by_cases r10 : R10 (l.take i) (l.getD i evt0)
   ·rw [if_pos r10, if_neg (by decide), if_pos r10]
   ·rw [if_neg r10, if_pos rfl, if_neg r10]
    exact firstA_if (n := 0) a9 (by decide)
 rw [e8]
def rdW (c t bl : Int) : Wsh := ⟨c, t, 1, 0, 1, bl, [], 0, 0, []⟩
theorem lread_ok {w : World} {S : Nat → Prop} {c t bl : Int} (h1 : i64 c) (h2 : i64 t) (h3 : i64 bl) : Ret prog 22 #[iv c, iv t, iv bl] w (fun v w' => ∃ cs : List Value, v = .agg cs.toArray ∧ wishR.rd S w' cs (rdW c t bl) ∧ Ext w w') := by
 refine ret_of_wk func22 rfl ntmps22 leB_ ?_
 have hp := HP.begin_ w
 refine so ?_
 refine Alo hp (h := fun g1 w1 hp E1 => so ?_)
 refine wl_builtS (ps := [(4, .const (.int .i64 1)), (0, .tmp 7), (1, .tmp 8), (2, .const (.int .i64 1)), (5, .tmp 9)]) (by decide) bld42 rfl rfl (so ?_)
 refine wl_re (k := 10) (v := .agg (wsC (rdW c t bl) none 0 none 0).toArray) rfl rfl ?_
 refine Hs 0 hp (h := fun w3 hp C3 => so ?_)
 refine wk_postR (rs := [.cell 6 42]) (.inl rfl) results22 ⟨_, _, _, rfl, rfl, loadVar_agg ag42 (hp.blkAt (i := 0) rfl).at0 rfl, rfl⟩ ?_
 exact ⟨_, rfl, _, rfl, ⟨⟨h1, h2, j1, j0, j1, h3, j0, j0⟩, none, 0, none, 0, rfl, GS.nil _ _ _ _ _, GS.nil _ _ _ _ _⟩, hp.chg⟩
theorem ansD_rd {S : Nat → Prop} {w : World} {A : Option Addr} {c : Nat} {b : List UInt8} (h : GS byteR S w A c b) : ansR.rd S w (anC ⟨0, b, 0, []⟩ A c none 0) ⟨0, b, 0, []⟩ := ⟨⟨j0, j0⟩, A, c, none, 0, rfl, h, GS.nil _ _ _ _ _⟩
def bringI (i n : Int) : Int := if n ≤ 0 then 0 else i % n
theorem tmod_bring {i n : Int} (h : 0 < n) : i % n = if i.tmod n < 0 then i.tmod n + n else i.tmod n := by
 have h1 := Int.tmod_eq_emod (a := i) (b := n)
 have h2 := Int.emod_nonneg i (by omega : n ≠ 0)
 have h3 := Int.emod_lt_of_pos i h
 rw [h1]
 by_cases h4 : 0 ≤ i ∨ n ∣ i
 ·rw [if_pos h4, if_neg (by omega)]; omega
 ·rw [if_neg h4, if_pos (by omega)]; omega
theorem tmod_b {i n : Int} (hi : i64 i) (h : 0 < n) : -9223372036854775808 ≤ i.tmod n ∧ i.tmod n < n ∧ -n < i.tmod n := by
 have h1 := Int.tmod_eq_emod (a := i) (b := n)
 have h2 := Int.emod_nonneg i (by omega : n ≠ 0)
 have h3 := Int.emod_lt_of_pos i h
 unfold i64 at hi
 have h5 : n ∣ i ∨ i % n ≠ 0 := by
  by_cases e : i % n = 0
  ·exact .inl (Int.dvd_of_emod_eq_zero e)
  ·exact .inr e
 rw [h1]
 by_cases h4 : 0 ≤ i ∨ n ∣ i
 ·rw [if_pos h4]; omega
 ·rw [if_neg h4]
  have h6 : i % n ≠ 0 := h5.resolve_left (fun h => h4 (.inr h))
  have h7 : n * (i / n) + i % n = i := Int.mul_ediv_add_emod i n
  have h8 : i / n ≤ -1 := by
   have : i / n < 0 := Int.ediv_neg_of_neg_of_pos (by omega) h
   omega
  have h9 : n * (i / n) ≤ n * (-1) := Int.mul_le_mul_of_nonneg_left h8 (by omega)
  omega
theorem lbring_ok {w : World} {i n : Int} (hi : i64 i) (hn : i64 n) : Ret prog 17 #[iv i, iv n] w (fun v w' => v = iv (bringI i n) ∧ Ext w w') := by
 refine ret_of_wk func17 rfl ntmps17 leB_ ?_
 have hp := HP.begin_ w
 refine so ?_
 refine Cd ?_ ?_ <;> intro k1 <;> refine so ?_
 ·exact Pt ⟨_, rfl, by rw [bringI, if_pos k1], hp.chg⟩
 have hb := tmod_b hi (by omega : 0 < n)
 have ht := tmod_bring (i := i) (by omega : 0 < n)
 unfold i64 at hi hn
 refine wl_rem (by decide) rfl rfl (by omega) rfl ?_
 generalize i.tmod n = z at hb ht
 refine so ?_
 refine Cd ?_ ?_ <;> intro k2 <;> refine so ?_
 ·exact Pt ⟨_, rfl, by rw [bringI, if_neg k1, ht, if_pos k2], hp.chg⟩
 ·exact Pt ⟨_, rfl, by rw [bringI, if_neg k1, ht, if_neg k2], hp.chg⟩
def lnW : Wsh := wrW 31 1 2 9
def lnB (b : Bool) : UInt8 := if b then 9 else 0
def lnP (i : Nat) (b : Bool) : List Evt := [callE (rdW 32 (1 + (i : Int)) 2), doneE (rdW 32 (1 + (i : Int)) 2) ⟨0, dat (lnB b), 0, []⟩]
def lnS : Nat → List Bool → List Evt
 | _, [] => []
 | i, b :: t => lnP i b ++ lnS (i + 1) t
def lnAll (bs : List Bool) : List Evt := [callE lnW, runE 5 1 1 lnW] ++ lnS 0 bs
def lnF : Nat → Bool → List Bool → Option Nat
 | _, _, [] => none
 | i, seen, b :: t => if seen && !b then some (3 + 2 * i) else lnF (i + 1) (seen || b) t
def lnE (bs : List Bool) : Int × Int × Int := match lnF 0 false bs with | some n => (11, (n : Int), 0) | none => (0, 0, 0)
def bitsL : Nat → List (List Bool)
 | 0 => [[]]
 | n + 1 => (bitsL n).flatMap fun l => [true :: l, false :: l]
theorem mem_bits : ∀ (n : Nat) (bs : List Bool), bs.length = n → bs ∈ bitsL n
 | 0, bs, h => by rw [List.eq_nil_of_length_eq_zero h]; exact List.mem_singleton.2 rfl
 | n + 1, [], h => by cases h
 | n + 1, b :: t, h => by
  refine List.mem_flatMap.2 ⟨t, mem_bits n t (by simpa using h), ?_⟩
  cases b <;> simp
theorem lnS_snoc : ∀ (bs : List Bool) (b : Bool) (i : Nat), lnS i (bs ++ [b]) = lnS i bs ++ lnP (i + bs.length) b
 | [], b, i => by simp [lnS]
 | a :: t, b, i => by
  rw [List.cons_append, lnS, lnS, lnS_snoc t b (i + 1), List.append_assoc, List.length_cons, show i + 1 + t.length = i + (t.length + 1) from by omega]
theorem lnS_len : ∀ (bs : List Bool) (i : Nat), (lnS i bs).length = 2 * bs.length
 | [], _ => rfl
 | b :: t, i => by rw [lnS, List.length_append, lnS_len t (i + 1), List.length_cons]; show 2 + 2 * t.length = _; omega
theorem lnF_snoc : ∀ (bs : List Bool) (b seen : Bool) (i : Nat), lnF i seen (bs ++ [b]) = match lnF i seen bs with | some n => some n | none => if (seen || bs.any id) && !b then some (3 + 2 * (i + bs.length)) else none
 | [], b, seen, i => by
  rw [List.nil_append]
  show (if seen && !b then some (3 + 2 * i) else none) = if (seen || false) && !b then some (3 + 2 * (i + 0)) else none
  rw [Bool.or_false]
  rfl
 | a :: t, b, seen, i => by
  rw [List.cons_append, lnF, lnF]
  by_cases h : (seen && !a) = true
  ·rw [if_pos h, if_pos h]
  ·rw [if_neg h, if_neg h, lnF_snoc t b (seen || a) (i + 1), List.any_cons, List.length_cons, Bool.or_assoc, show i + 1 + t.length = i + (t.length + 1) from by omega]
   rfl
end Go.Proofs.Ytgheaedligkhoaa
namespace Go.Proofs.Ytgheaedligkhoaa
open Go.RowKit Go.Eng _root_.Go.Proofs.Try
set_option maxRecDepth 100000
variable {w0 w : World} {M0 Fz : Nat → Prop} {H : List It} {A : Option Addr} {c : Nat}
def SP.ownL {α : Type} (r : Rep α) (S : Nat → Prop) (e lo : Nat) (l : List α) : SP := ⟨fun v w => ∃ g rows, v = .slice (some ⟨g, 0, none⟩) l.length l.length ∧ lo ≤ g ∧ OwnRow e r.size lo w (some ⟨g, 0, none⟩) l.length l.length (rows : List (List Value)).flatten ∧ RF r S w rows l, by
 rintro _ w w' ch ⟨g, rows, rfl, h1, h2, h3⟩
 exact ⟨g, rows, rfl, h1, h2.ext ch, h3.ext ch⟩⟩
theorem row2 {w : World} {S : Nat → Prop} {c1 c2 : List Value} {e1 e2 : Evt} (h1 : evtR.rd S w c1 e1) (h2 : evtR.rd S w c2 e2) : RF evtR S w [c1, c2] [e1, e2] := rfc h1 (rfc h2 (RF.nil _ _ _))
end Go.Proofs.Ytgheaedligkhoaa
