/- What each of these functions computes, for every argument that its theorem names; a part of what the proof of JudgeSpoilt stands on. -/
import Derived.Test.YtgheaedligkhoaaFaa
import Derived.Test.YtgheaedligkhoaaAaa
import Derived.Test.YtgheaedligkhoaaAab
import Derived.Test.YtgheaedligkhoaaAac
import Derived.Test.YtgheaedligkhoaaAad
import Derived.Test.YtgheaedligkhoaaAae
import Derived.Test.YtgheaedligkhoaaAah
import Derived.Test.YtgheaedligkhoaaAam
import Derived.Test.YtgheaedligkhoaaAar
import Derived.Test.YtgheaedligkhoaaAas
import Derived.Test.YtgheaedligkhoaaAau
import Derived.Test.YtgheaedligkhoaaAax
namespace Go.Proofs.Ytgheaedligkhoaa
open Go.RowKit Go.Eng _root_.Go.Proofs.Try Go.Eng _root_.Go.Proofs.Try
set_option maxRecDepth 100000
variable {w0 w : World} {M0 Fz : Nat → Prop} {H : List It} {A : Option Addr} {c : Nat}
theorem hv_all {p : Pln} {o : Wsh} {l : List Evt} : ∀ {k : Nat}, k ≤ l.length → (∀ j, j < k → ¬ R8 (l.take j) (l.getD j evt0)) → HV p o l k
 | 0, _, _ => HV.nil p o l
 | k + 1, hk, h8 => HV.step (hv_all (k := k) (by omega) (fun j hj => h8 j (by omega))) (by omega) h8
def rdW (c t bl : Int) : Wsh := ⟨c, t, 1, 0, 1, bl, [], 0, 0, []⟩
theorem ansD_rd {S : Nat → Prop} {w : World} {A : Option Addr} {c : Nat} {b : List UInt8} (h : GS byteR S w A c b) : ansR.rd S w (anC ⟨0, b, 0, []⟩ A c none 0) ⟨0, b, 0, []⟩ := ⟨⟨j0, j0⟩, A, c, none, 0, rfl, h, GS.nil _ _ _ _ _⟩
theorem take_take_le {l : List Evt} {i n : Nat} (h : i ≤ n) : (l.take n).take i = l.take i := by rw [List.take_take, Nat.min_eq_left h]
theorem endS_cut {l : List Evt} {n : Nat} {a : Int} : ∀ {k j : Nat}, j + k ≤ n → endS (l.take n) a j k = endS l a j k
 | 0, _, _ => rfl
 | k + 1, j, h => by
  rw [endS, endS, getD_take (l := l) (i := n) (j := j) (by omega), endS_cut (k := k) (j := j + 1) (by omega)]
theorem findS_of {p : Pln} {l : List Evt} (hM : PlnMay p) (hl : l.length ≤ 32768) : findS p l = ((firstB p l 0 l.length).1, (firstB p l 0 l.length).2, 0) := by rw [findS, if_neg (fun h => h hM), if_neg (by omega)]
def bringI (i n : Int) : Int := if n ≤ 0 then 0 else i % n
theorem tmod_bring {i n : Int} (h : 0 < n) : i % n = if i.tmod n < 0 then i.tmod n + n else i.tmod n := by
 have h1 := Int.tmod_eq_emod (a := i) (b := n)
 have h2 := Int.emod_nonneg i (by omega : n ≠ 0)
 have h3 := Int.emod_lt_of_pos i h
 rw [h1]
 by_cases h4 : 0 ≤ i ∨ n ∣ i
 ·rw [if_pos h4, if_neg (by omega)]; omega
 ·rw [if_neg h4, if_pos (by omega)]; omega
theorem tmod_b {i n : Int} (hi : i64 i) (h : 0 < n) : -9223372036854775808 ≤ i.tmod n ∧ i.tmod n < n ∧ -n < i.tmod n := by
 have h1 := Int.tmod_eq_emod (a := i) (b := n)
 have h2 := Int.emod_nonneg i (by omega : n ≠ 0)
 have h3 := Int.emod_lt_of_pos i h
 unfold i64 at hi
 have h5 : n ∣ i ∨ i % n ≠ 0 := by
  by_cases e : i % n = 0
  ·exact .inl (Int.dvd_of_emod_eq_zero e)
  ·exact .inr e
 rw [h1]
 by_cases h4 : 0 ≤ i ∨ n ∣ i
 ·rw [if_pos h4]; omega
 ·rw [if_neg h4]
  have h6 : i % n ≠ 0 := h5.resolve_left (fun h => h4 (.inr h))
  have h7 : n * (i / n) + i % n = i := Int.mul_ediv_add_emod i n
  have h8 : i / n ≤ -1 := by
   have : i / n < 0 := Int.ediv_neg_of_neg_of_pos (by omega) h
   omega
  have h9 : n * (i / n) ≤ n * (-1) := Int.mul_le_mul_of_nonneg_left h8 (by omega)
  omega
def NB (pre : List Evt) : Prop := ∀ j, j < pre.length → broken planP pre j = 0
theorem getD_mid {pre suf : List Evt} {e : Evt} : (pre ++ e :: suf).getD pre.length evt0 = e := by
 rw [List.getD_eq_getElem?_getD, List.getElem?_append_right (Nat.le_refl _), Nat.sub_self]; rfl
theorem valOf_push (pre : List Evt) (e : Evt) : valOf (pre ++ [e]) = valF (valOf pre) e := by unfold valOf; rw [List.foldl_append]; rfl
theorem histT_push (p : Pln) (o : Wsh) (pre : List Evt) (e : Evt) : histT p o (pre ++ [e]) = histF p o (histT p o pre) e := by unfold histT; rw [List.foldl_append]; rfl
def digS (s : Int) : Dig := dig1 (UInt8.ofNat (s.toNat - 1))
def digM (s : Int) : Dig := dig1 (UInt8.ofNat (s.toNat + 99))
theorem bad_no {n : Int} (h : n ≠ 33) : ¬ badP planP n := by
 rintro (⟨h1, h2⟩ | ⟨h1, _⟩)
 ·have : bitP planP.bad n = (Int.fdiv 0 (2 ^ n.toNat) % 2 = 1) := rfl
  rw [this, Int.zero_fdiv] at h2
  cases h2
 ·exact h h1
theorem ten0 {f : Nat → Int} (h0 : f 0 = 0) (h1 : f 1 = 0) (h2 : f 2 = 0) (h3 : f 3 = 0) (h4 : f 4 = 0) (h5 : f 5 = 0) (h6 : f 6 = 0) (h7 : f 7 = 0) (h8 : f 8 = 0) (h9 : f 9 = 0) : firstA f 0 10 = 0 := by
 refine firstA_no (fun i _ hi => ?_)
 have : i = 0 ∨ i = 1 ∨ i = 2 ∨ i = 3 ∨ i = 4 ∨ i = 5 ∨ i = 6 ∨ i = 7 ∨ i = 8 ∨ i = 9 := by omega
 rcases this with rfl | rfl | rfl | rfl | rfl | rfl | rfl | rfl | rfl | rfl <;> assumption
theorem notC {e : Evt} (h : e.kind = 3 ∨ e.kind = 4) : ¬ clientE e := by unfold clientE; omega
structure NodeE (e : Evt) : Prop where
 kind : e.kind = 3 ∨ e.kind = 4
 time : e.time = 0
 a : 5 ≤ e.a ∧ e.a ≤ 8
 group : e.group = 1
 epoch : e.epoch = 0
 seq : 1 ≤ e.seq ∧ e.seq ≤ 12
theorem st_node {v : JVal} {e : Evt} (h : e.kind = 3 ∨ e.kind = 4) : stJ v e 6 = stJ v e 5 ∧ stJ v e 7 = stJ v e 5 ∧ stJ v e 8 = stJ v e 5 ∧ stJ v e 10 = stJ v e 5 := by
 have h6 : stJ v e 6 = stJ v e 5 := if_neg (show ¬ e.kind = 6 by omega)
 have h7 : stJ v e 7 = stJ v e 6 := if_neg (show ¬ (e.kind = 7 ∧ e.epoch = 0) by omega)
 have h8 : stJ v e 8 = stJ v e 7 := if_neg (show ¬ e.kind = 1 by omega)
 have h9 : stJ v e 10 = stJ v e 8 := if_neg (show ¬ e.kind = 2 by omega)
 exact ⟨h6, h7.trans h6, h8.trans (h7.trans h6), h9.trans (h8.trans (h7.trans h6))⟩
structure CliE (e : Evt) : Prop where
 kind : e.kind = 1 ∨ e.kind = 2
 time : e.time = 0
 a : 31 ≤ e.a ∧ e.a ≤ 32
theorem st_cli {v : JVal} {e : Evt} (hk : e.kind = 1 ∨ e.kind = 2) : stJ v e 3 = v ∧ stJ v e 4 = v ∧ stJ v e 5 = v ∧ stJ v e 6 = v ∧ stJ v e 7 = v := by
 have h2 : stJ v e 3 = v := if_pos hk
 have h4 : stJ v e 4 = v := by show u4 (stJ v e 3) e = v; rw [h2, u4, if_neg (by omega), if_neg (by omega)]
 have h5 : stJ v e 5 = v := by show u5 (stJ v e 4) e = v; rw [h4, u5, if_neg (by omega)]
 have h6 : stJ v e 6 = v := by show u6 (stJ v e 5) e = v; rw [h5, u6, if_neg (by omega)]
 have h7 : stJ v e 7 = v := by show u7 (stJ v e 6) e = v; rw [h6, u7, if_neg (by omega)]
 exact ⟨h2, h4, h5, h6, h7⟩
def cwCall (cw : Int → Cal) (e : Evt) : Int → Cal := fun a => if a = e.a then ⟨e.wish, true, (cw a).many + 1⟩ else cw a
def cwDone (cw : Int → Cal) (e : Evt) : Int → Cal := fun a => if a = e.a then ⟨(cw a).wish, false, (cw a).many⟩ else cw a
def zer16 : List UInt8 := List.replicate 16 0
def blkW (b : Int) : Wsh := ⟨0, 0, 1, 0, 0, b, [], 0, 0, []⟩
theorem histF_congr {p : Pln} {o o' : Wsh} (h1 : o.group = o'.group) (h2 : o.block = o'.block) (s : HSt) (x : Evt) : histF p o s x = histF p o' s x := by
 have hi : oursW x.wish o ↔ oursW x.wish o' := by unfold oursW; rw [h1, h2]
 unfold histF
 exact iteC (and_congr_right (fun _ => hi)) rfl (iteC Iff.rfl rfl (iteC (and_congr_left (fun _ => and_congr_right (fun _ => and_congr_right (fun _ => and_congr_left (fun _ => hi))))) rfl rfl))
def lastV : List UInt8 → List HOp → List UInt8
 | v, [] => v
 | v, x :: r => lastV (if x.wr then x.val else v) r
def tick (H : HSt) : HSt := ⟨H.out, H.forged, H.opn, H.seen, H.n + 1⟩
def sameE (x y : Evt) : Prop := x.seq = y.seq ∧ x.a = y.a
def ranE (ran : Int → Int → Bool) (e : Evt) : Int → Int → Bool := fun s n => if s = e.seq ∧ n = e.a then true else ran s n
def runA (m : Int) (i : Nat) (w : Wsh) (a : Ans) : Evt := { runE m (1 + (i : Int)) (UInt8.ofNat i) w with ans := a }
def markA (i : Nat) (m : Int) : Evt := nodeE 4 m 0 (1 + (i : Int)) (UInt8.ofNat (100 + i))
def bitK (k m : Int) : Bool := decide (k.fdiv (2 ^ m.toNat) % 2 = 1)
def fourM : List Int := [5, 6, 7, 8]
structure SSt where
 out : List Evt
 late : List Evt
 bl : Int → UInt8
 cl : Int → Int
theorem no_expl {H : List HOp} {j : Nat} {v : List UInt8} (hj : j < H.length) (hr : H[j].wr = false) (hv : H[j].val = v) (he : 0 < H[j].e) (hw : ∀ x ∈ H, x.wr = true → x.val ≠ v) : ∀ (q : List Int) (s : Nat → Bool) (v0 : List UInt8), s j = false → v0 ≠ v → explR H s v0 q = false
 | [], s, v0, hs, _ => by
  refine Bool.eq_false_iff.2 (fun h => ?_)
  rw [explR, allN_iff] at h
  have := h j hj
  rw [hop_get _ hj, hs, decide_eq_true he] at this
  cases this
 | i :: r, s, v0, hs, hv0 => by
  refine Bool.eq_false_iff.2 (fun h => ?_)
  rw [explR] at h
  simp only [Bool.and_eq_true, decide_eq_true_eq] at h
  obtain ⟨⟨⟨⟨h1, h2⟩, h3⟩, h4⟩, h5⟩ := h
  have hi : i.toNat < H.length := by omega
  rw [hop_get _ hi] at h4 h5
  by_cases e : i.toNat = j
  ·subst e
   rw [hr, hv, Bool.false_or, decide_eq_true_eq] at h4
   exact hv0 h4.symm
  ·rw [no_expl hj hr hv he hw r _ _ (by rw [hs, decide_eq_false (fun x => e x.symm)]; rfl) (by
    split
    ·rename_i hx
     exact hw _ (List.getElem_mem hi) hx
    ·exact hv0)] at h5
   cases h5
theorem mem_mod {α : Type} {f : α → α} : ∀ (l : List α) (j : Nat) (x : α), x ∈ l.modify j f → x ∈ l ∨ ∃ y ∈ l, x = f y
 | [], j, x, h => by
  cases j <;> cases h
 | a :: t, 0, x, h => by
  rw [List.modify_zero_cons] at h
  rcases List.mem_cons.1 h with rfl | h
  ·exact .inr ⟨a, List.mem_cons_self, rfl⟩
  ·exact .inl (List.mem_cons_of_mem _ h)
 | a :: t, j + 1, x, h => by
  rw [List.modify_succ_cons] at h
  rcases List.mem_cons.1 h with rfl | h
  ·exact .inl List.mem_cons_self
  ·rcases mem_mod t j x h with h | ⟨y, h1, h2⟩
   ·exact .inl (List.mem_cons_of_mem _ h)
   ·exact .inr ⟨y, List.mem_cons_of_mem _ h1, h2⟩
def GH (v : List UInt8) (s : HSt) : Prop := ∀ x ∈ s.out, 1 ≤ x.b ∧ x.b ≤ s.n ∧ (x.e = 0 ∨ x.b < x.e) ∧ (x.wr = true → x.val ≠ v)
structure StE (e : Evt) : Prop where
 kind : 1 ≤ e.kind ∧ e.kind ≤ 4
 node : e.kind = 3 ∨ e.kind = 4 → e.group = 1 ∧ e.epoch = 0 ∧ e.dig.l.getD 31 0 = 0
 data : e.wish.data ≠ dat 200
 blk : e.kind = 3 → e.wish.block = 0 ∨ e.wish.block = 1
 na : e.kind = 3 → 1 ≤ e.a ∧ e.a ≤ 8
theorem ofNat_ne {i : Nat} (h : i < 200) : UInt8.ofNat i ≠ 200 := fun x => by
 have := congrArg UInt8.toNat x
 rw [UInt8.toNat_ofNat'] at this
 have h2 : (200 : UInt8).toNat = 200 := rfl
 omega
theorem dat_ne {b : UInt8} (h : b ≠ 200) : dat b ≠ dat 200 := fun x => h (List.cons.inj x).1
theorem dat_nil : ([] : List UInt8) ≠ dat 200 := fun x => by cases x
theorem perm6 (o c F d t F' : List Evt) : (((o ++ c) ++ F ++ d) ++ (t ++ F')).Perm (((o ++ t) ++ (F ++ F')) ++ (c ++ d)) := by
 classical
 rw [List.perm_iff_count]
 intro a
 simp only [List.count_append]
 omega
def SeqB (i : Nat) (l : List Evt) : Prop := ∀ e ∈ l, e.kind = 3 → e.seq ≤ i
theorem runsE_mem {e : Evt} {n : Int} : ∀ (l : List Evt) (o : List Evt), (∀ x ∈ l, x.kind ≠ 9) → ∀ y, y ∈ l.foldl (fun o x => if x.a = n then (if x.kind = 9 then [] else if x.kind = 3 ∧ thereE x e ∧ x.seq = e.seq then o ++ [x] else o) else o) o ↔ y ∈ o ∨ (y ∈ l ∧ y.a = n ∧ y.kind = 3 ∧ thereE y e ∧ y.seq = e.seq)
 | [], o, _, y => by simp
 | x :: t, o, h, y => by
  rw [List.foldl_cons, runsE_mem t _ (fun z hz => h z (List.mem_cons_of_mem _ hz)) y]
  have h9 := h x List.mem_cons_self
  by_cases ha : x.a = n
  ·rw [if_pos ha, if_neg h9]
   by_cases hc : x.kind = 3 ∧ thereE x e ∧ x.seq = e.seq
   ·rw [if_pos hc, List.mem_append, List.mem_singleton, List.mem_cons]
    constructor
    ·rintro ((k | rfl) | k)
     ·exact .inl k
     ·exact .inr ⟨.inl rfl, ha, hc⟩
     ·exact .inr ⟨.inr k.1, k.2⟩
    ·rintro (k | ⟨rfl | k1, k⟩)
     ·exact .inl (.inl k)
     ·exact .inl (.inr rfl)
     ·exact .inr ⟨k1, k⟩
   ·rw [if_neg hc, List.mem_cons]
    constructor
    ·rintro (k | k)
     ·exact .inl k
     ·exact .inr ⟨.inr k.1, k.2⟩
    ·rintro (k | ⟨rfl | k1, k⟩)
     ·exact .inl k
     ·exact absurd k.2 hc
     ·exact .inr ⟨k1, k⟩
  ·rw [if_neg ha, List.mem_cons]
   constructor
   ·rintro (k | k)
    ·exact .inl k
    ·exact .inr ⟨.inr k.1, k.2⟩
   ·rintro (k | ⟨rfl | k1, k⟩)
    ·exact .inl k
    ·exact absurd k.1 ha
    ·exact .inr ⟨k1, k⟩
structure Good (p : Pln) (pre : List Evt) (e : Evt) : Prop where
 r1 : ¬ R1 p pre e
 r2 : ¬ R2 pre e
 r3 : ¬ R3 p e
 r4 : ¬ R4 pre e
 r5 : ¬ R5 p (pre ++ [e]) e
 r6 : ¬ R6 pre e
 r7 : ¬ R7 pre e
 r8 : ¬ R8 pre e
 r9 : ¬ R9 pre e
 r10 : ¬ R10 pre e
theorem cut_at {s : List Evt} {n : Nat} (h : n < s.length) : s = s.take n ++ s[n] :: s.drop (n + 1) := by
 rw [← List.drop_eq_getElem_cons h, List.take_append_drop]
theorem set_cut {s : List Evt} {n : Nat} (h : n < s.length) (x : Evt) : s.set n x = s.take n ++ x :: s.drop (n + 1) := by
 rw [List.set_eq_take_append_cons_drop, if_pos h]
def ahq (e x : Evt) : Bool := decide (x.kind = e.kind ∧ x.seq = e.seq)
def dig31 (d : Dig) : Dig := ⟨d.l.set 31 1, by rw [List.length_set]; exact d.h⟩
theorem set_block {S : Nat → Prop} {w : World} {cs : List Value} {e : Evt} {x : Int} (hx : i64 x) (h : evtR.rd S w cs e) : evtR.rd S w (cs.set 44 (iv x)) { e with wish := { e.wish with block := x } } := by
 obtain ⟨hI, A0, c0, A1, c1, A2, c2, A3, c3, rfl, h4⟩ := h
 obtain ⟨k0, k1, k2, k3, k4, k5, k6, k7, k8, k9, k10, k11, _, k13, k14⟩ := hI
 exact ⟨⟨k0, k1, k2, k3, k4, k5, k6, k7, k8, k9, k10, k11, hx, k13, k14⟩, A0, c0, A1, c1, A2, c2, A3, c3, rfl, h4⟩
theorem set_stamp {S : Nat → Prop} {w : World} {cs : List Value} {e : Evt} {x : Int} (hx : i64 x) (h : evtR.rd S w cs e) : evtR.rd S w (cs.set 40 (iv x)) { e with wish := { e.wish with stamp := x } } := by
 obtain ⟨hI, A0, c0, A1, c1, A2, c2, A3, c3, rfl, h4⟩ := h
 obtain ⟨k0, k1, k2, k3, k4, k5, k6, k7, _, k9, k10, k11, k12, k13, k14⟩ := hI
 exact ⟨⟨k0, k1, k2, k3, k4, k5, k6, k7, hx, k9, k10, k11, k12, k13, k14⟩, A0, c0, A1, c1, A2, c2, A3, c3, rfl, h4⟩
theorem set_data {S : Nat → Prop} {w : World} {cs : List Value} {e : Evt} {b : List UInt8} {A : Option Addr} {c : Nat} (hb : GS byteR S w A c b) (h : evtR.rd S w cs e) : evtR.rd S w (cs.set 50 (.slice A b.length c)) { e with ans := { e.ans with data := b } } := by
 obtain ⟨hI, A0, c0, A1, c1, A2, c2, A3, c3, rfl, h4, h5, _, h7⟩ := h
 exact ⟨hI, A0, c0, A1, c1, A, c, A3, c3, rfl, h4, h5, hb, h7⟩
theorem rf_put {α : Type} {r : Rep α} {F : Nat → Prop} {w : World} {rows : List (List Value)} {l : List α} (h : RF r F w rows l) {n : Nat} {cs : List Value} {x : α} (hx : r.rd F w cs x) : RF r F w (rows.set n cs) (l.set n x) := by
 refine ⟨by rw [List.length_set, List.length_set]; exact h.1, fun i hi => ?_⟩
 rw [List.length_set] at hi
 by_cases e : n = i
 ·subst e
  exact ⟨cs, List.getElem?_set_self (by have := h.1; omega), by rw [List.getElem_set_self]; exact hx⟩
 ·obtain ⟨ds, h1, h2⟩ := h.2 i hi
  exact ⟨ds, by rw [List.getElem?_set_ne e]; exact h1, by rw [List.getElem_set_ne e]; exact h2⟩
end Go.Proofs.Ytgheaedligkhoaa
namespace Go.Proofs.Ytgheaedligkhoaa
open Go.RowKit Go.Eng _root_.Go.Proofs.Try
set_option maxRecDepth 100000
variable {w0 w : World} {M0 Fz : Nat → Prop} {H : List It} {A : Option Addr} {c : Nat}
def SP.bytes (lo : Nat) (b : List Value) (f : Nat → Value) : SP := ⟨fun v w => ∃ g, v = f g ∧ lo ≤ g ∧ OwnRow 5 1 lo w (some ⟨g, 0, none⟩) 16 16 b, by
 rintro _ w w' ch ⟨g, rfl, h1, h2⟩
 exact ⟨g, rfl, h1, h2.ext ch⟩⟩
theorem OwnRow.ne {e size lo n c g h e2 : Nat} {w : World} {b xs : List Value} (ho : OwnRow e size lo w (some ⟨g, 0, none⟩) n c b) (hc : c ≠ 0) (hb : Blk w h e2 xs) (he : e ≠ e2) : h ≠ g := by
 rintro rfl
 rcases ho.row with ⟨h0, _⟩ | ⟨g', cur, hA, _, hg, _⟩
 ·exact hc h0
 ·injection hA with hA
  injection hA with hA
  subst hA
  unfold Blk at hb
  rw [hg] at hb
  injection hb with hb
  injection hb with _ hb
  exact he hb
theorem ar80 : arB prog 80 2 3 1 = true := by kernel_rfl
theorem ar79 : arB prog 79 8 5 1 = true := by kernel_rfl
theorem sc3_ : scB prog 3 = true := by kernel_rfl
theorem sc5_ : scB prog 5 = true := by kernel_rfl
def blC (f : Int → UInt8) : List Value := [bv (f 0), bv (f 1), bv 0, bv 0, bv 0, bv 0, bv 0, bv 0]
def clC (f : Int → Int) : List Value := [iv (f 0), iv (f 1)]
theorem set_ans {S : Nat → Prop} {w : World} {cs ca : List Value} {e : Evt} {a : Ans} (h : evtR.rd S w cs e) (h2 : ansR.rd S w ca a) : evtR.rd S w (putL cs 49 ca) { e with ans := a } := by
 obtain ⟨hI, A0, c0, A1, c1, A2, c2, A3, c3, rfl, h0, h1, _, _⟩ := h
 obtain ⟨hI2, B2, d2, B3, d3, rfl, h4, h5⟩ := h2
 obtain ⟨k0, k1, k2, k3, k4, k5, k6, k7, k8, k9, k10, k11, k12, k13, k14, _, _⟩ := hI
 exact ⟨⟨k0, k1, k2, k3, k4, k5, k6, k7, k8, k9, k10, k11, k12, k13, k14, hI2.1, hI2.2⟩, A0, c0, A1, c1, B2, d2, B3, d3, rfl, h0, h1, h4, h5⟩
theorem ldataO_ok {w : World} {b : UInt8} : Ret prog 18 #[bv b] w (fun v w' => (∃ g, v = .slice (some ⟨g, 0, none⟩) 16 16 ∧ w.heap.size ≤ g ∧ OwnRow 5 1 w.heap.size w' (some ⟨g, 0, none⟩) 16 16 (List.replicate 16 (bv b))) ∧ Ext w w') := by
 refine ret_of_wk func18 rfl ntmps18 leB_ ?_
 have hp := HP.begin_ w
 generalize hF0 : (fun b => b < w.heap.size) = F0 at hp
 refine so ?_
 refine wl_make (k := 16) (z := .int .u8 0) (by decide) sl40 (by kernel_rfl) rfl rfl (by omega) 0 (Nat.zero_le _) ?_
 rintro g5 w5 hg5 hrow E5
 replace hp := hp.add E5 (x := itR 5 1 (some ⟨g5, 0, none⟩) 16 16 (List.replicate 16 (bv 0))) (K := fun b => (16 : Nat) ≠ 0 ∧ blk (some ⟨g5, 0, none⟩) b) ⟨hrow, fun _ => Iff.rfl⟩ (fun b hb => by
  obtain ⟨_, a, ha, rfl⟩ := hb
  cases ha
  rw [hg5]
  exact Nat.le_refl _)
 refine so ?_
 refine Lp [0, 3, 4] (fun L' w' mes => ∃ j : Nat, L' = [(0, bv b), (3, .slice (some ⟨g5, 0, none⟩) 16 16), (4, iv (j : Int))] ∧ j ≤ 16 ∧ HP w (fun _ => False) F0 w' (itR 5 1 (some ⟨g5, 0, none⟩) 16 16 (List.replicate j (bv b) ++ List.replicate (16 - j) (bv 0)) :: []) ∧ mes = 16 - j) (16 - 0) ⟨0, rfl, Nat.zero_le _, hp, rfl⟩ ?_
 clear hp
 rintro _ wr _ ⟨j, rfl, hj, hp, rfl⟩ KL hKL
 refine so ?_
 refine Cd ?_ ?_ <;> intro hc
 ·have hj9 : j < 16 := by omega
  refine so ?_
  refine wl_idxR (by decide) sl40 rfl rfl j rfl hj9 (so ?_)
  refine wl_hstoreR (i := 0) (o := j * 1) rfl rfl hp rfl (show szB prog 5 1 = true by kernel_rfl) rfl ?_ (show (1 : Nat) ≠ 0 by decide) (List.all_eq_true.1 rfl) (fun w7 hp C7 => so ?_)
  ·rw [List.length_append, List.length_replicate, List.length_replicate]
   show j * 1 + 1 ≤ j + (16 - j)
   omega
  refine Kl [0, 3, 4] hKL (16 - (j + 1)) ⟨j + 1, rfl, by omega, ?_, rfl⟩ (by omega)
  rw [Nat.mul_one] at hp
  exact hp.as_ (H' := itR 5 1 (some ⟨g5, 0, none⟩) 16 16 (List.replicate (j + 1) (bv b) ++ List.replicate (16 - (j + 1)) (bv 0)) :: []) (by rw [← rep_snoc b j hj9]; rfl)
 ·obtain rfl : j = 16 := by omega
  refine so ?_
  have hrow := hp.rowLo (i := 0) rfl
  exact Pt ⟨_, rfl, ⟨g5, rfl, by rw [hg5]; exact Nat.le_refl _, hrow⟩, hp.chg⟩
theorem rowB_gs {w : World} {lo g : Nat} {S : Nat → Prop} {b : UInt8} (h : OwnRow 5 1 lo w (some ⟨g, 0, none⟩) 16 16 (List.replicate 16 (bv b))) (hS : S g) : GS byteR S w (some ⟨g, 0, none⟩) 16 (dat b) := by
 refine OwnRow.gsRF (r := byteR) (rows := List.replicate 16 [bv b]) (l := List.replicate 16 b) (c := 16) h ⟨rfl, fun j hj => ⟨[bv b], ?_, ?_⟩⟩ (fun d _ hb => ?_)
 ·rw [List.length_replicate] at hj
  rw [List.getElem?_replicate, if_pos hj]
 ·rw [List.getElem_replicate]
  exact rfl
 ·obtain ⟨a, ha, rfl⟩ := hb
  cases ha
  exact hS
end Go.Proofs.Ytgheaedligkhoaa
namespace Go.Proofs.Ytgheaedligkhoaa
open Go.RowKit Go.Eng _root_.Go.Proofs.Try Go.Eng _root_.Go.Proofs.Try
set_option maxRecDepth 100000
variable {w0 w : World} {M0 Fz : Nat → Prop} {H : List It} {A : Option Addr} {c : Nat}
theorem cu8 {n : Nat} {z : Int} (h : n < 256) (hz : z = n) : IntKind.u8.wrap z = ((UInt8.ofNat n).toNat : Int) := by
 subst hz
 rw [wrap_u8, u8Of, show ((n : Int) % 256).toNat = n from by omega]
theorem drop0 {l : List Value} {k : Nat} (h : l.length = k) : (l.drop 0).take k = l := by
 rw [List.drop_zero, List.take_of_length_le (Nat.le_of_eq h)]
theorem lenS (a : List Evt) (e : Evt) : (a ++ [e]).length = a.length + 1 := by simp
theorem row_gs {w0 w : World} {F : Nat → Prop} {H : List It} {A : Option Addr} {c : Nat} {rows : List (List Value)} {s : List Evt} (hp : HP w0 (fun _ => False) F w (itR 46 53 A s.length c rows.flatten :: H)) (hR : RF evtR F w rows s) : GS evtR (fun _ => True) w A c s :=
 OwnRow.gsRF (r := evtR) (hp.rowAt (i := 0) rfl) (hR.wid (fun _ _ => trivial)) (fun _ _ _ => trivial)
theorem ar39 : arB prog 39 32 5 1 = true := by kernel_rfl
theorem any_step {s : List Evt} {q : Evt → Bool} {i : Nat} (h : i < s.length) : (s.take (i + 1)).any q = ((s.take i).any q || q (s.getD i evt0)) := by
 rw [List.take_succ_eq_append_getElem h, List.any_append, List.getD_eq_getElem?_getD, List.getElem?_eq_getElem h]
 simp
end Go.Proofs.Ytgheaedligkhoaa
