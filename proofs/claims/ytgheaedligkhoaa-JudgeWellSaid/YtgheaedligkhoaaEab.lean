/- What each of these functions computes, for every argument that its theorem names; a part of what the proof of JudgeWell stands on. -/
import Derived.Test.YtgheaedligkhoaaEaa
import Derived.Test.YtgheaedligkhoaaAaa
import Derived.Test.YtgheaedligkhoaaAab
import Derived.Test.YtgheaedligkhoaaAac
import Derived.Test.YtgheaedligkhoaaAad
import Derived.Test.YtgheaedligkhoaaAae
import Derived.Test.YtgheaedligkhoaaAah
import Derived.Test.YtgheaedligkhoaaAam
import Derived.Test.YtgheaedligkhoaaAar
import Derived.Test.YtgheaedligkhoaaAas
import Derived.Test.YtgheaedligkhoaaAau
import Derived.Test.YtgheaedligkhoaaAax
namespace Go.Proofs.Ytgheaedligkhoaa
open Go.RowKit Go.Eng _root_.Go.Proofs.Try Go.Eng _root_.Go.Proofs.Try
set_option maxRecDepth 100000
variable {w0 w : World} {M0 Fz : Nat → Prop} {H : List It} {A : Option Addr} {c : Nat}
theorem hv_all {p : Pln} {o : Wsh} {l : List Evt} : ∀ {k : Nat}, k ≤ l.length → (∀ j, j < k → ¬ R8 (l.take j) (l.getD j evt0)) → HV p o l k
 | 0, _, _ => HV.nil p o l
 | k + 1, hk, h8 => HV.step (hv_all (k := k) (by omega) (fun j hj => h8 j (by omega))) (by omega) h8
theorem hist_eq {p : Pln} {l : List Evt} {i : Nat} (hi : i < l.length) (h2 : (l.getD i evt0).kind = 2) (h8 : ∀ j, j < i → ¬ R8 (l.take j) (l.getD j evt0)) : histP p (l.getD i evt0).wish (l.take (i + 1)) = histS p l i := by
 have h := hv_all (p := p) (o := (l.getD i evt0).wish) (l := l) (k := i + 1) (by omega) (fun j hj => by
  by_cases e : j = i
  ·subst e; exact fun x => by have := x.1; omega
  ·exact h8 j (by omega))
 unfold histP histS
 rw [h.out, h.fg, forgS_step _ _ hi, forgF_no (by omega)]
 congr 1
 unfold opsS
 rw [List.range_succ, List.filterMap_append, List.filterMap_cons_none (show opK l _ (i + 1) i = none from if_neg (fun x => by have := x.1; omega)), List.filterMap_nil, List.append_nil]
 refine fm_congr (fun j hj => ?_)
 unfold opK
 rw [opU_opS]
 rfl
def rdW (c t bl : Int) : Wsh := ⟨c, t, 1, 0, 1, bl, [], 0, 0, []⟩
theorem ansD_rd {S : Nat → Prop} {w : World} {A : Option Addr} {c : Nat} {b : List UInt8} (h : GS byteR S w A c b) : ansR.rd S w (anC ⟨0, b, 0, []⟩ A c none 0) ⟨0, b, 0, []⟩ := ⟨⟨j0, j0⟩, A, c, none, 0, rfl, h, GS.nil _ _ _ _ _⟩
theorem take_take_le {l : List Evt} {i n : Nat} (h : i ≤ n) : (l.take n).take i = l.take i := by rw [List.take_take, Nat.min_eq_left h]
theorem endS_cut {l : List Evt} {n : Nat} {a : Int} : ∀ {k j : Nat}, j + k ≤ n → endS (l.take n) a j k = endS l a j k
 | 0, _, _ => rfl
 | k + 1, j, h => by
  rw [endS, endS, getD_take (l := l) (i := n) (j := j) (by omega), endS_cut (k := k) (j := j + 1) (by omega)]
theorem opS_cut {l : List Evt} {n i j : Nat} (hj : j < i) (h : i < n) : opS (l.take n) i j = opS l i j := by
 unfold opS
 rw [getD_take (l := l) (i := n) (j := j) (by omega), endS_cut (k := i - j) (j := j + 1) (by omega)]
 cases he : endS l (l.getD j evt0).a (j + 1) (i - j) with
 | none => rfl
 | some m =>
  have hm := endS_b l _ _ _ _ he
  dsimp only
  rw [getD_take (l := l) (i := n) (j := m) (by omega)]
theorem findS_of {p : Pln} {l : List Evt} (hM : PlnMay p) (hl : l.length ≤ 32768) : findS p l = ((firstB p l 0 l.length).1, (firstB p l 0 l.length).2, 0) := by rw [findS, if_neg (fun h => h hM), if_neg (by omega)]
def bringI (i n : Int) : Int := if n ≤ 0 then 0 else i % n
theorem tmod_bring {i n : Int} (h : 0 < n) : i % n = if i.tmod n < 0 then i.tmod n + n else i.tmod n := by
 have h1 := Int.tmod_eq_emod (a := i) (b := n)
 have h2 := Int.emod_nonneg i (by omega : n ≠ 0)
 have h3 := Int.emod_lt_of_pos i h
 rw [h1]
 by_cases h4 : 0 ≤ i ∨ n ∣ i
 ·rw [if_pos h4, if_neg (by omega)]; omega
 ·rw [if_neg h4, if_pos (by omega)]; omega
theorem tmod_b {i n : Int} (hi : i64 i) (h : 0 < n) : -9223372036854775808 ≤ i.tmod n ∧ i.tmod n < n ∧ -n < i.tmod n := by
 have h1 := Int.tmod_eq_emod (a := i) (b := n)
 have h2 := Int.emod_nonneg i (by omega : n ≠ 0)
 have h3 := Int.emod_lt_of_pos i h
 unfold i64 at hi
 have h5 : n ∣ i ∨ i % n ≠ 0 := by
  by_cases e : i % n = 0
  ·exact .inl (Int.dvd_of_emod_eq_zero e)
  ·exact .inr e
 rw [h1]
 by_cases h4 : 0 ≤ i ∨ n ∣ i
 ·rw [if_pos h4]; omega
 ·rw [if_neg h4]
  have h6 : i % n ≠ 0 := h5.resolve_left (fun h => h4 (.inr h))
  have h7 : n * (i / n) + i % n = i := Int.mul_ediv_add_emod i n
  have h8 : i / n ≤ -1 := by
   have : i / n < 0 := Int.ediv_neg_of_neg_of_pos (by omega) h
   omega
  have h9 : n * (i / n) ≤ n * (-1) := Int.mul_le_mul_of_nonneg_left h8 (by omega)
  omega
theorem lbring_ok {w : World} {i n : Int} (hi : i64 i) (hn : i64 n) : Ret prog 17 #[iv i, iv n] w (fun v w' => v = iv (bringI i n) ∧ Ext w w') := by
 refine ret_of_wk func17 rfl ntmps17 leB_ ?_
 have hp := HP.begin_ w
 refine so ?_
 refine Cd ?_ ?_ <;> intro k1 <;> refine so ?_
 ·exact Pt ⟨_, rfl, by rw [bringI, if_pos k1], hp.chg⟩
 have hb := tmod_b hi (by omega : 0 < n)
 have ht := tmod_bring (i := i) (by omega : 0 < n)
 unfold i64 at hi hn
 refine wl_rem (by decide) rfl rfl (by omega) rfl ?_
 generalize i.tmod n = z at hb ht
 refine so ?_
 refine Cd ?_ ?_ <;> intro k2 <;> refine so ?_
 ·exact Pt ⟨_, rfl, by rw [bringI, if_neg k1, ht, if_pos k2], hp.chg⟩
 ·exact Pt ⟨_, rfl, by rw [bringI, if_neg k1, ht, if_neg k2], hp.chg⟩
def NB (pre : List Evt) : Prop := ∀ j, j < pre.length → broken planP pre j = 0
theorem getD_mid {pre suf : List Evt} {e : Evt} : (pre ++ e :: suf).getD pre.length evt0 = e := by
 rw [List.getD_eq_getElem?_getD, List.getElem?_append_right (Nat.le_refl _), Nat.sub_self]; rfl
theorem find_nb {l : List Evt} (h : NB l) (hl : l.length ≤ 32768) : findS planP l = (0, 0, 0) := by
 rw [findS_of (by decide) hl, firstB_no (p := planP) (l := l) (n := l.length) (j := 0) (fun i _ hi => h i (by omega))]
theorem valOf_push (pre : List Evt) (e : Evt) : valOf (pre ++ [e]) = valF (valOf pre) e := by unfold valOf; rw [List.foldl_append]; rfl
theorem histT_push (p : Pln) (o : Wsh) (pre : List Evt) (e : Evt) : histT p o (pre ++ [e]) = histF p o (histT p o pre) e := by unfold histT; rw [List.foldl_append]; rfl
def digS (s : Int) : Dig := dig1 (UInt8.ofNat (s.toNat - 1))
def digM (s : Int) : Dig := dig1 (UInt8.ofNat (s.toNat + 99))
structure Kp (J : Int → Job) (ran : Int → Int → Bool) (cw : Int → Cal) (v : JVal) : Prop where
 time : v.time = 0
 down : ∀ a, v.down a = false
 bat : ∀ s d, v.bat 1 0 s = some d → d = digS s
 mrk : ∀ s d, v.mrk 1 0 s = some d → d = digM s
 jobs : ∀ s n, v.jobs 1 0 s n = if ran s n then [J s] else []
 sld : ∀ g ep, v.sld g ep = []
 cal : ∀ a, calOf v a = cw a
theorem bad_no {n : Int} (h : n ≠ 33) : ¬ badP planP n := by
 rintro (⟨h1, h2⟩ | ⟨h1, _⟩)
 ·have : bitP planP.bad n = (Int.fdiv 0 (2 ^ n.toNat) % 2 = 1) := rfl
  rw [this, Int.zero_fdiv] at h2
  cases h2
 ·exact h h1
theorem ten0 {f : Nat → Int} (h0 : f 0 = 0) (h1 : f 1 = 0) (h2 : f 2 = 0) (h3 : f 3 = 0) (h4 : f 4 = 0) (h5 : f 5 = 0) (h6 : f 6 = 0) (h7 : f 7 = 0) (h8 : f 8 = 0) (h9 : f 9 = 0) : firstA f 0 10 = 0 := by
 refine firstA_no (fun i _ hi => ?_)
 have : i = 0 ∨ i = 1 ∨ i = 2 ∨ i = 3 ∨ i = 4 ∨ i = 5 ∨ i = 6 ∨ i = 7 ∨ i = 8 ∨ i = 9 := by omega
 rcases this with rfl | rfl | rfl | rfl | rfl | rfl | rfl | rfl | rfl | rfl <;> assumption
theorem notC {e : Evt} (h : e.kind = 3 ∨ e.kind = 4) : ¬ clientE e := by unfold clientE; omega
theorem u2_node {v : JVal} {e : Evt} (h : e.kind = 3 ∨ e.kind = 4) : u2 v e = { v with down := fun n => if n = e.a then false else v.down n } := by
 unfold u2
 rw [if_neg (notC h), if_neg (show ¬ e.kind = 9 by omega), decide_eq_false (show ¬ e.kind = 8 by omega)]
structure NodeE (e : Evt) : Prop where
 kind : e.kind = 3 ∨ e.kind = 4
 time : e.time = 0
 a : 5 ≤ e.a ∧ e.a ≤ 8
 group : e.group = 1
 epoch : e.epoch = 0
 seq : 1 ≤ e.seq ∧ e.seq ≤ 12
theorem R3_node {e : Evt} (h : NodeE e) : ¬ R3 planP e := by
 have hg := h.group
 have he := h.epoch
 have hs := h.seq
 have hc : planP.chunks = 1 := rfl
 rintro ⟨_, h1⟩
 omega
theorem st_node {v : JVal} {e : Evt} (h : e.kind = 3 ∨ e.kind = 4) : stJ v e 6 = stJ v e 5 ∧ stJ v e 7 = stJ v e 5 ∧ stJ v e 8 = stJ v e 5 ∧ stJ v e 10 = stJ v e 5 := by
 have h6 : stJ v e 6 = stJ v e 5 := if_neg (show ¬ e.kind = 6 by omega)
 have h7 : stJ v e 7 = stJ v e 6 := if_neg (show ¬ (e.kind = 7 ∧ e.epoch = 0) by omega)
 have h8 : stJ v e 8 = stJ v e 7 := if_neg (show ¬ e.kind = 1 by omega)
 have h9 : stJ v e 10 = stJ v e 8 := if_neg (show ¬ e.kind = 2 by omega)
 exact ⟨h6, h7.trans h6, h8.trans (h7.trans h6), h9.trans (h8.trans (h7.trans h6))⟩
structure CliE (e : Evt) : Prop where
 kind : e.kind = 1 ∨ e.kind = 2
 time : e.time = 0
 a : 31 ≤ e.a ∧ e.a ≤ 32
theorem st_cli {v : JVal} {e : Evt} (hk : e.kind = 1 ∨ e.kind = 2) : stJ v e 3 = v ∧ stJ v e 4 = v ∧ stJ v e 5 = v ∧ stJ v e 6 = v ∧ stJ v e 7 = v := by
 have h2 : stJ v e 3 = v := if_pos hk
 have h4 : stJ v e 4 = v := by show u4 (stJ v e 3) e = v; rw [h2, u4, if_neg (by omega), if_neg (by omega)]
 have h5 : stJ v e 5 = v := by show u5 (stJ v e 4) e = v; rw [h4, u5, if_neg (by omega)]
 have h6 : stJ v e 6 = v := by show u6 (stJ v e 5) e = v; rw [h5, u6, if_neg (by omega)]
 have h7 : stJ v e 7 = v := by show u7 (stJ v e 6) e = v; rw [h6, u7, if_neg (by omega)]
 exact ⟨h2, h4, h5, h6, h7⟩
def cwCall (cw : Int → Cal) (e : Evt) : Int → Cal := fun a => if a = e.a then ⟨e.wish, true, (cw a).many + 1⟩ else cw a
def cwDone (cw : Int → Cal) (e : Evt) : Int → Cal := fun a => if a = e.a then ⟨(cw a).wish, false, (cw a).many⟩ else cw a
def zer16 : List UInt8 := List.replicate 16 0
def blkW (b : Int) : Wsh := ⟨0, 0, 1, 0, 0, b, [], 0, 0, []⟩
theorem histF_congr {p : Pln} {o o' : Wsh} (h1 : o.group = o'.group) (h2 : o.block = o'.block) (s : HSt) (x : Evt) : histF p o s x = histF p o' s x := by
 have hi : oursW x.wish o ↔ oursW x.wish o' := by unfold oursW; rw [h1, h2]
 unfold histF
 exact iteC (and_congr_right (fun _ => hi)) rfl (iteC Iff.rfl rfl (iteC (and_congr_left (fun _ => and_congr_right (fun _ => and_congr_right (fun _ => and_congr_left (fun _ => hi))))) rfl rfl))
theorem histT_congr {p : Pln} {o o' : Wsh} (h1 : o.group = o'.group) (h2 : o.block = o'.block) (l : List Evt) : histT p o l = histT p o' l := by
 unfold histT
 have : histF p o = histF p o' := by funext s x; exact histF_congr h1 h2 s x
 rw [this]
def lastV : List UInt8 → List HOp → List UInt8
 | v, [] => v
 | v, x :: r => lastV (if x.wr then x.val else v) r
theorem lastV_snoc : ∀ (l : List HOp) (v : List UInt8) (x : HOp), lastV v (l ++ [x]) = if x.wr then x.val else lastV v l
 | [], _, _ => rfl
 | _ :: t, _v, x => lastV_snoc t _ x
theorem seqOK_snoc : ∀ (l : List HOp) (v : List UInt8) (x : HOp), seqOK v (l ++ [x]) = (seqOK v l && (x.wr || decide (x.val = lastV v l)))
 | [], v, x => by
  show ((x.wr || decide (x.val = v)) && true) = (true && (x.wr || decide (x.val = v)))
  rw [Bool.and_true, Bool.true_and]
 | y :: t, v, x => by
  rw [List.cons_append, seqOK, seqOK, seqOK_snoc t _ x, lastV, Bool.and_assoc]
structure HC (H : HSt) (val : List UInt8) (m : Nat) : Prop where
 fg : H.forged = []
 opn : ∀ a, H.opn a = none
 sq : seqOK zer16 H.out = true
 vl : lastV zer16 H.out = val
 be : ∀ x ∈ H.out, x.b ≤ x.e ∧ x.b ≤ H.n
 srt : H.out.Pairwise (fun x y => x.b ≤ y.b)
 len : H.out.length ≤ m
structure HO (H : HSt) (a : Int) (wr : Bool) (d val : List UInt8) (m : Nat) : Prop where
 fg : H.forged = []
 ex : ∃ o0 bb, H.out = o0 ++ [⟨wr, d, bb, 0⟩] ∧ (∀ x, H.opn x = if x = a then some o0.length else none) ∧ seqOK zer16 o0 = true ∧ lastV zer16 o0 = val ∧ (∀ x ∈ o0, x.b ≤ x.e ∧ x.b ≤ bb) ∧ o0.Pairwise (fun x y => x.b ≤ y.b) ∧ bb ≤ H.n ∧ o0.length < m
def tick (H : HSt) : HSt := ⟨H.out, H.forged, H.opn, H.seen, H.n + 1⟩
theorem lin_no {H : List HOp} (h : linB H zer16 = true) : linO H (List.replicate 16 0) ≠ (false, 0) := by
 unfold linO
 by_cases hc : chkH H = 0
 ·rw [if_pos hc]
  intro x
  have h2 : (G H zer16 0 (-1)).isSome = true := h
  have h3 : (G H (List.replicate 16 0) 0 (-1)).isSome = false := (Prod.mk.inj x).1
  rw [show (List.replicate 16 0 : List UInt8) = zer16 from rfl, h2] at h3
  cases h3
 ·rw [if_neg hc]
  exact fun x => hc (Prod.mk.inj x).2
structure GoodRun (J : Int → Job) (e : Evt) : Prop where
 node : NodeE e
 kind : e.kind = 3
 dig : e.dig = digS e.seq
 job : J e.seq = ⟨e.wish, e.ans⟩
 cli : e.wish.client ≠ 33
def sameE (x y : Evt) : Prop := x.seq = y.seq ∧ x.a = y.a
def ranE (ran : Int → Int → Bool) (e : Evt) : Int → Int → Bool := fun s n => if s = e.seq ∧ n = e.a then true else ran s n
def ranL (ran : Int → Int → Bool) (es : List Evt) : Int → Int → Bool := es.foldl ranE ran
def runA (m : Int) (i : Nat) (w : Wsh) (a : Ans) : Evt := { runE m (1 + (i : Int)) (UInt8.ofNat i) w with ans := a }
def markA (i : Nat) (m : Int) : Evt := nodeE 4 m 0 (1 + (i : Int)) (UInt8.ofNat (100 + i))
def bitK (k m : Int) : Bool := decide (k.fdiv (2 ^ m.toNat) % 2 = 1)
def nowQ (k : Int) (e : Evt) : Bool := bitK k e.a || decide (e.a = 5)
def fourM : List Int := [5, 6, 7, 8]
structure SSt where
 out : List Evt
 late : List Evt
 bl : Int → UInt8
 cl : Int → Int
def stN (x : Int) : Int := bringI x 2
def stK (x : Int) : Int := bringI (x.fdiv 2) 4096
def sto0 : SSt := ⟨[], [], fun _ => 0, fun _ => 0⟩
theorem good_marks {i : Nat} {e : Evt} (hi : i < 12) (h : e ∈ fourM.map (markA i)) : NodeE e ∧ e.kind = 4 ∧ e.dig = digM e.seq := by
 obtain ⟨m, hm, rfl⟩ := List.mem_map.1 h
 have hm2 : 5 ≤ m ∧ m ≤ 8 := by simp only [fourM, List.mem_cons, List.not_mem_nil, or_false] at hm; omega
 refine ⟨⟨.inr rfl, rfl, hm2, rfl, rfl, ?_⟩, rfl, ?_⟩
 ·show 1 ≤ 1 + (i : Int) ∧ 1 + (i : Int) ≤ 12
  omega
 ·show dig1 (UInt8.ofNat (100 + i)) = digM (1 + (i : Int))
  rw [digM, show (1 + (i : Int)).toNat + 99 = 100 + i from by omega]
theorem call_cli (w : Wsh) (h : 31 ≤ w.client ∧ w.client ≤ 32) : CliE (callE w) := ⟨.inl rfl, rfl, h⟩
theorem done_cli (w : Wsh) (a : Ans) (h : 31 ≤ w.client ∧ w.client ≤ 32) : CliE (doneE w a) := ⟨.inr rfl, rfl, h⟩
end Go.Proofs.Ytgheaedligkhoaa
namespace Go.Proofs.Ytgheaedligkhoaa
open Go.RowKit Go.Eng _root_.Go.Proofs.Try
set_option maxRecDepth 100000
variable {w0 w : World} {M0 Fz : Nat → Prop} {H : List It} {A : Option Addr} {c : Nat}
def SP.bytes (lo : Nat) (b : List Value) (f : Nat → Value) : SP := ⟨fun v w => ∃ g, v = f g ∧ lo ≤ g ∧ OwnRow 5 1 lo w (some ⟨g, 0, none⟩) 16 16 b, by
 rintro _ w w' ch ⟨g, rfl, h1, h2⟩
 exact ⟨g, rfl, h1, h2.ext ch⟩⟩
theorem OwnRow.ne {e size lo n c g h e2 : Nat} {w : World} {b xs : List Value} (ho : OwnRow e size lo w (some ⟨g, 0, none⟩) n c b) (hc : c ≠ 0) (hb : Blk w h e2 xs) (he : e ≠ e2) : h ≠ g := by
 rintro rfl
 rcases ho.row with ⟨h0, _⟩ | ⟨g', cur, hA, _, hg, _⟩
 ·exact hc h0
 ·injection hA with hA
  injection hA with hA
  subst hA
  unfold Blk at hb
  rw [hg] at hb
  injection hb with hb
  injection hb with _ hb
  exact he hb
theorem SP.bytes_st (lo : Nat) (b : List Value) (f : Nat → Value) (zs : List Value) (eA : Nat) (he : 5 ≠ eA) : ∀ v w w' g, Chg (fun b => b = g) w w' → Blk w g eA zs → (SP.bytes lo b f).p v w → (SP.bytes lo b f).p v w' := by
 rintro v w w' g hc hb ⟨g2, hv, h1, h2⟩
 refine ⟨g2, hv, h1, h2.keep hc (fun x _ _ hx hxg => ?_)⟩
 obtain ⟨a, ha, rfl⟩ := hx
 cases ha
 exact OwnRow.ne h2 (by decide) hb he hxg.symm
theorem ar80 : arB prog 80 2 3 1 = true := by kernel_rfl
theorem ar79 : arB prog 79 8 5 1 = true := by kernel_rfl
theorem sc3_ : scB prog 3 = true := by kernel_rfl
theorem sc5_ : scB prog 5 = true := by kernel_rfl
def blC (f : Int → UInt8) : List Value := [bv (f 0), bv (f 1), bv 0, bv 0, bv 0, bv 0, bv 0, bv 0]
def clC (f : Int → Int) : List Value := [iv (f 0), iv (f 1)]
theorem clC_get {f : Int → Int} {x : Int} (h : x = 0 ∨ x = 1) : (clC f)[x.toNat]? = some (iv (f x)) := by
 rcases h with rfl | rfl <;> rfl
theorem clC_set {f : Int → Int} {x v : Int} (h : x = 0 ∨ x = 1) : (clC f).set x.toNat (iv v) = clC (fun n => if n = x then v else f n) := by
 rcases h with rfl | rfl <;> rfl
theorem blC_get {f : Int → UInt8} {x : Int} (h : x = 0 ∨ x = 1) : (blC f)[x.toNat]? = some (bv (f x)) := by
 rcases h with rfl | rfl <;> rfl
theorem blC_set {f : Int → UInt8} {x : Int} {v : UInt8} (h : x = 0 ∨ x = 1) : (blC f).set x.toNat (bv v) = blC (fun n => if n = x then v else f n) := by
 rcases h with rfl | rfl <;> rfl
theorem set_ans {S : Nat → Prop} {w : World} {cs ca : List Value} {e : Evt} {a : Ans} (h : evtR.rd S w cs e) (h2 : ansR.rd S w ca a) : evtR.rd S w (putL cs 49 ca) { e with ans := a } := by
 obtain ⟨hI, A0, c0, A1, c1, A2, c2, A3, c3, rfl, h0, h1, _, _⟩ := h
 obtain ⟨hI2, B2, d2, B3, d3, rfl, h4, h5⟩ := h2
 obtain ⟨k0, k1, k2, k3, k4, k5, k6, k7, k8, k9, k10, k11, k12, k13, k14, _, _⟩ := hI
 exact ⟨⟨k0, k1, k2, k3, k4, k5, k6, k7, k8, k9, k10, k11, k12, k13, k14, hI2.1, hI2.2⟩, A0, c0, A1, c1, B2, d2, B3, d3, rfl, h0, h1, h4, h5⟩
theorem lreadD_ok {w : World} {c t bl : Int} : Ret prog 22 #[iv c, iv t, iv bl] w (fun v w' => v = .agg (wsC (rdW c t bl) none 0 none 0 : List Value).toArray ∧ Ext w w') := by
 refine ret_of_wk func22 rfl ntmps22 leB_ ?_
 have hp := HP.begin_ w
 refine so ?_
 refine Alo hp (h := fun g1 w1 hp E1 => so ?_)
 refine wl_builtS (ps := [(4, .const (.int .i64 1)), (0, .tmp 7), (1, .tmp 8), (2, .const (.int .i64 1)), (5, .tmp 9)]) (by decide) bld42 rfl rfl (so ?_)
 refine wl_re (k := 10) (v := .agg (wsC (rdW c t bl) none 0 none 0).toArray) rfl rfl ?_
 refine Hs 0 hp (h := fun w3 hp C3 => so ?_)
 refine wk_postR (rs := [.cell 6 42]) (.inl rfl) results22 ⟨_, _, _, rfl, rfl, loadVar_agg ag42 (hp.blkAt (i := 0) rfl).at0 rfl, rfl⟩ ?_
 exact ⟨_, rfl, rfl, hp.chg⟩
theorem ldataO_ok {w : World} {b : UInt8} : Ret prog 18 #[bv b] w (fun v w' => (∃ g, v = .slice (some ⟨g, 0, none⟩) 16 16 ∧ w.heap.size ≤ g ∧ OwnRow 5 1 w.heap.size w' (some ⟨g, 0, none⟩) 16 16 (List.replicate 16 (bv b))) ∧ Ext w w') := by
 refine ret_of_wk func18 rfl ntmps18 leB_ ?_
 have hp := HP.begin_ w
 generalize hF0 : (fun b => b < w.heap.size) = F0 at hp
 refine so ?_
 refine wl_make (k := 16) (z := .int .u8 0) (by decide) sl40 (by kernel_rfl) rfl rfl (by omega) 0 (Nat.zero_le _) ?_
 rintro g5 w5 hg5 hrow E5
 replace hp := hp.add E5 (x := itR 5 1 (some ⟨g5, 0, none⟩) 16 16 (List.replicate 16 (bv 0))) (K := fun b => (16 : Nat) ≠ 0 ∧ blk (some ⟨g5, 0, none⟩) b) ⟨hrow, fun _ => Iff.rfl⟩ (fun b hb => by
  obtain ⟨_, a, ha, rfl⟩ := hb
  cases ha
  rw [hg5]
  exact Nat.le_refl _)
 refine so ?_
 refine Lp [0, 3, 4] (fun L' w' mes => ∃ j : Nat, L' = [(0, bv b), (3, .slice (some ⟨g5, 0, none⟩) 16 16), (4, iv (j : Int))] ∧ j ≤ 16 ∧ HP w (fun _ => False) F0 w' (itR 5 1 (some ⟨g5, 0, none⟩) 16 16 (List.replicate j (bv b) ++ List.replicate (16 - j) (bv 0)) :: []) ∧ mes = 16 - j) (16 - 0) ⟨0, rfl, Nat.zero_le _, hp, rfl⟩ ?_
 clear hp
 rintro _ wr _ ⟨j, rfl, hj, hp, rfl⟩ KL hKL
 refine so ?_
 refine Cd ?_ ?_ <;> intro hc
 ·have hj9 : j < 16 := by omega
  refine so ?_
  refine wl_idxR (by decide) sl40 rfl rfl j rfl hj9 (so ?_)
  refine wl_hstoreR (i := 0) (o := j * 1) rfl rfl hp rfl (show szB prog 5 1 = true by kernel_rfl) rfl ?_ (show (1 : Nat) ≠ 0 by decide) (List.all_eq_true.1 rfl) (fun w7 hp C7 => so ?_)
  ·rw [List.length_append, List.length_replicate, List.length_replicate]
   show j * 1 + 1 ≤ j + (16 - j)
   omega
  refine Kl [0, 3, 4] hKL (16 - (j + 1)) ⟨j + 1, rfl, by omega, ?_, rfl⟩ (by omega)
  rw [Nat.mul_one] at hp
  exact hp.as_ (H' := itR 5 1 (some ⟨g5, 0, none⟩) 16 16 (List.replicate (j + 1) (bv b) ++ List.replicate (16 - (j + 1)) (bv 0)) :: []) (by rw [← rep_snoc b j hj9]; rfl)
 ·obtain rfl : j = 16 := by omega
  refine so ?_
  have hrow := hp.rowLo (i := 0) rfl
  exact Pt ⟨_, rfl, ⟨g5, rfl, by rw [hg5]; exact Nat.le_refl _, hrow⟩, hp.chg⟩
theorem rowB_gs {w : World} {lo g : Nat} {S : Nat → Prop} {b : UInt8} (h : OwnRow 5 1 lo w (some ⟨g, 0, none⟩) 16 16 (List.replicate 16 (bv b))) (hS : S g) : GS byteR S w (some ⟨g, 0, none⟩) 16 (dat b) := by
 refine OwnRow.gsRF (r := byteR) (rows := List.replicate 16 [bv b]) (l := List.replicate 16 b) (c := 16) h ⟨rfl, fun j hj => ⟨[bv b], ?_, ?_⟩⟩ (fun d _ hb => ?_)
 ·rw [List.length_replicate] at hj
  rw [List.getElem?_replicate, if_pos hj]
 ·rw [List.getElem_replicate]
  exact rfl
 ·obtain ⟨a, ha, rfl⟩ := hb
  cases ha
  exact hS
end Go.Proofs.Ytgheaedligkhoaa
namespace Go.Proofs.Ytgheaedligkhoaa
open Go.RowKit Go.Eng _root_.Go.Proofs.Try Go.Eng _root_.Go.Proofs.Try
set_option maxRecDepth 100000
variable {w0 w : World} {M0 Fz : Nat → Prop} {H : List It} {A : Option Addr} {c : Nat}
theorem cu8 {n : Nat} {z : Int} (h : n < 256) (hz : z = n) : IntKind.u8.wrap z = ((UInt8.ofNat n).toNat : Int) := by
 subst hz
 rw [wrap_u8, u8Of, show ((n : Int) % 256).toNat = n from by omega]
theorem drop0 {l : List Value} {k : Nat} (h : l.length = k) : (l.drop 0).take k = l := by
 rw [List.drop_zero, List.take_of_length_le (Nat.le_of_eq h)]
theorem fourM_step {q : Nat} (h : q < 4) : fourM.take (q + 1) = fourM.take q ++ [5 + (q : Int)] := by
 match q, h with
 | 0, _ => rfl
 | 1, _ => rfl
 | 2, _ => rfl
 | 3, _ => rfl
def mkQ (i q : Nat) : List Evt := (fourM.take q).map (markA i)
theorem lenS (a : List Evt) (e : Evt) : (a ++ [e]).length = a.length + 1 := by simp
end Go.Proofs.Ytgheaedligkhoaa
