/- What each of these functions computes, for every argument that its theorem names; a part of what the proof of JudgeFinds stands on. -/
import Derived.Test.YtgheaedligkhoaaAab
import Derived.Test.YtgheaedligkhoaaAac
import Derived.Test.YtgheaedligkhoaaAad
import Derived.Test.YtgheaedligkhoaaAae
import Derived.Test.YtgheaedligkhoaaAag
import Derived.Test.YtgheaedligkhoaaAah
import Derived.Test.YtgheaedligkhoaaAai
import Derived.Test.YtgheaedligkhoaaAak
import Derived.Test.YtgheaedligkhoaaAal
import Derived.Test.YtgheaedligkhoaaAam
import Derived.Test.YtgheaedligkhoaaAan
import Derived.Test.YtgheaedligkhoaaAap
import Derived.Test.YtgheaedligkhoaaAaq
import Derived.Test.YtgheaedligkhoaaAar
import Derived.Test.YtgheaedligkhoaaAas
import Derived.Test.YtgheaedligkhoaaAau
import Derived.Test.YtgheaedligkhoaaAav
import Derived.Test.YtgheaedligkhoaaAaw
namespace Go.Proofs.Ytgheaedligkhoaa
open Go.RowKit Go.Eng _root_.Go.Proofs.Try Go.Eng _root_.Go.Proofs.Try
set_option maxRecDepth 100000
variable {w0 w : World} {M0 Fz : Nat → Prop} {H : List It} {A : Option Addr} {c : Nat}
set_option maxHeartbeats 8000000 in
theorem rbroken_ok {pk : Addr} {csk : List Value} {k : Lok} {Sk Pk : Nat → Prop} {i : Nat} {w : World} (hatk : AtF Pk w pk csk) (hk : lokR.rd Sk w csk k) (hM : PlnMay k.p) (hi : i < k.l.length) (hl : k.l.length ≤ 32768) : Ret prog 43 #[.pointer (some pk), iv i] w (fun v w' => v = iv (broken k.p k.l i) ∧ Ext w w') := by
 refine ret_of_wk func43 rfl ntmps43 leB_ ?_
 have hp := HP.begin_ w
 have hk0 := rdTn (F := fun b => b < w.heap.size) (w' := w) hk
 have hat := hatk.now
 clear hatk hk
 generalize hF0 : (fun b => b < w.heap.size) = F0 at hp hat hk0
 obtain ⟨p, l⟩ := k
 dsimp only at hi hl hM ⊢
 have hat2 : ∀ {w'}, Ext w w' → AtF F0 w' pk csk := fun E => hat.ext E
 have hk2 : ∀ {w'}, Ext w w' → lokR.rd F0 w' csk ⟨p, l⟩ := fun E => lokR.keep E (fun _ _ _ x => x) hk0
 clear hk0
 refine so ?_
 refine Ce (first_ok (k := ⟨p, l⟩) (hat2 (Chg.refl _ _)) (hk2 (Chg.refl _ _)) hM hi) ?_
 rintro _ w1 ⟨rfl, E1⟩
 refine Cd ?_ ?_ <;> intro r1
 ·refine so ?_
  exact Pt ⟨_, rfl, by rw [broken, if_pos r1], E1⟩
 refine so ?_
 refine Ce (second_ok (k := ⟨p, l⟩) (hat2 E1) (hk2 E1) hi) ?_
 rintro _ w2 ⟨rfl, E2⟩
 replace E2 := E1.trans E2
 refine so ?_
 refine Ce (third_ok (k := ⟨p, l⟩) (hat2 E2) (hk2 E2) hi) ?_
 rintro _ w3 ⟨rfl, E3⟩
 replace E3 := E2.trans E3
 refine so ?_
 refine Ce (fourth_ok (k := ⟨p, l⟩) (hat2 E3) (hk2 E3) hi) ?_
 rintro _ w4 ⟨rfl, E4⟩
 replace E4 := E3.trans E4
 refine so ?_
 refine Ce (fifth_ok (k := ⟨p, l⟩) (hat2 E4) (hk2 E4) hM hi hl) ?_
 rintro _ w5 ⟨rfl, E5⟩
 replace E5 := E4.trans E5
 refine so ?_
 refine Ce (sixth_ok (k := ⟨p, l⟩) (hat2 E5) (hk2 E5) hi) ?_
 rintro _ w6 ⟨rfl, E6⟩
 replace E6 := E5.trans E6
 refine so ?_
 refine Ce (seventh_ok (k := ⟨p, l⟩) (hat2 E6) (hk2 E6) hi) ?_
 rintro _ w7 ⟨rfl, E7⟩
 replace E7 := E6.trans E7
 refine so ?_
 refine Ce (eighth_ok (k := ⟨p, l⟩) (hat2 E7) (hk2 E7) hi) ?_
 rintro _ w8 ⟨rfl, E8⟩
 replace E8 := E7.trans E8
 refine so ?_
 refine Ce (ninth_ok (k := ⟨p, l⟩) (hat2 E8) (hk2 E8) hi) ?_
 rintro _ w9 ⟨rfl, E9⟩
 replace E9 := E8.trans E9
 refine so ?_
 refine Ce (tenth_ok (k := ⟨p, l⟩) (hat2 E9) (hk2 E9) hi) ?_
 rintro _ wa ⟨rfl, Ea⟩
 replace Ea := E9.trans Ea
 dsimp only
 obtain ⟨bs, hbs⟩ : ∃ bs : List Bool, bs = [decide (R2 (l.take i) (l.getD i evt0)), decide (R3 p (l.getD i evt0)), decide (R4 (l.take i) (l.getD i evt0)), decide (R5 p (l.take (i + 1)) (l.getD i evt0)), decide (R6 (l.take i) (l.getD i evt0)), decide (R7 (l.take i) (l.getD i evt0)), decide (R8 (l.take i) (l.getD i evt0)), decide (R9 (l.take i) (l.getD i evt0)), decide (R10 (l.take i) (l.getD i evt0))] := ⟨_, rfl⟩
 have hb9 : bs.length = 9 := by rw [hbs]; rfl
 refine wl_bslice (xs := [.tmp 12, .tmp 15, .tmp 18, .tmp 21, .tmp 24, .tmp 27, .tmp 30, .tmp 33, .tmp 36]) (vs := bs.map Value.bool) (by decide) sl111 rfl (by rw [hbs]; rfl) (by rw [List.length_map, hb9]) (fun v hv => by obtain ⟨j, _, rfl⟩ := List.mem_map.1 hv; rfl) (by rw [List.length_map, hb9]; decide) 0 (Nat.zero_le _) ?_
 rintro g5 wb hg5 hrow Eb
 rw [show ((bs.map Value.bool).map (fun v => v.cells.toList)).flatten = bs.map Value.bool from by rw [hbs]; rfl] at hrow
 replace hp := (hp.ext Ea).add Eb (x := itR 4 1 (some ⟨g5, 0, none⟩) 9 9 (bs.map Value.bool)) (K := fun b => (9 : Nat) ≠ 0 ∧ blk (some ⟨g5, 0, none⟩) b) ⟨hrow, fun _ => Iff.rfl⟩ (fun b hb => by
  obtain ⟨_, a, ha, rfl⟩ := hb
  cases ha
  rw [hg5]
  exact Nat.le_refl _)
 replace Eb := Ea.trans Eb
 clear E1 E2 E3 E4 E5 E6 E7 E8 E9 Ea
 have hbr : (∀ m, m < 9 → bs.getD m false = false) → broken p l i = if R11 p l i then 11 else 0 := fun h => by
  have h0 := h 0 (by decide)
  have h1 := h 1 (by decide)
  have h2 := h 2 (by decide)
  have h3 := h 3 (by decide)
  have h4 := h 4 (by decide)
  have h5 := h 5 (by decide)
  have h6 := h 6 (by decide)
  have h7 := h 7 (by decide)
  have h8 := h 8 (by decide)
  rw [hbs] at h0 h1 h2 h3 h4 h5 h6 h7 h8
  unfold broken
  rw [if_neg r1, if_neg (of_decide_eq_false h0), if_neg (of_decide_eq_false h1), if_neg (of_decide_eq_false h2), if_neg (of_decide_eq_false h3), if_neg (of_decide_eq_false h4), if_neg (of_decide_eq_false h5), if_neg (of_decide_eq_false h6), if_neg (of_decide_eq_false h7), if_neg (of_decide_eq_false h8)]
 have hbt : ∀ j, j < 9 → (∀ m, m < j → bs.getD m false = false) → bs.getD j false = true → broken p l i = (j : Int) + 2 := fun j hj h ht => by
  have hj' : j = 0 ∨ j = 1 ∨ j = 2 ∨ j = 3 ∨ j = 4 ∨ j = 5 ∨ j = 6 ∨ j = 7 ∨ j = 8 := by omega
  have g0 : 0 < j → ¬ R2 (l.take i) (l.getD i evt0) := fun z => of_decide_eq_false (by have := h 0 z; rw [hbs] at this; exact this)
  have g1 : 1 < j → ¬ R3 p (l.getD i evt0) := fun z => of_decide_eq_false (by have := h 1 z; rw [hbs] at this; exact this)
  have g2 : 2 < j → ¬ R4 (l.take i) (l.getD i evt0) := fun z => of_decide_eq_false (by have := h 2 z; rw [hbs] at this; exact this)
  have g3 : 3 < j → ¬ R5 p (l.take (i + 1)) (l.getD i evt0) := fun z => of_decide_eq_false (by have := h 3 z; rw [hbs] at this; exact this)
  have g4 : 4 < j → ¬ R6 (l.take i) (l.getD i evt0) := fun z => of_decide_eq_false (by have := h 4 z; rw [hbs] at this; exact this)
  have g5 : 5 < j → ¬ R7 (l.take i) (l.getD i evt0) := fun z => of_decide_eq_false (by have := h 5 z; rw [hbs] at this; exact this)
  have g6 : 6 < j → ¬ R8 (l.take i) (l.getD i evt0) := fun z => of_decide_eq_false (by have := h 6 z; rw [hbs] at this; exact this)
  have g7 : 7 < j → ¬ R9 (l.take i) (l.getD i evt0) := fun z => of_decide_eq_false (by have := h 7 z; rw [hbs] at this; exact this)
  rw [hbs] at ht
  unfold broken
  rw [if_neg r1]
  rcases hj' with rfl | rfl | rfl | rfl | rfl | rfl | rfl | rfl | rfl
  ·rw [if_pos (of_decide_eq_true ht)]; rfl
  ·rw [if_neg (g0 (by decide)), if_pos (of_decide_eq_true ht)]; rfl
  ·rw [if_neg (g0 (by decide)), if_neg (g1 (by decide)), if_pos (of_decide_eq_true ht)]; rfl
  ·rw [if_neg (g0 (by decide)), if_neg (g1 (by decide)), if_neg (g2 (by decide)), if_pos (of_decide_eq_true ht)]; rfl
  ·rw [if_neg (g0 (by decide)), if_neg (g1 (by decide)), if_neg (g2 (by decide)), if_neg (g3 (by decide)), if_pos (of_decide_eq_true ht)]; rfl
  ·rw [if_neg (g0 (by decide)), if_neg (g1 (by decide)), if_neg (g2 (by decide)), if_neg (g3 (by decide)), if_neg (g4 (by decide)), if_pos (of_decide_eq_true ht)]; rfl
  ·rw [if_neg (g0 (by decide)), if_neg (g1 (by decide)), if_neg (g2 (by decide)), if_neg (g3 (by decide)), if_neg (g4 (by decide)), if_neg (g5 (by decide)), if_pos (of_decide_eq_true ht)]; rfl
  ·rw [if_neg (g0 (by decide)), if_neg (g1 (by decide)), if_neg (g2 (by decide)), if_neg (g3 (by decide)), if_neg (g4 (by decide)), if_neg (g5 (by decide)), if_neg (g6 (by decide)), if_pos (of_decide_eq_true ht)]; rfl
  ·rw [if_neg (g0 (by decide)), if_neg (g1 (by decide)), if_neg (g2 (by decide)), if_neg (g3 (by decide)), if_neg (g4 (by decide)), if_neg (g5 (by decide)), if_neg (g6 (by decide)), if_neg (g7 (by decide)), if_pos (of_decide_eq_true ht)]; rfl
 clear hbs
 refine so ?_
 refine Lp [0, 1, 5, 6] (fun L' w' mes => ∃ m : Nat, L' = [(0, .pointer (some pk)), (1, iv i), (5, .slice (some ⟨g5, 0, none⟩) 9 9), (6, iv (m : Int))] ∧ m ≤ 9 ∧ HP w (fun _ => False) F0 w' (itR 4 1 (some ⟨g5, 0, none⟩) 9 9 (bs.map Value.bool) :: []) ∧ Ext w w' ∧ (∀ j, j < m → bs.getD j false = false) ∧ mes = 9 - m) (9 - 0) ⟨0, rfl, Nat.zero_le _, hp, Eb, fun j hj => absurd hj (Nat.not_lt_zero _), rfl⟩ ?_
 clear hp
 rintro _ wr _ ⟨m, rfl, hm, hp, hE, hno, rfl⟩ KL hKL
 refine so ?_
 refine Cd ?_ ?_ <;> intro hc
 ·have hm9 : m < 9 := by omega
  refine so ?_
  refine wl_idxR (by decide) sl111 rfl rfl m rfl hm9 (so ?_)
  refine wl_hloadR (i := 0) (o := m * 1) (v := .bool (bs.getD m false)) (by decide) (by kernel_rfl) rfl hp rfl (by rw [Nat.mul_one]; exact bl_at (by omega)) (so ?_)
  cases hb : bs.getD m false
  ·refine aF (so ?_)
   refine Kl [0, 1, 5, 6] hKL (9 - (m + 1)) ⟨m + 1, rfl, by omega, hp, hE, fun j hj => ?_, rfl⟩ (by omega)
   by_cases e : j < m
   ·exact hno j e
   ·obtain rfl : j = m := by omega
    exact hb
  ·refine aT (so ?_)
   exact Pt ⟨_, rfl, by rw [hbt m hm9 hno hb], hE⟩
 ·obtain rfl : m = 9 := by omega
  have hbr2 := hbr hno
  refine so ?_
  refine Ce (eleventh_ok (k := ⟨p, l⟩) (hat2 hE) (hk2 hE) hi hl) ?_
  rintro _ wz ⟨rfl, Ez⟩
  refine Cd ?_ ?_ <;> intro r11 <;> refine so ?_
  ·exact Pt ⟨_, rfl, by rw [hbr2, if_pos r11], hE.trans Ez⟩
  ·exact Pt ⟨_, rfl, by rw [hbr2, if_neg r11], hE.trans Ez⟩
theorem known {p : Pln} {l : List Evt} : ∀ {i : Nat}, i ≤ l.length → (∀ j, j < i → broken p l j = 0) → VP (valOf (l.take i)) (l.take i) ∧ AG (l.take i)
 | 0, _, _ => ⟨VP.nil, AG.nil⟩
 | i + 1, hi, h => by
  have ih := known (p := p) (i := i) (by omega) (fun j hj => h j (by omega))
  have hb := broken_no (h i (by omega))
  rw [valOf_step (by omega)]
  exact ⟨ih.1.step (by omega) hb.1, ih.2.step (by omega) hb.2.1 hb.2.2.1⟩
theorem HV.step {p : Pln} {o : Wsh} {l : List Evt} {k : Nat} (h : HV p o l k) (hk : k < l.length) (h8 : ∀ j, j < k + 1 → ¬ R8 (l.take j) (l.getD j evt0)) : HV p o l (k + 1) := by
 have hst : histT p o (l.take (k + 1)) = histF p o (histT p o (l.take k)) (l.getD k evt0) := histT_step hk
 have hfs := forgS_step p o hk
 have hcs := fun a => callS_step a hk
 have hend := end_iff (k := k) (by omega) (fun j hj => h8 j (by omega))
 have hcp := fun a => callS_p a (l.take k)
 have hll : (l.take k).length = k := by rw [List.length_take]; omega
 rw [hll] at hcp
 by_cases hA : (l.getD k evt0).kind = 1 ∧ oursW (l.getD k evt0).wish o
 ·have hs : histT p o (l.take (k + 1)) = ⟨(histT p o (l.take k)).out ++ [hop1 (l.getD k evt0) (histT p o (l.take k)).n], (histT p o (l.take k)).forged, fun a => if a = (l.getD k evt0).a then some (histT p o (l.take k)).out.length else (histT p o (l.take k)).opn a, (histT p o (l.take k)).seen, (histT p o (l.take k)).n + 1⟩ := hst.trans (by rw [histF, if_pos hA])
  have hfs2 : forgS p o (l.take (k + 1)) = forgS p o (l.take k) := hfs.trans (forgF_no (by omega))
  refine ⟨by rw [hs]; dsimp only; rw [h.n], ?_, fun a => ?_, by rw [hs, hfs2]; exact h.fg, fun c t => by rw [hs, hfs2]; exact h.sn c t⟩
  ·rw [hs]
   dsimp only
   have e1 : opK l o (k + 1) k = some (hop1 (l.getD k evt0) k) := by
    unfold opK
    rw [if_pos (show ourC l o k from hA)]
    unfold opU
    rw [endK_own]
    rfl
   rw [List.range_succ, List.filterMap_append, List.filterMap_cons_some e1, h.out, h.n, List.filterMap_nil]
   congr 1
   exact (fm_congr (fun j hj => opK_same hj (endK_not2 hj (fun x => by omega)))).symm
  ·rw [hs]
   dsimp only
   by_cases ha : a = (l.getD k evt0).a
   ·rw [if_pos ha, hcs a]
    have e1 : callF a (callS a (l.take k)) (l.getD k evt0) = ⟨(callS a (l.take k)).n, false, (callS a (l.take k)).many + 1, (callS a (l.take k)).n + 1⟩ := by rw [callF, if_pos ha.symm, if_pos hA.1]
    rw [e1]
    dsimp only
    rw [callS_len (by omega), Int.toNat_natCast, if_pos ⟨by omega, rfl, hA.2⟩, h.out, len_opK]
   ·have hc := callF_other (s := callS a (l.take k)) (x := l.getD k evt0) (.inl (fun x => ha x.symm))
    rw [if_neg ha, hcs a, hc.1, hc.2]
    exact h.opn a
 ·by_cases h2 : (l.getD k evt0).kind = 2
  ·have hfs2 : forgS p o (l.take (k + 1)) = forgS p o (l.take k) := hfs.trans (forgF_no (by omega))
   have hown : opK l o (k + 1) k = none := if_neg (fun x : ourC l o k => by have := x.1; omega)
   have hout : ∀ (z : List HOp), (List.range k).filterMap (opK l o (k + 1)) = z → (List.range (k + 1)).filterMap (opK l o (k + 1)) = z := fun z hz => by
    rw [List.range_succ, List.filterMap_append, List.filterMap_cons_none hown, List.filterMap_nil, List.append_nil, hz]
   have hopn : ∀ a, (if a = (l.getD k evt0).a then none else (histT p o (l.take k)).opn a) = if 0 ≤ (callS a (l.take (k + 1))).pos ∧ (callS a (l.take (k + 1))).done = false ∧ oursW (l.getD (callS a (l.take (k + 1))).pos.toNat evt0).wish o then some (cntO l o (callS a (l.take (k + 1))).pos.toNat) else none := fun a => by
    by_cases ha : a = (l.getD k evt0).a
    ·rw [if_pos ha, hcs a]
     have e1 : callF a (callS a (l.take k)) (l.getD k evt0) = ⟨(callS a (l.take k)).pos, true, (callS a (l.take k)).many, (callS a (l.take k)).n + 1⟩ := by rw [callF, if_pos ha.symm, if_neg (by omega), if_pos h2]
     rw [e1, if_neg (fun x => by cases x.2.1)]
    ·have hc := callF_other (s := callS a (l.take k)) (x := l.getD k evt0) (.inl (fun x => ha x.symm))
     rw [if_neg ha, hcs a, hc.1, hc.2]
     exact h.opn a
   have hoth : ∀ j, j < k → (∀ (_ : ourC l o j), (l.getD j evt0).a = (l.getD k evt0).a → endK l k j ≠ none) → opK l o (k + 1) j = opK l o k j := fun j hj hne => by
    by_cases hc : ourC l o j
    ·refine opK_same hj ?_
     rw [endK_step hj]
     cases he : endK l k j with
     | some m => rfl
     | none =>
      dsimp only
      rw [if_neg (fun x => hne hc x.2.symm he)]
    ·unfold opK; rw [if_neg hc, if_neg hc]
   have hq := h.opn (l.getD k evt0).a
   by_cases hcd : 0 ≤ (callS (l.getD k evt0).a (l.take k)).pos ∧ (callS (l.getD k evt0).a (l.take k)).done = false ∧ oursW (l.getD (callS (l.getD k evt0).a (l.take k)).pos.toNat evt0).wish o
   ·rw [if_pos hcd] at hq
    have hpk := pos_kind (k := k) (by omega) hcd.1
    have hpl := hcp (l.getD k evt0).a
    obtain ⟨q, hqq⟩ : ∃ q : Nat, (callS (l.getD k evt0).a (l.take k)).pos = (q : Int) := ⟨_, (Int.toNat_of_nonneg hcd.1).symm⟩
    rw [hqq] at hq hpk hcd hpl
    rw [Int.toNat_natCast] at hq hpk hcd
    have hqk : q < k := by omega
    have hce : endK l k q = none := (hend q hqk hpk.1).2 ⟨by rw [hpk.2, hqq], by rw [hpk.2]; exact hcd.2.1⟩
    have hoc : ourC l o q := ⟨hpk.1, hcd.2.2⟩
    have hce2 : endK l (k + 1) q = some k := by rw [endK_step hqk, hce]; dsimp only; rw [if_pos ⟨h2, hpk.2.symm⟩]
    have hoth2 : ∀ j, j < k → j ≠ q → opK l o (k + 1) j = opK l o k j := fun j hj hn => hoth j hj (fun hc ha he => by
     have := ((hend j hj hc.1).1 he).1
     rw [ha, hqq] at this
     omega)
    have hy : opU l k q = ⟨decide ((l.getD q evt0).wish.kind = 2), (l.getD q evt0).wish.data, (q : Int) + 1, 0⟩ := by unfold opU; rw [hce]
    have hG : opK l o k q = some (opU l k q) := if_pos hoc
    have hs : histT p o (l.take (k + 1)) = ⟨if (l.getD k evt0).ans.err = 0 then (histT p o (l.take k)).out.modify (cntO l o q) (fun y => hopE y (l.getD k evt0) (histT p o (l.take k)).n) else (histT p o (l.take k)).out, (histT p o (l.take k)).forged, fun a => if a = (l.getD k evt0).a then none else (histT p o (l.take k)).opn a, (histT p o (l.take k)).seen, (histT p o (l.take k)).n + 1⟩ := hst.trans (by rw [histF, if_neg hA, if_pos h2, hq])
    refine ⟨by rw [hs]; dsimp only; rw [h.n], ?_, fun a => by rw [hs]; exact hopn a, by rw [hs, hfs2]; exact h.fg, fun c t => by rw [hs, hfs2]; exact h.sn c t⟩
    rw [hs]
    dsimp only
    refine (hout _ ?_).symm
    by_cases he : (l.getD k evt0).ans.err = 0
    ·rw [if_pos he, h.out, h.n, ← len_opK l o k q]
     refine fm_modify hG ?_ hqk hoth2
     unfold opK
     rw [if_pos hoc]
     congr 1
     rw [hy]
     unfold opU hopE
     rw [hce2]
     dsimp only
     rw [if_pos he]
     congr 1
     by_cases hw : (l.getD q evt0).wish.kind = 2
     ·rw [if_pos hw, if_pos (decide_eq_true hw)]
     ·rw [if_neg hw, if_neg (by rw [decide_eq_false hw]; decide)]
    ·rw [if_neg he, h.out]
     refine fm_congr (fun j hj => ?_)
     by_cases hn : j = q
     ·subst hn
      unfold opK
      rw [if_pos hoc, if_pos hoc, hy]
      congr 1
      unfold opU
      rw [hce2]
      dsimp only
      rw [if_neg he]
     ·exact hoth2 j hj hn
   ·rw [if_neg hcd] at hq
    have hs : histT p o (l.take (k + 1)) = ⟨(histT p o (l.take k)).out, (histT p o (l.take k)).forged, fun a => if a = (l.getD k evt0).a then none else (histT p o (l.take k)).opn a, (histT p o (l.take k)).seen, (histT p o (l.take k)).n + 1⟩ := hst.trans (by rw [histF, if_neg hA, if_pos h2, hq])
    refine ⟨by rw [hs]; dsimp only; rw [h.n], ?_, fun a => by rw [hs]; exact hopn a, by rw [hs, hfs2]; exact h.fg, fun c t => by rw [hs, hfs2]; exact h.sn c t⟩
    rw [hs]
    dsimp only
    refine (hout _ ?_).symm
    rw [h.out]
    refine fm_congr (fun j hj => hoth j hj (fun hc ha he => hcd ?_))
    have := (hend j hj hc.1).1 he
    rw [ha] at this
    refine ⟨by omega, this.2, ?_⟩
    rw [← this.1, Int.toNat_natCast]
    exact hc.2
  ·have hout : (List.range (k + 1)).filterMap (opK l o (k + 1)) = (histT p o (l.take k)).out := by rw [out_no h2 hA, h.out]
   have hopn : ∀ a, (histT p o (l.take k)).opn a = if 0 ≤ (callS a (l.take (k + 1))).pos ∧ (callS a (l.take (k + 1))).done = false ∧ oursW (l.getD (callS a (l.take (k + 1))).pos.toNat evt0).wish o then some (cntO l o (callS a (l.take (k + 1))).pos.toNat) else none := fun a => by
    rcases callF_cases a (callS a (l.take k)) (l.getD k evt0) with ⟨h1, h3, h4⟩ | ⟨h1, h3, h4⟩ | ⟨h1, h4⟩
    ·rw [h.opn a, hcs a, h4]
     dsimp only
     rw [callS_len (by omega), Int.toNat_natCast]
     have hr := h8 k (by omega)
     rw [if_neg (fun x => hr ⟨h3, .inl ⟨by rw [h1]; exact x.1, by rw [h1]; exact x.2.1⟩⟩), if_neg (fun x => hA ⟨h3, x.2.2⟩)]
    ·exact absurd h3 h2
    ·rw [h.opn a, hcs a, h4]
   by_cases h3 : ((l.getD k evt0).kind = 3 ∧ (l.getD k evt0).wish.kind = 2 ∧ oursW (l.getD k evt0).wish o ∧ badP p (l.getD k evt0).wish.client) ∧ (histT p o (l.take k)).seen ((l.getD k evt0).wish.client, (l.getD k evt0).wish.stamp) = false
   ·have hs : histT p o (l.take (k + 1)) = ⟨(histT p o (l.take k)).out, (histT p o (l.take k)).forged ++ [⟨true, (l.getD k evt0).wish.data, 1, 0⟩], (histT p o (l.take k)).opn, fun q => if q = ((l.getD k evt0).wish.client, (l.getD k evt0).wish.stamp) then true else (histT p o (l.take k)).seen q, (histT p o (l.take k)).n + 1⟩ := hst.trans (by rw [histF, if_neg hA, if_neg h2, if_pos h3])
    have hfs2 : forgS p o (l.take (k + 1)) = ((forgS p o (l.take k)).1 ++ [(l.getD k evt0).wish], (forgS p o (l.take k)).2 ++ [⟨true, (l.getD k evt0).wish.data, 1, 0⟩]) := hfs.trans (by
     unfold forgF
     refine if_pos ⟨h3.1, fun y hy => Decidable.byContradiction (fun hn => ?_)⟩
     have := (h.sn (l.getD k evt0).wish.client (l.getD k evt0).wish.stamp).2 ⟨y, hy, Decidable.byContradiction (fun x => hn (.inl x)), Decidable.byContradiction (fun x => hn (.inr x))⟩
     rw [h3.2] at this
     cases this)
    refine ⟨by rw [hs]; dsimp only; rw [h.n], by rw [hs, hout], fun a => by rw [hs]; exact hopn a, by rw [hs, hfs2]; dsimp only; rw [h.fg], fun c t => ?_⟩
    rw [hs, hfs2]
    dsimp only
    by_cases hct : (c, t) = ((l.getD k evt0).wish.client, (l.getD k evt0).wish.stamp)
    ·rw [if_pos hct]
     have hc := Prod.mk.inj hct
     exact ⟨fun _ => ⟨_, List.mem_append_right _ (List.mem_singleton.2 rfl), hc.1.symm, hc.2.symm⟩, fun _ => rfl⟩
    ·rw [if_neg hct, h.sn]
     constructor
     ·rintro ⟨y, hy, h5⟩; exact ⟨y, List.mem_append_left _ hy, h5⟩
     ·rintro ⟨y, hy, h5, h6⟩
      rcases List.mem_append.1 hy with hy | hy
      ·exact ⟨y, hy, h5, h6⟩
      ·rw [List.mem_singleton.1 hy] at h5 h6
       exact absurd (by rw [h5, h6]) hct
   ·have hs : histT p o (l.take (k + 1)) = ⟨(histT p o (l.take k)).out, (histT p o (l.take k)).forged, (histT p o (l.take k)).opn, (histT p o (l.take k)).seen, (histT p o (l.take k)).n + 1⟩ := hst.trans (by rw [histF, if_neg hA, if_neg h2, if_neg h3])
    have hfs2 : forgS p o (l.take (k + 1)) = forgS p o (l.take k) := hfs.trans (by
     unfold forgF
     refine if_neg (fun x => h3 ⟨x.1, ?_⟩)
     cases hse : (histT p o (l.take k)).seen ((l.getD k evt0).wish.client, (l.getD k evt0).wish.stamp)
     ·rfl
     ·obtain ⟨y, hy, h5, h6⟩ := (h.sn _ _).1 hse
      exact ((x.2 y hy).elim (fun z => z h5) (fun z => z h6)).elim)
    exact ⟨by rw [hs]; dsimp only; rw [h.n], by rw [hs, hout], fun a => by rw [hs]; exact hopn a, by rw [hs, hfs2]; exact h.fg, fun c t => by rw [hs, hfs2]; exact h.sn c t⟩
set_option maxHeartbeats 8000000 in
theorem copied_ok {w : World} {A : Option Addr} {c : Nat} {l : List Evt} {S : Nat → Prop} (hl : GS evtR S w A c l) (hz : ∀ x ∈ l, EvtZ x) (h100 : l.length ≤ 100) : Ret prog 12 #[.slice A l.length c] w (fun v w' => ∃ A' c', v = .slice A' l.length c' ∧ GS evtR (fun _ => True) w' A' c' l ∧ Ext w w') := by
 refine ret_of_wk func12 rfl ntmps12 leB_ ?_
 have hp := HP.begin_ w
 have hlF := hl.now
 generalize hF0 : (fun b => b < w.heap.size) = F0 at hp hlF
 replace hp := hp.noRow 46 53
 refine so ?_
 refine Lp [0, 3, 4] (fun L' w' mes => ∃ (j : Nat) (F : Nat → Prop) (A3 : Option Addr) (c3 : Nat) (rows : List (List Value)), L' = [(0, .slice A l.length c), (3, .slice A3 (l.take j).length c3), (4, iv (j : Int))] ∧ j ≤ l.length ∧ HP w (fun _ => False) F w' [itR 46 53 A3 (l.take j).length c3 rows.flatten] ∧ RF evtR F w' rows (l.take j) ∧ Frz F0 F w w' ∧ mes = l.length - j) (l.length - 0) ⟨0, F0, none, 0, [], rfl, Nat.zero_le _, hp, RF.nil _ _ _, Frz.start _ _, rfl⟩ ?_
 clear hp
 rintro _ wr _ ⟨j, F, A3, c3, rows, rfl, hj, hp, hR, hF, rfl⟩ KL hKL
 refine so ?_
 refine Cd ?_ ?_ <;> intro hc
 ·have hj9 : j < l.length := by omega
  have hsn := take_snoc evt0 hj9
  have hzj : EvtZ (l.getD j evt0) := hz _ (by rw [List.getD_eq_getElem?_getD, List.getElem?_eq_getElem hj9]; exact List.getElem_mem hj9)
  have hlt : (l.take j).length ≤ 100 := by rw [List.length_take]; omega
  obtain ⟨ae, A0, d0, A1, d1, A2, d2, A4, d4, hAe, hate, hIe, x0, x1, x2, x3⟩ := evtR_el (hlF.to hF) j hj9
  generalize hxe : l.getD j evt0 = x at hsn hzj hate hIe x0 x1 x2 x3
  generalize hcur : l.take j = cur at *
  refine so ?_
  refine Alo hp (h := fun g9 w1 hp E1 => so ?_)
  refine Hs 0 hp (h := fun w2 hp C2 => ?_)
  replace hp := hp.as_ (H' := itB g9 46 (evC x A0 d0 A1 d1 A2 d2 A4 d4) :: itR 46 53 A3 cur.length c3 rows.flatten :: []) rfl
  have f2 : Frz F F wr w2 := mv
  refine so ?_
  refine Ce (rCopyW_ok (x := x.wish) ⟨hIe.wish, A0, d0, A1, d1, rfl, x0.to f2, x1.to f2⟩ hzj.1) ?_
  rintro _ w3 ⟨_, rfl, ⟨_, B0, b0, B1, b1, rfl, y0, y1⟩, E3⟩
  obtain ⟨F3, hp, s3, n3, _⟩ := hp.frz E3
  refine so ?_
  refine Hs 0 hp (xs := wsC x.wish B0 b0 B1 b1) (ds := evC x B0 b0 B1 b1 A2 d2 A4 d4) (h := fun w4 hp C4 => ?_)
  replace hp := hp.as_ (H' := itB g9 46 (evC x B0 b0 B1 b1 A2 d2 A4 d4) :: itR 46 53 A3 cur.length c3 rows.flatten :: []) rfl
  have f4 : Frz F F3 wr w4 := mv
  refine so ?_
  refine Ce (rCopyB_ok (x2.to f4)) ?_
  rintro _ w5 ⟨B2, b2, rfl, y2, E5⟩
  obtain ⟨F5, hp, s5, n5, _⟩ := hp.frz E5
  refine so ?_
  refine H1 0 hp (h := fun w6 hp C6 => ?_)
  replace hp := hp.as_ (H' := itB g9 46 (evC x B0 b0 B1 b1 B2 b2 A4 d4) :: itR 46 53 A3 cur.length c3 rows.flatten :: []) rfl
  have f6 : Frz F F5 wr w6 := mv
  refine so ?_
  refine Ce (rCopyI_ok (x3.to f6) hzj.2) ?_
  rintro _ w7 ⟨B3, b3, rfl, y3, E7⟩
  obtain ⟨F7, hp, s7, n7, _⟩ := hp.frz E7
  refine so ?_
  refine H1 0 hp (h := fun w8 hp C8 => ?_)
  replace hp := hp.as_ (H' := itB g9 46 (evC x B0 b0 B1 b1 B2 b2 B3 b3) :: itR 46 53 A3 cur.length c3 rows.flatten :: []) rfl
  have f8 : Frz F F7 wr w8 := mv
  have q3 : Frz F3 F7 w3 w8 := mv
  have q5 : Frz F5 F7 w5 w8 := mv
  have q7 : Frz F7 F7 w7 w8 := mv
  have hx8 : evtR.rd F7 w8 (evC x B0 b0 B1 b1 B2 b2 B3 b3) x := ⟨hIe, B0, b0, B1, b1, B2, b2, B3, b3, rfl, (y0.mono (fun b hb h => n3 b h hb)).to q3, (y1.mono (fun b hb h => n3 b h hb)).to q3, (y2.mono (fun b hb h => n5 b h hb)).to q5, (y3.mono (fun b hb h => n7 b h hb)).to q7⟩
  refine so ?_
  refine wl_oneOf (by decide) sl24 rfl rfl rfl leB_ ?_
  rintro _ w9 hOn E9
  obtain ⟨gu, rfl, hat9⟩ := hOn
  replace hp := hp.ext E9
  refine wl_happend (i := 1) (m := 1) (size := 53) (news := evC x B0 b0 B1 b1 B2 b2 B3 b3) (by decide) sl24 rfl rfl hp rfl rfl (fun b hb => by cases hb; exact hat9) (by simp) (evtR.one hx8) (by omega) ?_
  rintro A9 c9 w10 hp C10
  refine so ?_
  have f10 : Frz F7 F7 w8 w10 := mv
  refine wk_re (k := 3) (v := .slice A9 (cur ++ [x]).length c9) rfl (by rw [List.length_append]; rfl) ?_
  refine Kl [0, 3, 4] hKL (l.length - (j + 1)) ⟨j + 1, F7, A9, c9, rows ++ [evC x B0 b0 B1 b1 B2 b2 B3 b3], ?_⟩ (by omega)
  rw [hsn, flat_snoc, List.length_append]
  exact ⟨rfl, by omega, hp.tail, (hR.to (Frz.bF f10 f8)).append (RF.one (r := evtR) (rdTo hx8 f10)), Frz.bF (Frz.bF f10 f8) hF, rfl⟩
 ·have hjl : j = l.length := by omega
  subst hjl
  rw [List.take_length] at hp hR ⊢
  refine so ?_
  have hrow := hp.rowAt (i := 0) rfl
  exact Pt ⟨_, rfl, A3, c3, rfl, OwnRow.gsRF (r := evtR) hrow (hR.wid (fun _ _ => trivial)) (fun _ _ _ => trivial), hp.chg⟩
end Go.Proofs.Ytgheaedligkhoaa
