/- What each of these functions computes, for every argument that its theorem names; a part of what the proof of JudgeFinds stands on. -/
import Derived.Test.YtgheaedligkhoaaAab
import Derived.Test.YtgheaedligkhoaaAac
import Derived.Test.YtgheaedligkhoaaAad
import Derived.Test.YtgheaedligkhoaaAae
import Derived.Test.YtgheaedligkhoaaAag
import Derived.Test.YtgheaedligkhoaaAah
import Derived.Test.YtgheaedligkhoaaAam
import Derived.Test.YtgheaedligkhoaaAaq
import Derived.Test.YtgheaedligkhoaaAar
import Derived.Test.YtgheaedligkhoaaAas
import Derived.Test.YtgheaedligkhoaaAat
import Derived.Test.YtgheaedligkhoaaAau
import Derived.Test.YtgheaedligkhoaaAav
namespace Go.Proofs.Ytgheaedligkhoaa
open Go.RowKit Go.Eng _root_.Go.Proofs.Try Go.Eng _root_.Go.Proofs.Try
set_option maxRecDepth 100000
variable {w0 w : World} {M0 Fz : Nat → Prop} {H : List It} {A : Option Addr} {c : Nat}
set_option maxHeartbeats 8000000 in
theorem eleventh_ok {pk : Addr} {csk : List Value} {k : Lok} {Sk Pk : Nat → Prop} {i : Nat} {w : World} (hatk : AtF Pk w pk csk) (hk : lokR.rd Sk w csk k) (hi : i < k.l.length) (hl : k.l.length ≤ 32768) : Ret prog 74 #[.pointer (some pk), iv i] w (fun v w' => v = .bool (decide (R11 k.p k.l i)) ∧ Ext w w') := by
 have hk0 := rdTn (F := fun b => b < w.heap.size) (w' := w) hk
 obtain ⟨p, l⟩ := k
 obtain ⟨hIk, Ak, ck, rfl, hl0⟩ := hk
 dsimp only at hi hl hl0 hatk ⊢
 refine ret_of_wk func74 rfl ntmps74 leB_ ?_
 have hp := HP.begin_ w
 have hlF := hl0.now
 have hat := hatk.now
 generalize hF0 : (fun b => b < w.heap.size) = F0 at hp hlF hat hk0
 obtain ⟨ai, I0, i0', I1, i1, I2, i2, I3, i3, hAi, hati, hIi, y0, y1, y2, y3⟩ := evtR_el hlF i hi
 have hRi : R11 p l i ↔ (wellE (l.getD i evt0) ∧ ((l.getD i evt0).wish.kind = 1 ∨ (l.getD i evt0).wish.kind = 2) ∧ linO (histS p l i) (List.replicate 16 0) = (false, 0)) := Iff.rfl
 generalize hei : l.getD i evt0 = e at hati hIi y0 y1 y2 y3 hRi
 refine so ?_
 refine Alo hp (h := fun g5 w1 hp E1 => so ?_)
 refine Hs 0 hp (h := fun w2 hp C2 => ?_)
 replace hp := hp.as_ (H' := itB g5 46 (evC e I0 i0' I1 i1 I2 i2 I3 i3) :: []) rfl
 have f2 : Frz F0 F0 w w2 := mv
 have her : evtR.rd F0 w2 (evC e I0 i0' I1 i1 I2 i2 I3 i3) e := ⟨hIi, I0, i0', I1, i1, I2, i2, I3, i3, rfl, y0.to f2, y1.to f2, y2.to f2, y3.to f2⟩
 refine sl ?_
 refine wc_seq_cut (fun L' w' => L' = [(0, .pointer (some pk)), (1, iv i)] ∧ (wellE e ∧ (e.wish.kind = 1 ∨ e.wish.kind = 2)) ∧ HP w (fun _ => False) F0 w' (itB g5 46 (evC e I0 i0' I1 i1 I2 i2 I3 i3) :: []) ∧ Frz F0 F0 w w') ?_ ?_
 ·intro K hK
  refine so ?_
  refine Cx hp (well_ok her) (h := fun w3 hp E3 => so ?_)
  have f3 : Frz F0 F0 w w3 := Frz.bE E3 f2
  refine Gs 18 ?_ ?_ <;> intro k1 <;> refine so ?_
  ·refine aT (so ?_)
   exact Pt ⟨_, rfl, bool_f (fun h => k1 (hRi.1 h).1), hp.chg⟩
  replace k1 : wellE e := Decidable.not_not.1 k1
  refine Gs 23 ?_ ?_ <;> intro k2 <;> refine so ?_
  ·refine Cd ?_ ?_ <;> intro k3 <;> refine so ?_
   ·exact Pt ⟨_, rfl, bool_f (fun h => (hRi.1 h).2.1.elim k2 k3), hp.chg⟩
   ·exact Kd [0, 1] hK ⟨rfl, ⟨k1, .inr (Decidable.not_not.1 k3)⟩, hp, f3⟩
  ·refine aF (so ?_)
   exact Kd [0, 1] hK ⟨rfl, ⟨k1, .inl (Decidable.not_not.1 k2)⟩, hp, f3⟩
 clear hp
 rintro _ w3 ⟨rfl, ⟨k1, k2⟩, hp, f3⟩
 have hlin := linO_ord (histS p l i) (List.replicate 16 0)
 obtain ⟨hh, hH⟩ : ∃ hh, histS p l i = hh := ⟨_, rfl⟩
 rw [hH] at hlin hRi
 refine so ?_
 refine wdL [.eq (.pointer (some pk)), .eq (iv i), .gs opR (fun _ => True) hh, .gs byteR (fun _ => True) (List.replicate 16 0), .eq (.tuple #[.bool (ordS hh (List.replicate 16 0)).2.1, iv (ordS hh (List.replicate 16 0)).2.2]), .eq (.tuple #[.bool (ordS hh (List.replicate 16 0)).2.1, iv (ordS hh (List.replicate 16 0)).2.2]), .eq (.bool (ordS hh (List.replicate 16 0)).2.1), .eq (iv (ordS hh (List.replicate 16 0)).2.2), .eq (.bool (ordS hh (List.replicate 16 0)).2.1), .eq (iv (ordS hh (List.replicate 16 0)).2.2)] ?_ ?_
 ·refine ⟨?_, ?_, ?_, ?_, ?_, ?_, ?_, ?_, ?_, ?_, trivial⟩ <;> intro F wF hER hk
  ·exact dm (hk.qi 0)
  ·exact dm (hk.qi 1)
  ·have ea := hk.qe 0
   have eb := hk.qe 1
   refine Cl_ (xs := [.tmp 31, .tmp 32]) (by kernel_rfl) (by simp only [evs, ev, ea, eb]) (rhist_ok (k := ⟨p, l⟩) (hat.to (Frz.bE hER f3)) (rdTo hk0 (Frz.bE hER f3)) hi hl) ?_
   rintro _ wc ⟨A, c, rfl, hg, hEc⟩
   dsimp only at hg ⊢
   rw [hH] at hg ⊢
   exact qz ⟨hEc, A, c, rfl, hg⟩
  ·refine wl_make (k := 16) (z := .int .u8 0) (by decide) sl40 (by kernel_rfl) rfl rfl (by omega) 0 (Nat.zero_le _) ?_
   rintro g5 w5 hg5 hrow E5
   refine qz ⟨E5, some ⟨g5, 0, none⟩, 16, rfl, ?_⟩
   refine OwnRow.gsRF (r := byteR) (rows := List.replicate 16 [bv 0]) (l := List.replicate 16 0) hrow ⟨rfl, fun j hj => ⟨[bv 0], ?_, ?_⟩⟩ (fun _ _ _ => trivial)
   ·rw [List.length_replicate] at hj
    rw [List.getElem?_replicate, if_pos hj]
   ·rw [List.getElem_replicate]
    exact rfl
  ·obtain ⟨v33, e33, A, c, rfl, hg⟩ := hk.qp 2
   obtain ⟨v34, e34, B, d, rfl, hb⟩ := hk.qp 3
   refine Cl_ (xs := [.tmp 33, .tmp 34]) (by kernel_rfl) (by simp only [evs, ev, e33, e34]) (rlinear_ok hg hb) ?_
   rintro _ wc ⟨rfl, hEc⟩
   exact qz ⟨hEc, rfl⟩
  ·exact dm (hk.qe 4)
  ·exact wl_extract (by decide) (hk.qe 5) rfl qz
  ·exact wl_extract (by decide) (hk.qe 5) rfl qz
  ·exact wl_assign (by decide) (hk.qe 6) qz
  ·exact wl_assign (by decide) (hk.qe 7) qz
 intro F wD hED hini hdo
 have e6 := dq hdo 8
 have e7 := dq hdo 9
 refine wk_drop [(6, _), (7, _)] ⟨e6, e7, trivial⟩ ?_
 clear hini hdo e6 e7
 replace hp := hp.ext hED
 refine so ?_
 refine Gs 40 ?_ ?_ <;> intro k5 <;> refine so ?_
 ·refine Pt ⟨_, rfl, congrArg Value.bool ?_, hp.chg⟩
  rw [eq_comm, decide_eq_decide.2 hRi]
  cases hok : (ordS hh (List.replicate 16 0)).2.1
  ·exact decide_eq_true ⟨k1, k2, by rw [hlin, k5, hok]⟩
  ·exact decide_eq_false (fun h => by have := h.2.2; rw [hlin, hok] at this; cases this)
 ·exact Pt ⟨_, rfl, bool_f (fun h => by have := (hRi.1 h).2.2; rw [hlin] at this; exact k5 (Prod.mk.inj this).2), hp.chg⟩
set_option maxHeartbeats 8000000 in
theorem jfind_ok {w : World} {S S2 : Nat → Prop} {p : Pln} {cs : List Value} {l : List Evt} {A : Option Addr} {c : Nat} (hpl : plnR.rd S2 w cs p) (hl : GS evtR S w A c l)
  (hB : ∀ i, i < l.length → (∀ j, j < i → broken p l j = 0) → firstA (anJ p l i (valOf (l.take i)) (l.getD i evt0)) 0 10 = broken p l i) :
  Ret prog 9 #[.agg cs.toArray, .slice A l.length c] w (fun x w' => x = find3 (findS p l) ∧ Ext w w') := by
 have hpl0 := hpl
 obtain ⟨hP, rfl⟩ := hpl
 refine ret_of_wk func9 rfl ntmps9 leB_ ?_
 have hp := HP.begin_ w
 have hlF : GS evtR (fun b => b < w.heap.size) w A c l := hl.mono (fun b hb _ => hb)
 generalize hF0 : (fun b => b < w.heap.size) = F0 at hp hlF
 refine so ?_
 refine Bx hp (h := fun g2 w1 hp E1 => so ?_)
 refine Cx hp (jmay_ok (plnR.keep E1 (fun _ _ _ x => x) hpl0)) (h := fun w2 hp E2 => so ?_)
 refine Cd ?_ ?_ <;> intro kM <;> refine so ?_
 ·exact P3 ⟨_, rfl, (by rw [findS, if_pos (by simpa using kM)] : _ = find3 (findS p l)), hp.chg⟩
 replace kM : PlnMay p := by simpa using kM
 refine Cd ?_ ?_ <;> intro kL <;> refine so ?_
 ·exact P3 ⟨_, rfl, (by rw [findS, if_neg (fun h => h kM), if_pos (by omega)] : _ = find3 (findS p l)), hp.chg⟩
 have hfin : findS p l = ((firstB p l 0 l.length).1, (firstB p l 0 l.length).2, 0) := by rw [findS, if_neg (fun h => h kM), if_neg (by omega)]
 refine wl_rmake (k := 3) 0 0 (by decide) hp (fun m1 w3 hp E3 => so ?_)
 refine wl_rmake (k := 89) 0 0 (by decide) hp (fun m2 w4 hp E4 => so ?_)
 refine wl_rmake (k := 89) 0 0 (by decide) hp (fun m3 w5 hp E5 => so ?_)
 refine wl_rmake (k := 91) 96 14 (by decide) hp (fun m4 w6 hp E6 => so ?_)
 refine wl_rmake (k := 87) 98 33 (by decide) hp (fun m5 w7 hp E7 => so ?_)
 refine wl_rmake (k := 3) 0 0 (by decide) hp (fun m6 w8 hp E8 => so ?_)
 refine wl_rmake (k := 3) 0 0 (by decide) hp (fun m7 w9 hp E9 => so ?_)
 refine wl_builtS (ps := [(0, .tmp 22), (1, .tmp 23), (4, .tmp 24), (5, .tmp 25), (6, .tmp 26), (7, .tmp 27), (8, .tmp 28), (9, .tmp 29), (10, .tmp 30)]) (by decide) bld64 rfl rfl (so ?_)
 refine wl_re (k := 31) (v := .agg (lookC p ⟨0, A, c, m1, m2, m3, m4, m5, m6, m7⟩ l.length 0 0).toArray) rfl rfl ?_
 refine Bx hp (h := fun gl w10 hp E10 => so ?_)
 replace hp := (hp.up 1 rfl).as_ (H' := itMR prog 3 0 0 m7 nF nR :: itB gl 64 (lookC p ⟨0, A, c, m1, m2, m3, m4, m5, m6, m7⟩ l.length 0 0) :: itMR prog 3 0 0 m6 nF nR :: itMR prog 87 98 33 m5 nF nR :: itMR prog 91 96 14 m4 nF nR :: itMR prog 89 0 0 m3 nF nR :: itMR prog 89 0 0 m2 nF nR :: itMR prog 3 0 0 m1 nF nR :: [itB g2 23 [iv p.faults, iv p.chunks, iv p.spares, iv p.clients, iv p.bad]]) rfl
 have hp2 := (((((((hp.up 2 rfl).up 3 rfl).up 4 rfl).up 5 rfl).up 6 rfl).up 7 rfl).up 7 rfl)
 replace hp := hp2.as_ (H' := jH p ⟨gl, A, c, m1, m2, m3, m4, m5, m6, m7⟩ l.length 0 0 nF nF nF nF nF nF nF nR nR [itB g2 23 [iv p.faults, iv p.chunks, iv p.spares, iv p.clients, iv p.bad]]) rfl
 clear hp2
 obtain ⟨q, hq⟩ : ∃ q : JMem, q = ⟨gl, A, c, m1, m2, m3, m4, m5, m6, m7⟩ := ⟨_, rfl⟩
 have hqg : q.g = gl := by rw [hq]
 have hqA : q.A = A := by rw [hq]
 have hqc : q.c = c := by rw [hq]
 rw [← hq] at hp
 clear hq
 subst hqg
 subst hqA
 subst hqc
 refine wl_bslice (xs := [.func 29, .func 30, .func 31, .func 32, .func 33, .func 34, .func 35, .func 36, .func 37, .func 38]) (vs := jfs) (by decide) sl67 rfl rfl rfl (fun v hv => by obtain ⟨j, _, rfl⟩ := List.mem_map.1 hv; rfl) leB_ 0 (Nat.zero_le _) ?_
 rintro g8 w11 hg8 hrow E11
 replace hp := hp.add E11 (x := itR 65 1 (some ⟨g8, 0, none⟩) 10 10 jfs) (K := fun b => (10 : Nat) ≠ 0 ∧ blk (some ⟨g8, 0, none⟩) b) ⟨hrow, fun _ => Iff.rfl⟩ (fun b hb => by
  obtain ⟨_, a, ha, rfl⟩ := hb
  cases ha
  rw [hg8]
  exact Nat.le_refl _)
 obtain ⟨HX, hHX⟩ : ∃ HX : List It, HX = [itR 65 1 (some ⟨g8, 0, none⟩) 10 10 jfs, itB g2 23 [iv p.faults, iv p.chunks, iv p.spares, iv p.clients, iv p.bad]] := ⟨_, rfl⟩
 replace hp := (HP.comm [itR 65 1 (some ⟨g8, 0, none⟩) 10 10 jfs] (jH p q l.length 0 0 nF nF nF nF nF nF nF nR nR []) [itB g2 23 [iv p.faults, iv p.chunks, iv p.spares, iv p.clients, iv p.bad]] hp).as_ (H' := jH p q l.length 0 0 nF nF nF nF nF nF nF nR nR HX) (by rw [hHX]; rfl)
 have hJ0 : JW w (fun _ => False) F0 w11 HX q p l.length 0 (valOf (l.take 0)) := ⟨nF, nF, nF, nF, nF, nF, nF, nR, nR, hp, ⟨fun _ => rfl, fun _ _ _ => rfl, fun _ _ _ => rfl, ⟨fun _ _ h => (by cases h), fun _ _ _ _ => .inl ⟨rfl, rfl, rfl⟩⟩, fun _ _ => .inl ⟨rfl, rfl, rfl⟩, fun _ => rfl, fun _ => .inl ⟨rfl, rfl⟩⟩⟩
 have f11 : Frz F0 F0 w w11 := mv
 clear hp
 refine so ?_
 refine Lp [7, 8, 34, 35, 36] (fun L' w' mes => ∃ (k : Nat) (F : Nat → Prop) (here : Int), L' = [(7, pt q.g 0), (8, .slice (some ⟨g8, 0, none⟩) 10 10), (34, .slice q.A l.length q.c), (35, iv (l.length : Int)), (36, iv (k : Int))] ∧ k ≤ l.length ∧ JW w (fun _ => False) F w' HX q p l.length here (valOf (l.take k)) ∧ Frz F0 F w w' ∧ (∀ j, j < k → broken p l j = 0) ∧ mes = l.length - k) (l.length - 0) ⟨0, F0, 0, rfl, Nat.zero_le _, hJ0, f11, fun j hj => absurd hj (Nat.not_lt_zero _), rfl⟩ ?_
 rintro _ wr _ ⟨k, F, here, rfl, hk, hJ, hF, hno, rfl⟩ KL hKL
 refine so ?_
 refine Cd ?_ ?_ <;> intro hc
 ·have hk9 : k < l.length := by omega
  obtain ⟨f1, f2, f3, f4, f5, f6, f7, r4, r5, hp, hr⟩ := hJ
  obtain ⟨ae, A0, c0, A1, c1, A2, c2, A3, c3, hAe, hate, hIe, x0, x1, x2, x3⟩ := evtR_el (hlF.to hF) k hk9
  have hs0 := hB k hk9 hno
  generalize hv : valOf (l.take k) = v at hp hr hs0
  have hvb := valOf_b (l.take k)
  rw [List.length_take, Nat.min_eq_left hk, hv] at hvb
  generalize hxe : l.getD k evt0 = x at hate hIe x0 x1 x2 x3 hs0
  dsimp only [jH, lookC] at hp
  refine so ?_
  refine Alo hp (h := fun g10 w5 hp E5 => so ?_)
  refine Hs 0 hp (h := fun w6 hp C6 => so ?_)
  refine H1 1 hp (h := fun w7 hp C7 => ?_)
  have z7 : Frz F F wr w7 := mv
  have hex : evtR.rd F w7 (evC x A0 c0 A1 c1 A2 c2 A3 c3) x := ⟨hIe, A0, c0, A1, c1, A2, c2, A3, c3, rfl, x0.to z7, x1.to z7, x2.to z7, x3.to z7⟩
  have hlk : GS evtR F w7 q.A q.c l := hlF.to (Frz.bF z7 hF)
  obtain ⟨HY, hHY⟩ : ∃ HY : List It, HY = itB g10 46 (evC x A0 c0 A1 c1 A2 c2 A3 c3) :: HX := ⟨_, rfl⟩
  replace hp := (HP.comm [itB g10 46 (evC x A0 c0 A1 c1 A2 c2 A3 c3)] (jH p q l.length (k : Int) v.time f1 f2 f3 f4 f5 f6 f7 r4 r5 []) HX hp).as_ (H' := jH p q l.length (k : Int) v.time f1 f2 f3 f4 f5 f6 f7 r4 r5 HY) (by rw [hHY]; rfl)
  have hJ1 : JW w (fun _ => False) F w7 HY q p l.length (k : Int) (stJ v x 0) := ⟨_, _, _, _, _, _, _, _, _, hp, hr.to z7⟩
  clear hp
  refine so ?_
  refine Lp [7, 8, 9, 10, 34, 35, 36, 45, 46, 47] (fun L' w' mes => ∃ (j : Nat) (F2 : Nat → Prop), L' = [(7, pt q.g 0), (8, .slice (some ⟨g8, 0, none⟩) 10 10), (9, iv (k : Int)), (10, pt g10 0), (34, .slice q.A l.length q.c), (35, iv (l.length : Int)), (36, iv (k : Int)), (45, .slice (some ⟨g8, 0, none⟩) 10 10), (46, iv 10), (47, iv (j : Int))] ∧ j ≤ 10 ∧ JW w (fun _ => False) F2 w' HY q p l.length (k : Int) (stJ v x j) ∧ Frz F F2 w7 w' ∧ (∀ i, i < j → anJ p l k v x i = 0) ∧ mes = 10 - j) (10 - 0) ⟨0, F, rfl, Nat.zero_le _, hJ1, Frz.start _ _, fun j hj => absurd hj (Nat.not_lt_zero _), rfl⟩ ?_
  rintro _ ws _ ⟨j, F2, rfl, hj, hJ, hF2, hno2, rfl⟩ KM hKM
  refine so ?_
  refine Cd ?_ ?_ <;> intro hc2
  ·have hj9 : j < 10 := by omega
   have hJ' := hJ
   obtain ⟨f1, f2, f3, f4, f5, f6, f7, r4, r5, hp, hr⟩ := hJ
   rw [hHY, hHX] at hp
   dsimp only [jH, lookC] at hp
   refine so ?_
   refine wl_idxR (by decide) sl67 rfl rfl j rfl hj9 (so ?_)
   refine wl_hloadR (i := 9) (o := j * 1) (v := fv (29 + j)) (by decide) (by kernel_rfl) rfl hp rfl (by rw [Nat.mul_one]; exact jfs_at hj9) (so ?_)
   have hk15 : k < 32768 := by omega
   have zF : Frz F F2 wr ws := Frz.bF hF2 z7
   refine wl_callv (f := 29 + j) (first := []) (cap := []) (vs := [pt q.g 0, .agg (evC x A0 c0 A1 c1 A2 c2 A3 c3).toArray]) (by decide) (jcl j hj9) rfl rfl (rule_ok kM hP (hlk.to hF2) hk9 hk15 (rdTo hex hF2) hvb j hj9 hno2 hJ') ?_
   rintro _ wt ⟨F3, hF3, rfl, hd⟩
   refine so ?_
   have hnn := anJ_nn p l k v x j
   clear hp
   refine Cd ?_ ?_ <;> intro hc3 <;> refine so ?_
   ·rcases hd with ⟨h1, H', hp⟩ | ⟨h1, _⟩
    ·have e1 := firstA_at (f := anJ p l k v x) (n := 10) (j := 0) (k := j) (fun i _ h => hno2 i (by omega)) hj9 (by rw [Nat.zero_add]; exact h1)
     rw [Nat.zero_add, hs0] at e1
     have e2 := firstB_at (p := p) (l := l) (n := l.length) (j := 0) (k := k) (fun i _ h => hno i (by omega)) hk9 (by rw [Nat.zero_add, e1]; exact h1)
     rw [Nat.zero_add, e1] at e2
     exact P3 ⟨_, rfl, (by rw [hfin, e2] : _ = find3 (findS p l)), hp.chg⟩
    ·omega
   ·rcases hd with ⟨h1, _⟩ | ⟨h1, hJ2⟩
    ·omega
    ·refine Kl [7, 8, 9, 10, 34, 35, 36, 45, 46, 47] hKM (10 - (j + 1)) ⟨j + 1, F3, rfl, by omega, hJ2, Frz.bF hF3 hF2, fun i hi => ?_, rfl⟩ (by omega)
     by_cases e : i < j
     ·exact hno2 i e
     ·obtain rfl : i = j := by omega
      exact h1
  ·have hj9 : j = 10 := by omega
   subst hj9
   obtain ⟨f1, f2, f3, f4, f5, f6, f7, r4, r5, hp, hr⟩ := hJ
   rw [hHY] at hp
   dsimp only [jH, lookC] at hp
   refine so ?_
   refine H1 0 hp (h := fun wt hp C7 => ?_)
   refine so ?_
   have zF : Frz F F2 wr ws := Frz.bF hF2 z7
   have e1 := firstA_no (f := anJ p l k v x) (n := 10) (j := 0) (fun i _ h => hno2 i (by omega))
   rw [hs0] at e1
   have zt : Frz F2 F2 ws wt := mv
   refine Kl [7, 8, 34, 35, 36] hKL (l.length - (k + 1)) ⟨k + 1, F2, (k : Int), rfl, by omega, ?_, Frz.bF zt (Frz.bF zF hF), fun i hi => ?_, rfl⟩ (by omega)
   ·rw [valOf_step hk9, hv, hxe]
    exact ⟨f1, f2, f3, f4, f5, f6, f7, r4, r5, ((hp.up 8 rfl).tail).as_ rfl, JR.to (v := valF v x) ⟨hr.d, hr.b, hr.m, hr.j, hr.s, hr.f, hr.c⟩ zt⟩
   ·by_cases e : i < k
    ·exact hno i e
    ·obtain rfl : i = k := by omega
     exact e1
 ·refine so ?_
  have hkl : k = l.length := by omega
  obtain ⟨f1, f2, f3, f4, f5, f6, f7, r4, r5, hp, hr⟩ := hJ
  have hz := firstB_no (p := p) (l := l) (n := l.length) (j := 0) (fun i _ h => hno i (by omega))
  exact P3 ⟨_, rfl, (by rw [hfin, hz] : _ = find3 (findS p l)), hp.chg⟩
theorem AG.step {l : List Evt} {k : Nat} (h : AG (l.take k)) (hk : k < l.length) (h4 : ¬ R4 (l.take k) (l.getD k evt0)) (h7 : ¬ R7 (l.take k) (l.getD k evt0)) : AG (l.take (k + 1)) := by
 refine ⟨fun kd g ep s hkd x hx hq => ?_, fun g x hx hq => ?_⟩
 ·rw [batS, lastD_step _ hk]
  rcases (mem_take hk).1 hx with h1 | h1
  ·by_cases he : batQ kd g ep s (l.getD k evt0) = true
   ·rw [if_pos he]
    have e1 := of_decide_eq_true he
    have e2 := of_decide_eq_true hq
    refine Decidable.byContradiction (fun hn => h4 ⟨by rw [e1.1]; exact hkd, List.any_eq_true.2 ⟨x, h1, decide_eq_true ⟨e2.1.trans e1.1.symm, ⟨e2.2.1.trans e1.2.1.symm, e2.2.2.1.trans e1.2.2.1.symm⟩, e2.2.2.2.trans e1.2.2.2.symm, fun x => hn (by rw [x])⟩⟩⟩)
   ·rw [if_neg he]
    exact h.bat kd g ep s hkd x h1 hq
  ·subst h1
   rw [if_pos hq]
 ·rw [firstS, lastD_step _ hk]
  rcases (mem_take hk).1 hx with h1 | h1
  ·by_cases he : fstQ g (l.getD k evt0) = true
   ·rw [if_pos he]
    have e1 := of_decide_eq_true he
    have e2 := of_decide_eq_true hq
    refine Decidable.byContradiction (fun hn => h7 ⟨e1.1, .inl ⟨e1.2.1, List.any_eq_true.2 ⟨x, h1, decide_eq_true ⟨e2.1, ⟨e2.2.2.trans e1.2.2.symm, e2.2.1.trans e1.2.1.symm⟩, fun x => hn (by rw [x])⟩⟩⟩⟩)
   ·rw [if_neg he]
    exact h.fst g x h1 hq
  ·subst h1
   rw [if_pos hq]
set_option maxHeartbeats 4000000 in
theorem rCopyW_ok {w : World} {csx : List Value} {x : Wsh} {Sx : Nat → Prop} (hx : wishR.rd Sx w csx x) (hsz : x.next.length * 8 ≤ 140737488355328) : Ret prog 40 #[.agg csx.toArray] w (fun v w' => ∃ cs : List Value, v = .agg cs.toArray ∧ wishR.rd (fun b => w.heap.size ≤ b) w' cs x ∧ Ext w w') := by
 obtain ⟨hIx, Ax0, cx0, Ax1, cx1, rfl, hx0, hx1⟩ := hx
 refine ret_of_wk func40 rfl ntmps40 leB_ ?_
 have hp : HP w (fun _ => False) (fun _ => False) w [] := (HP.begin_ w).less (fun _ h => h.elim)
 refine so ?_
 refine Bx hp (h := fun gs1 w1 hp hE1 => so ?_)
 refine Alo hp (h := fun gs2 w2 hp hE2 => so ?_)
 refine Alo hp (h := fun gs3 w3 hp hE3 => so ?_)
 refine Hs 0 hp (h := fun w4 hp hC4 => so ?_)
 refine Ce (rCopyB_ok (GS.keep hp.chg (fun _ _ _ h => h) hx0)) ?_
 rintro _ w5 ⟨A5, c5, rfl, ho5, hE5⟩
 obtain ⟨F5, hp, hs5, hn5, hl5⟩ := hp.frz hE5
 refine so ?_
 refine H1 0 hp (h := fun w6 hp hC6 => so ?_)
 refine Ce (rCopyI_ok (GS.keep hp.chg (fun _ _ _ h => h) hx1) hsz) ?_
 rintro _ w7 ⟨A7, c7, rfl, ho7, hE7⟩
 obtain ⟨F7, hp, hs7, hn7, hl7⟩ := hp.frz hE7
 refine so ?_
 refine H1 0 hp (h := fun w8 hp hC8 => so ?_)
 refine Hs 1 hp (h := fun w9 hp hC9 => so ?_)
 refine wk_postR (rs := [.cell 2 42]) (.inl rfl) results40 ⟨_, _, _, rfl, rfl, loadVar_agg ag42 (hp.blkAt (i := 1) rfl).at0 rfl, rfl⟩ ?_
 have hz : w.heap.size ≤ w4.heap.size ∧ w4.heap.size ≤ w6.heap.size := by have := hE1.size; have := hE2.size; have := hE3.size; have := hC4.size; have := hE5.size; have := hC6.size; omega
 have k5 := (mv : Frz F5 F7 w5 w9).chg
 have k7 := (mv : Frz F7 F7 w7 w9).chg
 exact ⟨_, rfl, _, rfl, ⟨hIx, A5, c5, A7, c7, rfl, (GS.keep k5 (fun b hb hs hn => hn (hn5 b hs hb)) ho5).mono (fun b _ h => Nat.le_trans hz.1 h), (GS.keep k7 (fun b hb hs hn => hn (hn7 b hs hb)) ho7).mono (fun b _ h => Nat.le_trans (Nat.le_trans hz.1 hz.2) h)⟩, hp.chg⟩
end Go.Proofs.Ytgheaedligkhoaa
