/- What each of these functions computes, for every argument that its theorem names; a part of what the proof of JudgeFinds stands on. -/
import Derived.Test.YtgheaedligkhoaaAab
import Derived.Test.YtgheaedligkhoaaAac
import Derived.Test.YtgheaedligkhoaaAad
import Derived.Test.YtgheaedligkhoaaAae
import Derived.Test.YtgheaedligkhoaaAaf
import Derived.Test.YtgheaedligkhoaaAag
import Derived.Test.YtgheaedligkhoaaAah
import Derived.Test.YtgheaedligkhoaaAal
import Derived.Test.YtgheaedligkhoaaAam
import Derived.Test.YtgheaedligkhoaaAaq
import Derived.Test.YtgheaedligkhoaaAar
namespace Go.Proofs.Ytgheaedligkhoaa
open Go.RowKit Go.Eng Go.Eng _root_.Go.Proofs.Try
set_option maxRecDepth 100000
variable {w0 w : World} {M0 Fz : Nat → Prop} {H : List It} {A : Option Addr} {c : Nat}
theorem rfind_all {H : List HOp} {first : List UInt8} (hl14 : H.length ≤ 14) (N : Nat) : RFind H first N := by
 induction N using Nat.strongRecOn with
 | _ N ih =>
  intro w0 w M0 Fz F gT T AT cT p last A0 A1 B c0 c1 d hp h hf ho hP hL hM hN
  exact rfind_step hl14 ih hp h hf ho hP hL hM hN
theorem plinear_ok {A0 A1 : Option Addr} {c0 c1 : Nat} {H : List HOp} {first : List UInt8} {S S2 : Nat → Prop} {w : World} (h : HS S w A0 c0 H) (hf : BS S2 w A1 c1 first) : Ret Try.prog 63 #[.slice A0 H.length c0, .slice A1 first.length c1] w (fun v w' => v = .tuple #[.bool (ordS H first).2.1, .int .i64 (ordS H first).2.2] ∧ Ext w w') := by
 refine ret_of_wk Try.func63 rfl Try.ntmps63 (Nat.le_of_ble_eq_true rfl) ?_
 refine wc_seq ?_
 refine wc_region ?_
 refine wl_assign (by decide) rfl ?_
 refine wl_assign (by decide) rfl ?_
 refine wl_nil ?_
 refine wk_norm ?_
 refine wc_seq ?_
 refine wc_region ?_
 refine wl_move (by decide) rfl ?_
 refine wl_move (by decide) rfl ?_
 have hcl := porder_ok h hf
 refine wl_call (by decide) Try.cl81 rfl hcl ?_
 clear hcl
 rintro _ w1 ⟨A, c, rfl, ho, hE⟩
 refine wl_move (by decide) rfl ?_
 refine wl_extract (by decide) rfl rfl ?_
 refine wl_extract (by decide) rfl rfl ?_
 refine wl_extract (by decide) rfl rfl ?_
 refine wl_assign (by decide) rfl ?_
 refine wl_assign (by decide) rfl ?_
 refine wl_assign (by decide) rfl ?_
 refine wl_nil ?_
 refine wk_norm ?_
 refine wc_seq ?_
 refine wc_region ?_
 refine wl_move (by decide) rfl ?_
 refine wl_move (by decide) rfl ?_
 refine wl_assign (by decide) rfl ?_
 refine wl_assign (by decide) rfl ?_
 refine wl_nil ?_
 refine wk_norm ?_
 refine wc_ret ?_
 refine wk_post2 (.inl rfl) Try.results63 rfl rfl ?_
 exact ⟨_, rfl, rfl, hE⟩
end Go.Proofs.Ytgheaedligkhoaa
namespace Go.Proofs.Ytgheaedligkhoaa
open Go.RowKit Go.Eng _root_.Go.Proofs.Try Go.Eng _root_.Go.Proofs.Try
set_option maxRecDepth 100000
variable {w0 w : World} {M0 Fz : Nat → Prop} {H : List It} {A : Option Addr} {c : Nat}
set_option maxHeartbeats 8000000 in
theorem runs_ok {w0 w : World} {M0 Fz : Nat → Prop} {H : List It} {q : JMem} {p : Pln} {ln : Nat} {here : Int} {v : JVal} {cs : List Value} {e : Evt} (hj : JW w0 M0 Fz w H q p ln here v) (he : evtR.rd Fz w cs e) (hM : PlnMay p) (hP : PlnI p) (hb : (v.jobs e.group e.epoch e.seq e.a).length ≤ 32768) : Ret prog 33 #[pt q.g 0, .agg cs.toArray] w (JA w0 M0 Fz w H q p ln here (V5 p v e) 5 (u5 v e)) := by
 obtain ⟨f1, f2, f3, f4, f5, f6, f7, r4, r5, hp, hr⟩ := hj
 have hef := he
 obtain ⟨hI, A0, c0, A1, c1, A2, c2, A3, c3, rfl, h0, h1, h2, h3⟩ := he
 obtain ⟨lk, hlk⟩ := kofR (g := e.group) (ep := e.epoch) (s := e.seq) (n := e.a) hI.2.2.2.2.1 hI.2.2.2.2.2.1 hI.2.2.2.2.2.2.1 hI.2.2.1
 dsimp only [jH, lookC] at hp
 refine ret_of_wk func33 rfl ntmps33 leB_ ?_
 refine so ?_
 refine Bx hp (h := fun g3 w1 hp E1 => so ?_)
 refine Cd ?_ ?_ <;> intro k3 <;> refine so ?_
 ·refine Pt ⟨_, rfl, Fz, mv, .inr ⟨fun h => k3 h.1, rfl, ?_⟩⟩
  rw [u5, if_neg k3]
  exact ⟨_, _, _, _, _, _, _, _, _, hp.tail, hr.to mv⟩
 replace k3 : e.kind = 3 := Decidable.not_not.1 k3
 refine wdT 6 [.eq (.agg (evC e A0 c0 A1 c1 A2 c2 A3 c3).toArray), .eq (spotV e.group e.epoch e.seq), .eq (pt g3 2), .eq (iv e.a), .eq (ranV e.group e.epoch e.seq e.a), .nb w1.heap.size 91 [iv 0, iv 0, iv 0, iv 0]] ?_ ?_
 ·refine ⟨?_, ?_, ?_, ?_, ?_, ?_, trivial⟩ <;> intro F wF hER hk
  ·exact wl_hloadX _ (i := 0) (by decide) ag46 (hk.qi 3) (hp.ext hER) rfl rfl rfl qz
  ·have ea := hk.qe 0
   refine Cl_ (xs := [.tmp 12]) (by kernel_rfl) (by simp only [evs, ev, ea]) (spot_ok (rdTo hef (F := Fz) (w' := wF))) ?_
   rintro _ wc ⟨rfl, hEc⟩
   exact qz ⟨hEc, rfl⟩
  ·exact Fd_ 2 fld46_2 (hk.qi 3) rfl qz
  ·exact Hl_ 0 sc3 (hk.qe 2) (hp.ext hER) rfl rfl qz
  ·have ea := hk.qe 1
   have eb := hk.qe 3
   refine wl_builtS (ps := [(0, .tmp 13), (1, .tmp 15)]) (by decide) bld91 (by simp only [evp, ev, ea, eb]; first | done | rfl) rfl ?_
   exact qz
  ·refine wl_alloc (by decide) ZrC.h ?_
   rintro g wg rfl hb hEg
   exact qz ⟨hEg, _, rfl, hER.size, hb⟩
 intro F wD hED hini hdo
 obtain ⟨u5, e5, g5, rfl, hg5, hb5⟩ := hdo 5 5 (by decide) rfl
 have e16 := dr hdo 4
 refine wl_drop [(0, _), (3, _), (4, _), (5, _), (16, _)] ⟨di hini 0, di hini 3, di hini 4, e5, e16, trivial⟩ ?_
 replace hp := hp.add hED (x := itB g5 91 [iv 0, iv 0, iv 0, iv 0]) (K := fun b => b = g5) ⟨hb5, fun _ => Iff.rfl⟩ (fun b hb => by rw [hb]; exact hg5)
 clear hini hdo e5 e16
 refine Hs 0 hp (h := fun w2 hp C2 => ?_)
 have hz : ∃ A c rs, (f4 (ranV e.group e.epoch e.seq e.a)).getD (.slice none 0 0) = .slice A (v.jobs e.group e.epoch e.seq e.a).length c ∧ HP w0 M0 Fz w2 (itR 96 14 A (v.jobs e.group e.epoch e.seq e.a).length c (rs : List (List Value)).flatten :: itMR prog 91 96 14 q.m4 f4 (updG r4 (ranV e.group e.epoch e.seq e.a) none) :: itB g5 91 [iv e.group, iv e.epoch, iv e.seq, iv e.a] :: itB g3 46 (evC e A0 c0 A1 c1 A2 c2 A3 c3) :: jT p q ln here v.time f1 f2 f3 f5 f6 f7 r5 H) ∧ RF jobR Fz w2 rs (v.jobs e.group e.epoch e.seq e.a) := by
  replace hp := (hp.up 6 rfl).as_ (H' := itMR prog 91 96 14 q.m4 f4 r4 :: itB g5 91 [iv e.group, iv e.epoch, iv e.seq, iv e.a] :: itB g3 46 (evC e A0 c0 A1 c1 A2 c2 A3 c3) :: jT p q ln here v.time f1 f2 f3 f5 f6 f7 r5 H) rfl
  have hr2 := hr.to (F := Fz) (w' := w2) mv
  rcases hr2.j.2 e.group e.epoch e.seq e.a with ⟨a1, a2, a3⟩ | ⟨A, c, rs, a1, a2, a3⟩
  ·refine ⟨none, 0, [], by rw [a1, a2]; rfl, ?_, by rw [a1]; exact RF.nil _ _ _⟩
   rw [updG_none a3, a1]
   exact hp.noRow 96 14
  ·obtain ⟨A', n', c', b1, hp⟩ := hp.lend a2
   rw [a1] at b1
   cases b1
   exact ⟨A, c, rs, by rw [a1]; rfl, hp, a3⟩
 clear hp
 obtain ⟨A, c, rs, hcur, hp, hR⟩ := hz
 have hF2 : Frz Fz Fz w w2 := mv
 refine sl ?_
 refine wc_seq_cut (fun L' w' => ∃ (F : Nat → Prop) (A : Option Addr) (c : Nat) (rs : List (List Value)), L' = [(0, pt q.g 0), (3, pt g3 0), (4, iv 0), (5, pt g5 0)] ∧ HP w0 M0 F w' (itMR prog 91 96 14 q.m4 (updF f4 (ranV e.group e.epoch e.seq e.a) (.slice A (v.jobs e.group e.epoch e.seq e.a ++ [(⟨e.wish, e.ans⟩ : Job)]).length c)) (updG r4 (ranV e.group e.epoch e.seq e.a) (some rs.flatten)) :: itB g5 91 [iv e.group, iv e.epoch, iv e.seq, iv e.a] :: itB g3 46 (evC e A0 c0 A1 c1 A2 c2 A3 c3) :: jT p q ln here v.time f1 f2 f3 f5 f6 f7 r5 H) ∧ RF jobR F w' rs (v.jobs e.group e.epoch e.seq e.a ++ [⟨e.wish, e.ans⟩]) ∧ Frz Fz F w2 w') ?_ ?_
 ·intro K hK
  dsimp only [jT, lookC] at hp
  refine sl ?_
  refine wdX 11 [.eq (pt q.g 0), .eq (pt q.g 0), .eq (pt q.g 11), .eq (.map (some q.m4)), .eq (ranV e.group e.epoch e.seq e.a), .eq (pt g3 39), .eq (.agg (wsC e.wish A0 c0 A1 c1).toArray), .eq (pt g3 49), .eq (.agg (anC e.ans A2 c2 A3 c3).toArray), .eq (.agg (wsC e.wish A0 c0 A1 c1 ++ anC e.ans A2 c2 A3 c3).toArray), .tmpR w2.heap.size 96 14 1 (wsC e.wish A0 c0 A1 c1 ++ anC e.ans A2 c2 A3 c3)] ?_ ?_
  ·refine ⟨?_, ?_, ?_, ?_, ?_, ?_, ?_, ?_, ?_, ?_, ?_, trivial⟩ <;> intro F wF hER hk
   ·exact dm (hk.qi 0)
   ·exact wl_nilCheck (by decide) (hk.qe 0) qz
   ·exact Fd_ 11 fld64_7 (hk.qe 1) rfl qz
   ·exact Hl_ 4 sc59 (hk.qe 2) (hp.ext hER) rfl rfl qz
   ·exact wl_hloadX _ (i := 2) (by decide) ag91 (hk.qi 5) (hp.ext hER) rfl rfl rfl qz
   ·exact Fd_ 39 fld46_8 (hk.qi 3) rfl qz
   ·exact wl_hloadA (by decide) ag42 (hk.qe 5) (hp.ext hER) (i := 3) rfl rfl qz
   ·exact Fd_ 49 fld46_9 (hk.qi 3) rfl qz
   ·exact wl_hloadA (by decide) ag44 (hk.qe 7) (hp.ext hER) (i := 3) rfl rfl qz
   ·have ea := hk.qe 6
    have eb := hk.qe 8
    refine wl_builtS (ps := [(0, .tmp 24), (1, .tmp 26)]) (by decide) bld96 (by simp only [evp, ev, ea, eb]; first | done | rfl) rfl ?_
    exact qz
   ·have ea := hk.qe 9
    refine wl_bslice (size := 14) (xs := [.tmp 27]) (vs := [.agg (wsC e.wish A0 c0 A1 c1 ++ anC e.ans A2 c2 A3 c3).toArray]) (by decide) sl94 rfl (by simp only [evs, ev, ea]; first | done | rfl) rfl (by intro v hv; rw [List.mem_singleton.1 hv]; rfl) leB_ 0 (Nat.zero_le _) ?_
    rintro gt wt hgt hot hEt
    exact qz ⟨hEt, gt, rfl, by rw [hgt]; exact hER.size, hot⟩
  intro F wD hE hini hdo fuel
  obtain ⟨u28, e28, gt, rfl, hgt, hot⟩ := hdo 10 28 (Nat.lt_of_lt_of_eq (by decide) rfl) rfl
  have e20 := dr hdo 3
  have e21 := dr hdo 4
  have i0 := di hini 0
  have i3 := di hini 3
  have i4 := di hini 4
  have i5 := di hini 5
  obtain ⟨F2, hp, s2, n2, _⟩ := hp.frz hE
  have fg : F2 gt := n2 gt hgt hot.lt0
  have hat := hot.at0
  have fD : Frz Fz F2 w2 wD := mv
  clear hini hdo
  refine wa_step [11] (by kernel_rfl) (by decide) (fun i hi => ?_)
  obtain rfl : i = 11 := by simpa using hi
  refine ⟨_, rfl, rfl, ?_⟩
  refine wl_rmapEntry (i := 1) (by decide) (keyed_of kb91) (e := 94) (z := .slice none 0 0) (by kernel_rfl) (by kernel_rfl) e20 e21 hlk hp rfl (updG_same _ _ _) (fun w3 b hp hB C3 => ?_)
  rw [hcur] at hp ⊢
  replace hp := hp.as_ (H' := itR 96 14 A (v.jobs e.group e.epoch e.seq e.a).length c rs.flatten :: itMR prog 91 96 14 q.m4 (updF f4 (ranV e.group e.epoch e.seq e.a) (.slice A (v.jobs e.group e.epoch e.seq e.a).length c)) (updG r4 (ranV e.group e.epoch e.seq e.a) none) :: itB g5 91 [iv e.group, iv e.epoch, iv e.seq, iv e.a] :: itB g3 46 (evC e A0 c0 A1 c1 A2 c2 A3 c3) :: jT p q ln here v.time f1 f2 f3 f5 f6 f7 r5 H) rfl
  have hat3 := hat.keep C3 (fun _ hn => hn fg)
  have hoff := hp.rowOff (i := 0) (j := 1) rfl rfl (by decide)
  refine wa_nil ?_
  refine wa_step [12, 14] (by kernel_rfl) (by decide) (fun i hi => ?_)
  have hi' : i = 12 ∨ i = 14 := by simpa using hi
  rcases hi' with rfl | rfl
  ·refine ⟨_, rfl, rfl, ?_⟩
   refine wl_extract (i := 0) (by decide) rfl rfl ?_
   refine wa_nil ?_
   refine wa_step [13, 14] (by kernel_rfl) (by decide) (fun i hi => ?_)
   have hi' : i = 13 ∨ i = 14 := by simpa using hi
   rcases hi' with rfl | rfl
   ·refine ⟨_, rfl, rfl, ?_⟩
    refine wl_happendK (i := 0) (m := 1) (size := 14) (news := wsC e.wish A0 c0 A1 c1 ++ anC e.ans A2 c2 A3 c3) (by decide) sl94 rfl e28 hp rfl rfl (fun b hb => by cases hb; exact hat3) (by simp) (List.all_eq_true.1 rfl) (by omega) ?_
    rintro A4 c4 w4 hp C4 K4
    refine wa_nil ?_
    refine wa_step [14] (by kernel_rfl) (by decide) (fun i hi => ?_)
    obtain rfl : i = 14 := by simpa using hi
    refine ⟨_, rfl, rfl, ?_⟩
    refine wl_extract (i := 1) (by decide) rfl rfl ?_
    refine wa_nil ?_
    refine wa_step [15] (by kernel_rfl) (by decide) (fun i hi => ?_)
    obtain rfl : i = 15 := by simpa using hi
    refine ⟨_, rfl, rfl, ?_⟩
    refine wl_drop [(0, _), (3, _), (4, _), (5, _), (20, _), (30, _), (31, _)] ⟨i0, i3, i4, i5, e20, rfl, rfl, trivial⟩ ?_
    refine wl_rentS (i := 1) (key := ranV e.group e.epoch e.seq e.a) rfl rfl rfl hp rfl (updG_same _ _ _) (hB.keep K4 hoff) (fun w5 hp C5 => ?_)
    refine wa_nil ?_
    refine wa_end (by kernel_rfl) ?_
    refine Kd [0, 3, 4, 5] hK ⟨F2, A4, c4, rs ++ [wsC e.wish A0 c0 A1 c1 ++ anC e.ans A2 c2 A3 c3], rfl, ?_, ?_, mv⟩
    ·have hg := HP.give (key := ranV e.group e.epoch e.seq e.a) hp (updF_same _ _ _) (updG_same _ _ _)
     rw [updF_updF, updG_updG] at hg
     rw [flat_snoc, List.append_nil, List.length_append]
     exact hg
    ·exact RF.append (hR.to mv) (RF.one (r := jobR) ⟨hI.job, A0, c0, A1, c1, A2, c2, A3, c3, rfl, h0.to (Frz.bF (mv : Frz Fz F2 w2 w5) hF2), h1.to (Frz.bF (mv : Frz Fz F2 w2 w5) hF2), h2.to (Frz.bF (mv : Frz Fz F2 w2 w5) hF2), h3.to (Frz.bF (mv : Frz Fz F2 w2 w5) hF2)⟩)
   ·refine ⟨_, rfl, rfl, ?_⟩
    refine wl_extract (i := 1) (by decide) rfl rfl ?_
    refine wa_nil ?_
    refine wa_step [13] (by kernel_rfl) (by decide) (fun i hi => ?_)
    obtain rfl : i = 13 := by simpa using hi
    refine ⟨_, rfl, rfl, ?_⟩
    refine wl_happendK (i := 0) (m := 1) (size := 14) (news := wsC e.wish A0 c0 A1 c1 ++ anC e.ans A2 c2 A3 c3) (by decide) sl94 rfl e28 hp rfl rfl (fun b hb => by cases hb; exact hat3) (by simp) (List.all_eq_true.1 rfl) (by omega) ?_
    rintro A4 c4 w4 hp C4 K4
    refine wa_nil ?_
    refine wa_step [15] (by kernel_rfl) (by decide) (fun i hi => ?_)
    obtain rfl : i = 15 := by simpa using hi
    refine ⟨_, rfl, rfl, ?_⟩
    refine wl_drop [(0, _), (3, _), (4, _), (5, _), (20, _), (30, _), (31, _)] ⟨i0, i3, i4, i5, e20, rfl, rfl, trivial⟩ ?_
    refine wl_rentS (i := 1) (key := ranV e.group e.epoch e.seq e.a) rfl rfl rfl hp rfl (updG_same _ _ _) (hB.keep K4 hoff) (fun w5 hp C5 => ?_)
    refine wa_nil ?_
    refine wa_end (by kernel_rfl) ?_
    refine Kd [0, 3, 4, 5] hK ⟨F2, A4, c4, rs ++ [wsC e.wish A0 c0 A1 c1 ++ anC e.ans A2 c2 A3 c3], rfl, ?_, ?_, mv⟩
    ·have hg := HP.give (key := ranV e.group e.epoch e.seq e.a) hp (updF_same _ _ _) (updG_same _ _ _)
     rw [updF_updF, updG_updG] at hg
     rw [flat_snoc, List.append_nil, List.length_append]
     exact hg
    ·exact RF.append (hR.to mv) (RF.one (r := jobR) ⟨hI.job, A0, c0, A1, c1, A2, c2, A3, c3, rfl, h0.to (Frz.bF (mv : Frz Fz F2 w2 w5) hF2), h1.to (Frz.bF (mv : Frz Fz F2 w2 w5) hF2), h2.to (Frz.bF (mv : Frz Fz F2 w2 w5) hF2), h3.to (Frz.bF (mv : Frz Fz F2 w2 w5) hF2)⟩)
  ·refine ⟨_, rfl, rfl, ?_⟩
   refine wl_extract (i := 1) (by decide) rfl rfl ?_
   refine wa_nil ?_
   refine wa_step [12] (by kernel_rfl) (by decide) (fun i hi => ?_)
   obtain rfl : i = 12 := by simpa using hi
   refine ⟨_, rfl, rfl, ?_⟩
   refine wl_extract (i := 0) (by decide) rfl rfl ?_
   refine wa_nil ?_
   refine wa_step [13] (by kernel_rfl) (by decide) (fun i hi => ?_)
   obtain rfl : i = 13 := by simpa using hi
   refine ⟨_, rfl, rfl, ?_⟩
   refine wl_happendK (i := 0) (m := 1) (size := 14) (news := wsC e.wish A0 c0 A1 c1 ++ anC e.ans A2 c2 A3 c3) (by decide) sl94 rfl e28 hp rfl rfl (fun b hb => by cases hb; exact hat3) (by simp) (List.all_eq_true.1 rfl) (by omega) ?_
   rintro A4 c4 w4 hp C4 K4
   refine wa_nil ?_
   refine wa_step [15] (by kernel_rfl) (by decide) (fun i hi => ?_)
   obtain rfl : i = 15 := by simpa using hi
   refine ⟨_, rfl, rfl, ?_⟩
   refine wl_drop [(0, _), (3, _), (4, _), (5, _), (20, _), (30, _), (31, _)] ⟨i0, i3, i4, i5, e20, rfl, rfl, trivial⟩ ?_
   refine wl_rentS (i := 1) (key := ranV e.group e.epoch e.seq e.a) rfl rfl rfl hp rfl (updG_same _ _ _) (hB.keep K4 hoff) (fun w5 hp C5 => ?_)
   refine wa_nil ?_
   refine wa_end (by kernel_rfl) ?_
   refine Kd [0, 3, 4, 5] hK ⟨F2, A4, c4, rs ++ [wsC e.wish A0 c0 A1 c1 ++ anC e.ans A2 c2 A3 c3], rfl, ?_, ?_, mv⟩
   ·have hg := HP.give (key := ranV e.group e.epoch e.seq e.a) hp (updF_same _ _ _) (updG_same _ _ _)
    rw [updF_updF, updG_updG] at hg
    rw [flat_snoc, List.append_nil, List.length_append]
    exact hg
   ·exact RF.append (hR.to mv) (RF.one (r := jobR) ⟨hI.job, A0, c0, A1, c1, A2, c2, A3, c3, rfl, h0.to (Frz.bF (mv : Frz Fz F2 w2 w5) hF2), h1.to (Frz.bF (mv : Frz Fz F2 w2 w5) hF2), h2.to (Frz.bF (mv : Frz Fz F2 w2 w5) hF2), h3.to (Frz.bF (mv : Frz Fz F2 w2 w5) hF2)⟩)
 rintro _ wb ⟨F, A, c, rs, rfl, hp, hR, hFb⟩
 have hFw : Frz Fz F w wb := Frz.bF hFb hF2
 have hr2 := hr.to (F := F) (w' := wb) hFw
 have hj5 := hr2.j.up (A := A) (c := c) hR
 have hM2 := hM
 unfold PlnMay at hM2
 dsimp only [jT, lookC] at hp
 refine so ?_
 have hlen : (v.jobs e.group e.epoch e.seq e.a ++ [(⟨e.wish, e.ans⟩ : Job)]).length = (v.jobs e.group e.epoch e.seq e.a).length + 1 := by simp
 refine wdP 9 hp (fun wD hp hED => by refine pm ?_; exact .op rfl (lkV (e := 94) (z := .slice none 0 0) (u := .slice A (v.jobs e.group e.epoch e.seq e.a ++ [(⟨e.wish, e.ans⟩ : Job)]).length c) (by rw [updF_same]; rfl) (keyed_of kb91) hlk (hp.mapR (i := 0) rfl) (wl_nil qp)) pl) fun wD hp hED => so ?_
 refine Cx hp (jnodes_ok (Sp := fun _ => True) (p := p) ⟨hP, rfl⟩ (by omega) (by omega) (by omega)) (h := fun w6 hp E6 => so ?_)
 have hnp : (nodesP p) ≤ 28 := hM2.2.2.2.2.1
 refine wk_re (k := 6) (v := iv ((v.jobs e.group e.epoch e.seq e.a).length : Int)) rfl (congrArg (fun z => Value.int .i64 z) (by omega)) ?_
 refine Lp [0, 3, 6, 44, 45] (fun L' w' mes => ∃ k : Nat, L' = [(0, pt q.g 0), (3, pt g3 0), (6, iv (((v.jobs e.group e.epoch e.seq e.a).length : Nat) : Int)), (44, iv (nodesP p)), (45, iv (k : Int))] ∧ (k : Int) ≤ nodesP p ∧ Ext w6 w' ∧ (∀ j, j < k → p5v (upj v e) e ((j : Int) + 1) = false) ∧ mes = (nodesP p).toNat - k) ((nodesP p).toNat - 0) ⟨0, rfl, by have := nodesP_le hM2.1 hM2.2.1; unfold nodesP; omega, Chg.refl _ _, fun j hj => absurd hj (Nat.not_lt_zero _), rfl⟩ ?_
 rintro _ wr _ ⟨k, rfl, hk, hEr, hno, rfl⟩ KL hKL
 have hp6 := hp
 clear hp
 have hp := hp6.ext hEr
 refine so ?_
 refine Cd ?_ ?_ <;> intro hc <;> refine so ?_
 ·have hkI : i64 ((k : Int) + 1) := by unfold i64; omega
  obtain ⟨lk2, hlk2⟩ := kofR (g := e.group) (ep := e.epoch) (s := e.seq) (n := (k : Int) + 1) hI.2.2.2.2.1 hI.2.2.2.2.2.1 hI.2.2.2.2.2.2.1 hkI
  have hjr : jobsR F wr _ _ (upj v e) := ⟨hj5.1, fun g ep s n => (hj5.2 g ep s n).imp id (fun ⟨A, c, rs, a1, a2, a3⟩ => ⟨A, c, rs, a1, a2, a3.to mv⟩)⟩
  obtain ⟨AQ, dQ, hv2, hg2⟩ := jobsAt hp (i := 0) rfl hjr e.group e.epoch e.seq ((k : Int) + 1)
  have hm2 := hg2.mx
  refine wdP 11 hp (fun wD hp hED => by refine pm ?_; exact PLe (spot_ok (rdTo hef (F := F) (w' := wD))) (h := by refine pm ?_; exact .op rfl (wl_builtS (ps := [(0, .tmp 53), (1, .tmp 55)]) (by decide) bld91 rfl rfl (wl_nil qp)) (by refine pm ?_; exact .op rfl (lkV (e := 94) (z := .slice none 0 0) hv2 (keyed_of kb91) hlk2 (hp.mapR (i := 0) rfl) (wl_nil qp)) pl))) fun wE hp hEE => so ?_
  by_cases hlt : (v.jobs e.group e.epoch e.seq e.a).length < (upj v e e.group e.epoch e.seq ((k : Int) + 1)).length
  ·obtain ⟨aj, B0, b0, B1, b1, B2, b2, B3, b3, hA2, hat, hIx, g0, g1, g2, g3'⟩ := jobR_el hg2 _ hlt
   generalize hxj : (upj v e e.group e.epoch e.seq ((k : Int) + 1)).getD (v.jobs e.group e.epoch e.seq e.a).length job0 = x at hat hIx g0 g1 g2 g3'
   have hatw : AtF (fun _ => True) wr (aj.add ((v.jobs e.group e.epoch e.seq e.a).length * 14)) (wsC x.wish B0 b0 B1 b1) := hat.sub 0 10
   have hata : AtF (fun _ => True) wr ((aj.add ((v.jobs e.group e.epoch e.seq e.a).length * 14)).add 10) (anC x.ans B2 b2 B3 b3) := hat.sub 10 4
   have hwx : wishR.rd (fun _ => True) wr (wsC x.wish B0 b0 B1 b1) x.wish := ⟨hIx.wish, B0, b0, B1, b1, rfl, g0, g1⟩
   have hax : ansR.rd (fun _ => True) wr (anC x.ans B2 b2 B3 b3) x.ans := ⟨hIx.ans, B2, b2, B3, b3, rfl, g2, g3'⟩
   have hwe : wishR.rd Fz w (wsC e.wish A0 c0 A1 c1) e.wish := ⟨hI.wish, A0, c0, A1, c1, rfl, h0, h1⟩
   have hae : ansR.rd Fz w (anC e.ans A2 c2 A3 c3) e.ans := ⟨hI.ans, A2, c2, A3, c3, rfl, h2, h3⟩
   have hp5 : p5v (upj v e) e ((k : Int) + 1) = decide (¬ (x.wish = e.wish ∧ x.ans = e.ans)) := by
    unfold p5v
    rw [up_own, hlen, Nat.add_sub_cancel, hxj]
    exact decide_eq_decide.2 ⟨fun h => h.2, fun h => ⟨by omega, h⟩⟩
   have hany : p5v (upj v e) e ((k : Int) + 1) = true → (namesP p).any (p5v (upj v e) e) = true := fun h => by
    unfold namesP
    rw [List.any_map, List.any_eq_true]
    exact ⟨k, by rw [List.mem_range]; omega, h⟩
   by_cases q2 : x.wish = e.wish
   ·by_cases q3 : x.ans = e.ans
    ·refine wdP 26 hp (fun wD hp hED => by refine pm ?_; exact PLeg (jSameW_ok (wishR.keep (hEE.trans hED) (fun _ _ _ x => x) hwx) (rdTo hwe (F := F) (w' := wD))) (h := by refine pm ?_; exact PLeg (jSameA_ok (ansR.keep (hEE.trans hED) (fun _ _ _ x => x) hax) (rdTo hae (F := F) (w' := wD))) (h := pl))) fun wG hp hEG => so ?_
     refine aF (so ?_)
     refine Kl [0, 3, 6, 44, 45] hKL ((nodesP p).toNat - (k + 1)) ⟨k + 1, rfl, by omega, me, fun j hj => ?_, rfl⟩ (by omega)
     by_cases hjk : j < k
     ·exact hno j hjk
     ·obtain rfl : j = k := by omega
      rw [hp5]
      exact decide_eq_false (fun h => h ⟨q2, q3⟩)
    ·refine wdP 26 hp (fun wD hp hED => by refine pm ?_; exact PLeg (jSameW_ok (wishR.keep (hEE.trans hED) (fun _ _ _ x => x) hwx) (rdTo hwe (F := F) (w' := wD))) (h := by refine pm ?_; exact PLeg (jSameA_ok (ansR.keep (hEE.trans hED) (fun _ _ _ x => x) hax) (rdTo hae (F := F) (w' := wD))) (h := pl))) fun wG hp hEG => so ?_
     refine aT (so ?_)
     exact Pt ⟨_, rfl, F, mv, .inl ⟨⟨k3, hany (by rw [hp5]; exact decide_eq_true (fun h => q3 h.2))⟩, rfl, _, hp⟩⟩
   ·refine wdP 26 hp (fun wD hp hED => by refine pm ?_; exact PLeg (jSameW_ok (wishR.keep (hEE.trans hED) (fun _ _ _ x => x) hwx) (rdTo hwe (F := F) (w' := wD))) (h := pl)) fun wG hp hEG => so ?_
    refine aT (so ?_)
    exact Pt ⟨_, rfl, F, mv, .inl ⟨⟨k3, hany (by rw [hp5]; exact decide_eq_true (fun h => q2 h.1))⟩, rfl, _, hp⟩⟩
  ·refine wdP 26 hp (fun wD hp hED => pl) fun wG hp hEG => so ?_
   refine aF (so ?_)
   refine Kl [0, 3, 6, 44, 45] hKL ((nodesP p).toNat - (k + 1)) ⟨k + 1, rfl, by omega, me, fun j hj => ?_, rfl⟩ (by omega)
   by_cases hjk : j < k
   ·exact hno j hjk
   ·obtain rfl : j = k := by omega
    unfold p5v
    rw [decide_eq_false]
    rw [up_own, hlen]
    omega
 ·have hno2 : (namesP p).any (p5v (upj v e) e) = false := by
   unfold namesP
   rw [List.any_map, List.any_eq_false]
   intro j hj
   rw [List.mem_range] at hj
   simp only [Function.comp]
   rw [hno j (by omega)]
   decide
  have hr3 := hr2.to (F := F) (w' := wr) mv
  have hjr : jobsR F wr _ _ (upj v e) := ⟨hj5.1, fun g ep s n => (hj5.2 g ep s n).imp id (fun ⟨A, c, rs, a1, a2, a3⟩ => ⟨A, c, rs, a1, a2, a3.to mv⟩)⟩
  refine Pt ⟨_, rfl, F, mv, .inr ⟨fun h => (by unfold V5 at h; rw [hno2] at h; cases h.2), rfl, ?_⟩⟩
  rw [u5, if_pos k3]
  replace hp := (hp.up 1 rfl).tail
  replace hp := (hp.up 1 rfl).tail
  exact ⟨_, _, _, _, _, _, _, _, _, HP.comm [itMR prog 91 96 14 q.m4 _ _] [itB q.g 64 (lookC p q ln here v.time), itMR prog 3 0 0 q.m1 f1 nR, itMR prog 89 0 0 q.m2 f2 nR, itMR prog 89 0 0 q.m3 f3 nR] _ hp, hr3.d, hr3.b, hr3.m, hjr, hr3.s, hr3.f, hr3.c⟩
theorem firstR.up {f : Value → Option Value} {t : Int → Option Dig} (h : firstR f t) (g : Int) (d : Dig) : firstR (updF f (iv g) (digV d)) (upf t g d) := by
 intro a
 unfold upf
 by_cases hk : a = g
 ·subst hk
  rw [updF_same, if_pos rfl]
  rfl
 ·rw [updF_other _ (fun hs => hk (by simpa using hs)), if_neg hk]
  exact h a
noncomputable def anJ (p : Pln) (l : List Evt) (i : Nat) (v : JVal) (e : Evt) : Nat → Int
 | 0 => open Classical in if V1 p v e then 1 else 0
 | 1 => open Classical in if V2 v e then 2 else 0
 | 2 => open Classical in if R3 p e then 3 else 0
 | 3 => open Classical in if V4 (stJ v e 3) e then 4 else 0
 | 4 => open Classical in if V5 p (stJ v e 4) e then 5 else 0
 | 5 => open Classical in if V6 (stJ v e 5) e then 6 else 0
 | 6 => open Classical in if V7 (stJ v e 6) e then 7 else 0
 | 7 => open Classical in if V8 (stJ v e 7) e then 8 else 0
 | 8 => open Classical in if V9 (stJ v e 8) e then 9 else if R10 (l.take i) e then 10 else 0
 | _ => open Classical in if P11 p (l.take (i + 1)) e then 11 else 0
def valF (v : JVal) (e : Evt) : JVal := { stJ v e 10 with time := e.time }
theorem u5_oth (v : JVal) (e : Evt) : (u5 v e).sld = v.sld ∧ (u5 v e).calls = v.calls ∧ (u5 v e).bat = v.bat ∧ (u5 v e).mrk = v.mrk ∧ (u5 v e).down = v.down ∧ (u5 v e).frst = v.frst ∧ (u5 v e).time = v.time := by unfold u5; split <;> exact ⟨rfl, rfl, rfl, rfl, rfl, rfl, rfl⟩
theorem stJ_jobs (v : JVal) (e : Evt) : (stJ v e 10).jobs = (u5 (u4 (u2 v e) e) e).jobs := (u9_oth _ e).1.trans ((u8_oth _ e).1.trans ((u7_oth _ e).1.trans (u6_oth _ e).1))
theorem stJ_sld (v : JVal) (e : Evt) : (stJ v e 10).sld = (u6 (stJ v e 5) e).sld := (u9_oth _ e).2.2.2.2.2.1.trans ((u8_oth _ e).2.2.2.2.2.1.trans (u7_oth _ e).2.2.2.2.2.1)
theorem stJ_frst (v : JVal) (e : Evt) : (stJ v e 10).frst = (u7 (stJ v e 6) e).frst := (u9_oth _ e).2.1.trans (u8_oth _ e).2.1
theorem jobs_runs (e : Evt) (n : Int) (l : List Evt) : jobsS n e.group e.epoch e.seq l = (runsE e n l).map fun x => ⟨x.wish, x.ans⟩ := by
 have : ∀ (l : List Evt) (o : List Job) (o2 : List Evt), o = (o2.map fun x => (⟨x.wish, x.ans⟩ : Job)) → l.foldl (jobsF n e.group e.epoch e.seq) o = (l.foldl (fun o x => if x.a = n then (if x.kind = 9 then [] else if x.kind = 3 ∧ thereE x e ∧ x.seq = e.seq then o ++ [x] else o) else o) o2).map fun x => (⟨x.wish, x.ans⟩ : Job) := by
  intro l
  induction l with
  | nil => intro o o2 h; exact h
  | cons x l ih =>
   intro o o2 h
   rw [List.foldl_cons, List.foldl_cons]
   refine ih _ _ ?_
   unfold jobsF
   by_cases ha : x.a = n
   ·rw [if_pos ha, if_pos ha]
    by_cases h9 : x.kind = 9
    ·rw [if_pos h9, if_pos h9]; rfl
    ·rw [if_neg h9, if_neg h9]
     by_cases hq : x.kind = 3 ∧ thereE x e ∧ x.seq = e.seq
     ·rw [if_pos hq, if_pos ⟨hq.1, hq.2.1.1, hq.2.1.2, hq.2.2⟩, List.map_append, h]; rfl
     ·rw [if_neg hq, if_neg (fun x => hq ⟨x.1, ⟨x.2.1, x.2.2.1⟩, x.2.2.2⟩)]; exact h
   ·rw [if_neg ha, if_neg ha]; exact h
 exact this l [] [] rfl
theorem V4_iff {v : JVal} {pre : List Evt} {e : Evt} (h : VP v pre) : V4 (stJ v e 3) e ↔ P4 pre e := by
 have hb := (u2_sld v e).2.2.1
 have hm := (u2_sld v e).2.2.2.1
 unfold V4 P4
 show (e.kind = 3 ∧ othr ((u2 v e).bat _ _ _) _ = true) ∨ (e.kind = 4 ∧ othr ((u2 v e).mrk _ _ _) _ = true) ↔ _
 rw [hb, hm, h.bat, h.mrk]
 constructor
 ·rintro (⟨k, x⟩ | ⟨k, x⟩)
  ·rw [k]; exact ⟨.inl rfl, x⟩
  ·rw [k]; exact ⟨.inr rfl, x⟩
 ·rintro ⟨k | k, x⟩
  ·rw [k] at x; exact .inl ⟨k, x⟩
  ·rw [k] at x; exact .inr ⟨k, x⟩
theorem len_opK (l : List Evt) (o : Wsh) (k q : Nat) : ((List.range q).filterMap (opK l o k)).length = cntO l o q := by
 unfold cntO
 induction q with
 | zero => rfl
 | succ q ih =>
  rw [List.range_succ, List.filterMap_append, List.length_append, List.countP_append, ih]
  congr 1
  by_cases h : ourC l o q
  ·rw [List.filterMap_cons_some (show opK l o k q = some (opU l k q) from if_pos h), List.countP_cons_of_pos (p := fun j => decide (ourC l o j)) (decide_eq_true h)]; rfl
  ·rw [List.filterMap_cons_none (show opK l o k q = none from if_neg h), List.countP_cons_of_neg (p := fun j => decide (ourC l o j)) (by rw [decide_eq_false h]; decide)]; rfl
structure HV (p : Pln) (o : Wsh) (l : List Evt) (k : Nat) : Prop where
 n : (histT p o (l.take k)).n = k
 out : (histT p o (l.take k)).out = (List.range k).filterMap (opK l o k)
 opn : ∀ a, (histT p o (l.take k)).opn a = if 0 ≤ (callS a (l.take k)).pos ∧ (callS a (l.take k)).done = false ∧ oursW (l.getD (callS a (l.take k)).pos.toNat evt0).wish o then some (cntO l o (callS a (l.take k)).pos.toNat) else none
 fg : (histT p o (l.take k)).forged = (forgS p o (l.take k)).2
 sn : ∀ c t, (histT p o (l.take k)).seen (c, t) = true ↔ ∃ y ∈ (forgS p o (l.take k)).1, y.client = c ∧ y.stamp = t
theorem opK_same {l : List Evt} {o : Wsh} {k j : Nat} (_h : j < k) (he : endK l (k + 1) j = endK l k j) : opK l o (k + 1) j = opK l o k j := by
 unfold opK opU; rw [he]
end Go.Proofs.Ytgheaedligkhoaa
