/- What each of these functions computes, for every argument that its theorem names; a part of what the proof of JudgeFinds stands on. -/
import Derived.Test.YtgheaedligkhoaaAab
import Derived.Test.YtgheaedligkhoaaAac
import Derived.Test.YtgheaedligkhoaaAad
import Derived.Test.YtgheaedligkhoaaAae
import Derived.Test.YtgheaedligkhoaaAaf
import Derived.Test.YtgheaedligkhoaaAag
import Derived.Test.YtgheaedligkhoaaAah
import Derived.Test.YtgheaedligkhoaaAam
namespace Go.Proofs.Ytgheaedligkhoaa
open Go.RowKit Go.Eng _root_.Go.Proofs.Try Go.Eng _root_.Go.Proofs.Try
set_option maxRecDepth 100000
variable {w0 w : World} {M0 Fz : Nat → Prop} {H : List It} {A : Option Addr} {c : Nat}
set_option maxHeartbeats 8000000 in
theorem asks_ok {w0 w : World} {M0 Fz : Nat → Prop} {H : List It} {q : JMem} {p : Pln} {ln : Nat} {here : Int} {v : JVal} {cs : List Value} {e : Evt} (hj : JW w0 M0 Fz w H q p ln here v) (he : evtR.rd Fz w cs e) (hb : -1 ≤ (calOf v e.a).many ∧ (calOf v e.a).many ≤ 40000) : Ret prog 36 #[pt q.g 0, .agg cs.toArray] w (JA w0 M0 Fz w H q p ln here (V8 v e) 8 (u8 v e)) := by
 obtain ⟨f1, f2, f3, f4, f5, f6, f7, r4, r5, hp, hr⟩ := hj
 obtain ⟨B0, b0, B1, b1, hcv, hcI, g0, g1⟩ := callAt hr.c e.a
 have hef := he
 obtain ⟨hI, A0, c0, A1, c1, A2, c2, A3, c3, rfl, h0, h1, h2, h3⟩ := he
 have hIa : i64 e.a := hI.2.2.1
 dsimp only [jH, lookC] at hp
 refine ret_of_wk func36 rfl ntmps36 leB_ ?_
 refine so ?_
 refine Bx hp (h := fun g3 w1 hp E1 => so ?_)
 replace hp := hp.as_ (H' := itB g3 46 (evC e A0 c0 A1 c1 A2 c2 A3 c3) :: jH p q ln here v.time f1 f2 f3 f4 f5 f6 f7 r4 r5 H) rfl
 dsimp only [jH, lookC] at hp
 refine Cd ?_ ?_ <;> intro k1 <;> refine so ?_
 ·refine Pt ⟨_, rfl, Fz, mv, .inr ⟨fun h => k1 h.1, rfl, ?_⟩⟩
  rw [u8, if_neg k1]
  exact ⟨_, _, _, _, _, _, _, _, _, hp.tail, hr.to mv⟩
 replace k1 : e.kind = 1 := Decidable.not_not.1 k1
 have ro : ∀ {i : Nat} {T : Nat → Option Value} {u : Value} {wx : World}, i ≠ 11 → i ≠ 9 → i ≠ 10 → RlX 9 10 11 5 104 42 (caC cal0 none 0 none 0) (caC (calOf v e.a) B0 b0 B1 b1) (wsC wish0 none 0 none 0) i T u wx wx := fun a b c => RlX.o a b c (Chg.refl _ _)
 refine wc_drawX2 12 9 10 11 5 6 104 42 (caC cal0 none 0 none 0) (caC (calOf v e.a) B0 b0 B1 b1) (wsC wish0 none 0 none 0) [.eq (pt q.g 0), .eq (pt q.g 0), .eq (pt q.g 14), .eq (.map (some q.m7)), .eq (pt g3 2), .eq (iv e.a), .eq (.agg (caC (calOf v e.a) B0 b0 B1 b1).toArray), .eq (pt g3 39), .eq (.agg (wsC e.wish A0 c0 A1 c1).toArray), .any, .any, .any] (by kernel_rfl) (by kernel_rfl) (by kernel_rfl) (by decide) ?_ leB_ ?_ ?_
 ·exact ⟨.inr (fun _ _ _ _ h => h), .inr (fun _ _ _ _ h => h), .inr (fun _ _ _ _ h => h), .inr (fun _ _ _ _ h => h), .inr (fun _ _ _ _ h => h), .inr (fun _ _ _ _ h => h), .inr (fun _ _ _ _ h => h), .inr (fun _ _ _ _ h => h), .inr (fun _ _ _ _ h => h), .inr (fun _ _ _ _ h => h), .inr (fun _ _ _ _ h => h), .inr (fun _ _ _ _ h => h), trivial⟩
 ·refine ⟨?_, ?_, ?_, ?_, ?_, ?_, ?_, ?_, ?_, ?_, ?_, ?_, trivial⟩ <;> intro F wF hER hk hbox
  ·exact dm (hk.qi 0) (hr := ⟨ro (by decide) (by decide) (by decide), rfl⟩)
  ·exact wl_nilCheck (by decide) (hk.qe 0) (qz ⟨ro (by decide) (by decide) (by decide), rfl⟩)
  ·exact Fd_ 14 fld64_10 (hk.qe 1) rfl (qz ⟨ro (by decide) (by decide) (by decide), rfl⟩)
  ·exact Hl_ 1 sc62 (hk.qe 2) (hp.ext hER) rfl rfl (qz ⟨ro (by decide) (by decide) (by decide), rfl⟩)
  ·exact Fd_ 2 fld46_2 (hk.qi 3) rfl (qz ⟨ro (by decide) (by decide) (by decide), rfl⟩)
  ·exact Hl_ 0 sc3 (hk.qe 4) (hp.ext hER) rfl rfl (qz ⟨ro (by decide) (by decide) (by decide), rfl⟩)
  ·exact lkV (e := 104) hcv kI3 (kof3 hIa) ((hp.ext hER).mapR (i := 8) rfl) (qz ⟨ro (by decide) (by decide) (by decide), rfl⟩) (hz := kd104) (hx := hk.qe 3) (hi := hk.qe 5)
  ·exact Fd_ 39 fld46_8 (hk.qi 3) rfl (qz ⟨ro (by decide) (by decide) (by decide), rfl⟩)
  ·exact wl_hloadA (o := 39) (by decide) ag42 (hk.qe 7) (hp.ext hER) (i := 0) rfl rfl (qz ⟨ro (by decide) (by decide) (by decide), rfl⟩)
  ·refine wl_alloc (by decide) kd104 ?_
   rintro g wg rfl hb hEg
   exact qz ⟨RlX.a (by decide) hb hEg, trivial⟩
  ·refine wl_alloc (by decide) kd42 ?_
   rintro g wg rfl hb hEg
   exact qz ⟨RlX.b (by decide) (by decide) hb hEg, trivial⟩
  ·obtain ⟨g, hg, hb⟩ := hbox rfl
   refine wl_storeB2 (o := 0) (v := .agg (caC (calOf v e.a) B0 b0 B1 b1).toArray) hg (hk.qe 6) hb sz104 (Nat.le_refl _) (List.all_eq_true.1 rfl) (fun w' hb' hch => ?_)
   exact wl_nil (qr_none ⟨RlX.f hg hch hb', trivial⟩)
 intro F wD hED hini hdo hbx
 obtain ⟨g5, g6, hne, lg5, lg6, e5, e6, hb5, hb6⟩ := hbx
 have e19 := dr hdo 8
 refine wl_drop [(0, _), (3, _), (4, _), (5, _), (6, _), (19, _)] ⟨di hini 0, di hini 3, di hini 4, e5, e6, e19, trivial⟩ ?_
 clear hini hdo e5 e6 e19
 replace hp := addAB hp hED hb5 hb6 hne lg5 lg6
 refine Hs 1 hp (h := fun w2 hp C2 => ?_)
 replace hp := hp.as_ (H' := itB g5 104 (caC (calOf v e.a) B0 b0 B1 b1) :: itB g6 42 (wsC e.wish A0 c0 A1 c1) :: itB g3 46 (evC e A0 c0 A1 c1 A2 c2 A3 c3) :: jH p q ln here v.time f1 f2 f3 f4 f5 f6 f7 r4 r5 H) rfl
 dsimp only [jH, lookC] at hp
 have fw2 : Frz Fz Fz w w2 := mv
 refine sl ?_
 refine wc_seq_cut (fun L' w' => L' = [(0, pt q.g 0), (3, pt g3 0), (4, iv 0), (5, pt g5 0), (6, pt g6 0), (7, .bool (decide (askK e.wish)))] ∧ w' = w2) ?_ ?_
 ·intro K hK
  refine so ?_
  refine Gs 23 ?_ ?_ <;> intro a1 <;> refine so ?_
  ·refine wk_re (k := 7) (v := .bool (decide (askK e.wish))) rfl (congrArg Value.bool (decide_eq_true (show askK e.wish from .inl a1)).symm) ?_
   exact Kd [0, 3, 4, 5, 6, 7] hK ⟨rfl, rfl⟩
  ·refine Gs 28 ?_ ?_ <;> intro a2 <;> refine so ?_
   ·refine wk_re (k := 7) (v := .bool (decide (askK e.wish))) rfl (congrArg Value.bool (decide_eq_true (show askK e.wish from .inr (.inl a2))).symm) ?_
    exact Kd [0, 3, 4, 5, 6, 7] hK ⟨rfl, rfl⟩
   ·refine wk_re (k := 7) (v := .bool (decide (askK e.wish))) rfl (congrArg Value.bool (decide_eq_decide.2 (by unfold askK; omega))) ?_
    exact Kd [0, 3, 4, 5, 6, 7] hK ⟨rfl, rfl⟩
 rintro _ wb ⟨rfl, rfl⟩
 refine so ?_
 have hI7 : ∀ {x : Prop}, x → x := fun h => h
 refine Gs 35 ?_ ?_ <;> intro a1 <;> refine so ?_
 ·refine aT (so ?_)
  exact Pt ⟨_, rfl, Fz, mv, .inl ⟨⟨k1, .inl a1⟩, rfl, _, hp⟩⟩
 refine Gs 39 ?_ ?_ <;> intro a2 <;> refine so ?_
 ·refine aT (so ?_)
  exact Pt ⟨_, rfl, Fz, mv, .inl ⟨⟨k1, .inr (.inl a2)⟩, rfl, _, hp⟩⟩
 refine Gs 46 ?_ ?_ <;> intro a3 <;> refine so ?_
 ·refine aT (so ?_)
  exact Pt ⟨_, rfl, Fz, mv, .inl ⟨⟨k1, .inr (.inr (.inl a3))⟩, rfl, _, hp⟩⟩
 refine Cd ?_ ?_ <;> intro a4 <;> refine so ?_
 ·exact Pt ⟨_, rfl, Fz, mv, .inl ⟨⟨k1, .inr (.inr (.inr a4))⟩, rfl, _, hp⟩⟩
 refine wdP 11 hp (fun wD hp hED => by
  refine pm ?_
  exact .op rfl (wl_builtS (ps := [(0, .tmp 60), (1, .const (.bool true)), (2, .tmp 63)]) (by decide) bld104 rfl rfl (wl_nil qp)) pl) fun w5 hp E5 => ?_
 refine wl_rmapUpdate (i := 10) kI3 (e := 104) (by kernel_rfl) rfl rfl rfl (kof3 hIa) hp rfl rfl (fun w6 hp C6 => ?_)
 replace hp := hp.as_ (H' := itB g5 104 _ :: itB g6 42 _ :: itB g3 46 _ :: itB q.g 64 (lookC p q ln here v.time) :: itMR prog 3 0 0 q.m1 f1 nR :: itMR prog 89 0 0 q.m2 f2 nR :: itMR prog 89 0 0 q.m3 f3 nR :: itMR prog 91 96 14 q.m4 f4 r4 :: itMR prog 87 98 33 q.m5 f5 r5 :: itMR prog 3 0 0 q.m6 f6 nR :: itMR prog 3 0 0 q.m7 (updF f7 (iv e.a) (.agg (caC ⟨e.wish, true, (calOf v e.a).many + 1⟩ A0 c0 A1 c1).toArray)) nR :: H) rfl
 refine so ?_
 have hr2 := hr.to (F := Fz) (w' := w6) mv
 refine Pt ⟨_, rfl, Fz, mv, .inr ⟨fun h => ?_, rfl, ?_⟩⟩
 ·rcases h.2 with h | h | h | h
  ·rw [h] at a1; cases a1
  ·exact a2 h
  ·exact a3 h
  ·exact a4 h
 rw [u8, if_pos k1]
 exact ⟨_, _, _, _, _, _, _, _, _, hp.tail.tail.tail, hr2.d, hr2.b, hr2.m, hr2.j, hr2.s, hr2.f, hr2.c.up e.a ⟨by have h5 := hI.wish; unfold WshI i64 at h5; unfold CalI i64; dsimp only; omega, A0, c0, A1, c1, rfl, h0.to mv, h1.to mv⟩⟩
set_option maxHeartbeats 8000000 in
theorem third_ok {pk : Addr} {csk : List Value} {k : Lok} {Sk Pk : Nat → Prop} {i : Nat} {w : World} (hatk : AtF Pk w pk csk) (hk : lokR.rd Sk w csk k) (hi : i < k.l.length) : Ret prog 66 #[.pointer (some pk), iv i] w (fun v w' => v = .bool (decide (R3 k.p (k.l.getD i evt0))) ∧ Ext w w') := by
 obtain ⟨p, l⟩ := k
 obtain ⟨hIk, Ak, ck, rfl, hl0⟩ := hk
 dsimp only at hi hl0 hatk ⊢
 refine ret_of_wk func66 rfl ntmps66 leB_ ?_
 have hp := HP.begin_ w
 have hmx := hl0.mx
 have hlF := hl0.now
 have hat := hatk.now
 generalize hF0 : (fun b => b < w.heap.size) = F0 at hp hlF hat
 obtain ⟨ai, I0, i0', I1, i1, I2, i2, I3, i3, hAi, hati, hIi, y0, y1, y2, y3⟩ := evtR_el hlF i hi
 generalize l.getD i evt0 = e at hati hIi y0 y1 y2 y3 ⊢
 refine so ?_
 refine Alo hp (h := fun g5 w1 hp E1 => so ?_)
 refine Hs 0 hp (h := fun w2 hp C2 => ?_)
 replace hp := hp.as_ (H' := itB g5 46 (evC e I0 i0' I1 i1 I2 i2 I3 i3) :: []) rfl
 have f2 : Frz F0 F0 w w2 := mv
 have her : evtR.rd F0 w2 (evC e I0 i0' I1 i1 I2 i2 I3 i3) e := ⟨hIi, I0, i0', I1, i1, I2, i2, I3, i3, rfl, y0.to f2, y1.to f2, y2.to f2, y3.to f2⟩
 refine sl ?_
 refine wc_seq_cut (fun L' w' => L' = [(0, .pointer (some pk)), (5, pt g5 0)] ∧ Ext w2 w' ∧ (numbE e ∨ e.kind = 5 ∨ e.kind = 7)) ?_ ?_
 ·intro K hK
  refine so ?_
  refine Cx hp (rnumb_ok her) (h := fun w3 hp E3 => so ?_)
  refine Gs 16 ?_ ?_ <;> intro a1 <;> refine so ?_
  ·refine Gs 21 ?_ ?_ <;> intro a2 <;> refine so ?_
   ·refine Cd ?_ ?_ <;> intro a3 <;> refine so ?_
    ·exact Pt ⟨_, rfl, bool_f (fun h => by rcases h.1 with h | h | h; exact a1 h; exact a2 h; exact a3 h), hp.chg⟩
    ·exact Kd [0, 5] hK ⟨rfl, E3, by omega⟩
   ·refine aF (so ?_)
    exact Kd [0, 5] hK ⟨rfl, E3, by omega⟩
  ·refine aF (so ?_)
   exact Kd [0, 5] hK ⟨rfl, E3, .inl (Decidable.not_not.1 a1)⟩
 rintro _ w3 ⟨rfl, E3, hkk⟩
 replace hp := hp.ext E3
 have her3 := evtR.keep E3 (fun _ _ _ x => x) her
 have hat3 : AtF F0 w3 pk _ := hat.to (Frz.bE E3 f2)
 clear hat
 refine so ?_
 by_cases b1 : e.group < 0
 ·refine wdP 11 hp (fun wD hp hED => pl) fun w4 hp E4 => so ?_
  refine Gs 29 ?_ ?_ <;> intro c1
  rotate_left
  ·exact absurd b1 c1
  refine so ?_
  exact Pt ⟨_, rfl, bool_t ⟨hkk, .inl b1⟩, hp.chg⟩
 refine wdP 11 hp (fun wD hp hED => pl) fun w4 hp E4 => so ?_
 refine Gs 29 ?_ ?_ <;> intro c1
 ·exact absurd c1 b1
 refine so ?_
 refine Gs 39 ?_ ?_ <;> intro c2 <;> refine so ?_
 ·exact Pt ⟨_, rfl, bool_t ⟨hkk, .inr (.inl c2)⟩, hp.chg⟩
 refine Gs 44 ?_ ?_ <;> intro c3 <;> refine so ?_
 ·exact Pt ⟨_, rfl, bool_t ⟨hkk, .inr (.inr (.inl c3))⟩, hp.chg⟩
 refine Gs 49 ?_ ?_ <;> intro c4 <;> refine so ?_
 ·exact Pt ⟨_, rfl, bool_t ⟨hkk, .inr (.inr (.inr (.inl c4)))⟩, hp.chg⟩
 refine Cx hp (rnumb_ok (evtR.keep E4 (fun _ _ _ x => x) her3)) (h := fun w5 hp E5 => so ?_)
 refine Gs 52 ?_ ?_ <;> intro c5 <;> refine so ?_
 ·refine Gs 56 ?_ ?_ <;> intro c6 <;> refine so ?_
  ·exact Pt ⟨_, rfl, bool_t ⟨hkk, .inr (.inr (.inr (.inr ⟨c5, .inl c6⟩)))⟩, hp.chg⟩
  ·refine Pt ⟨_, rfl, congrArg Value.bool (decide_eq_decide.2 ⟨fun h => ⟨hkk, .inr (.inr (.inr (.inr ⟨c5, .inr h⟩)))⟩, fun h => ?_⟩), hp.chg⟩
   rcases h.2 with h | h | h | h | h
   ·exact absurd h c1
   ·exact absurd h c2
   ·exact absurd h c3
   ·exact absurd h c4
   ·exact h.2.resolve_left c6
 ·refine Pt ⟨_, rfl, bool_f (fun h => ?_), hp.chg⟩
  rcases h.2 with h | h | h | h | h
  ·exact c1 h
  ·exact c2 h
  ·exact c3 h
  ·exact c4 h
  ·exact c5 h.1
set_option maxHeartbeats 8000000 in
theorem first_ok {pk : Addr} {csk : List Value} {k : Lok} {Sk Pk : Nat → Prop} {i : Nat} {w : World} (hatk : AtF Pk w pk csk) (hk : lokR.rd Sk w csk k) (hM : PlnMay k.p) (hi : i < k.l.length) : Ret prog 64 #[.pointer (some pk), iv i] w (fun v w' => v = .bool (decide (R1 k.p (k.l.take i) (k.l.getD i evt0))) ∧ Ext w w') := by
 have hk0 := rdTn (F := fun b => b < w.heap.size) (w' := w) hk
 obtain ⟨p, l⟩ := k
 obtain ⟨hIk, Ak, ck, rfl, hl0⟩ := hk
 dsimp only at hi hl0 hatk hM ⊢
 refine ret_of_wk func64 rfl ntmps64 leB_ ?_
 have hp := HP.begin_ w
 have hmx := hl0.mx
 have hlF := hl0.now
 have hat := hatk.now
 generalize hF0 : (fun b => b < w.heap.size) = F0 at hp hlF hat hk0
 have hla := lastT_take (l := l) (i := i) (by omega)
 obtain ⟨ai, I0, i0', I1, i1, I2, i2, I3, i3, hAi, hati, hIi, y0, y1, y2, y3⟩ := evtR_el hlF i hi
 generalize l.getD i evt0 = e at hati hIi y0 y1 y2 y3 ⊢
 refine so ?_
 refine Alo hp (h := fun g5 w1 hp E1 => so ?_)
 refine Hs 0 hp (h := fun w2 hp C2 => ?_)
 replace hp := hp.as_ (H' := itB g5 46 (evC e I0 i0' I1 i1 I2 i2 I3 i3) :: []) rfl
 have f2 : Frz F0 F0 w w2 := mv
 have her : evtR.rd F0 w2 (evC e I0 i0' I1 i1 I2 i2 I3 i3) e := ⟨hIi, I0, i0', I1, i1, I2, i2, I3, i3, rfl, y0.to f2, y1.to f2, y2.to f2, y3.to f2⟩
 refine sl ?_
 refine wc_seq ?_
 refine wc_region ?_
 refine sl ?_
 refine wc_seq_cut (fun L' w' => L' = [(0, .pointer (some pk)), (1, iv i), (5, pt g5 0), (6, iv (lastT (l.take i)))] ∧ w2 = w') ?_ ?_
 ·intro K hK
  refine so ?_
  refine Cd ?_ ?_ <;> intro c1
  ·obtain ⟨aj, J0, j0', J1, j1', J2, j2', J3, j3', hAj, hatj, _⟩ := evtR_el hlF (i - 1) (by omega)
   rw [hAi] at hAj
   cases hAj
   rw [if_pos (by omega)] at hla
   generalize l.getD (i - 1) evt0 = d at hla hatj
   refine so ?_
   refine wl_idx0 (by decide) sl24 rfl rfl hAi (i - 1) (by omega) (by omega) (so ?_)
   refine wk_re (k := 6) (v := iv (lastT (l.take i))) rfl (by rw [hla]) ?_
   exact Kd [0, 1, 5, 6] hK ⟨rfl, rfl⟩
  ·rw [if_neg (by omega)] at hla
   refine so ?_
   refine wk_re (k := 6) (v := iv (lastT (l.take i))) rfl (by rw [hla]) ?_
   exact Kd [0, 1, 5, 6] hK ⟨rfl, rfl⟩
 rintro _ _ ⟨rfl, rfl⟩
 clear hati
 refine wc_seq_cut (fun L' w' => L' = [(0, .pointer (some pk)), (5, pt g5 0), (6, iv (lastT (l.take i))), (7, .bool (decide (1 ≤ e.a ∧ e.a ≤ nodesP p)))] ∧ Ext w2 w') ?_ ?_
 ·intro K hK
  by_cases b1 : e.a ≥ 1
  ·have hatp : AtF F0 w2 (pk.add 0) [iv p.faults, iv p.chunks, iv p.spares, iv p.clients, iv p.bad] := (hat.to f2).sub 0 5
   clear hat
   refine wdP 11 hp (fun wD hp hED => by
    refine pm ?_
    exact PLeg (rnodes_ok (Sp := fun _ => True) (p := p) ⟨hIk.p, rfl⟩ hM.1 hM.2.1 hM.2.2.1) (h := pl)) fun w4 hp E4 => so ?_
   refine Gs 29 ?_ ?_ <;> intro c2
   rotate_left
   ·exact absurd b1 c2
   refine so ?_
   refine wk_re (k := 7) (v := .bool (decide (1 ≤ e.a ∧ e.a ≤ nodesP p))) rfl (congrArg Value.bool (decide_eq_decide.2 ⟨fun h => ⟨b1, h⟩, fun h => h.2⟩)) ?_
   exact Kd [0, 5, 6, 7] hK ⟨rfl, E4⟩
  ·refine wdP 11 hp (fun wD hp hED => pl) fun w4 hp E4 => so ?_
   refine Gs 29 ?_ ?_ <;> intro c2
   ·exact absurd c2 b1
   refine so ?_
   refine wk_re (k := 7) (v := .bool (decide (1 ≤ e.a ∧ e.a ≤ nodesP p))) rfl (congrArg Value.bool (decide_eq_false (fun h => b1 h.1)).symm) ?_
   exact Kd [0, 5, 6, 7] hK ⟨rfl, E4⟩
 rintro _ w3 ⟨rfl, E3⟩
 replace hp := hp.ext E3
 replace her := evtR.keep E3 (fun _ _ _ x => x) her
 have f3 : Frz F0 F0 w w3 := Frz.bE E3 f2
 refine wc_seq_cut (fun L' w' => L' = [(0, .pointer (some pk)), (5, pt g5 0), (6, iv (lastT (l.take i))), (7, .bool (decide (whoE p e)))] ∧ Ext w3 w') ?_ ?_
 ·intro K hK
  have hat3 := hat.to f3
  clear hat
  refine so ?_
  refine Cx hp (rclient_ok her) (h := fun w4 hp E4 => so ?_)
  have hat4 := hat3.ext E4
  clear hat3
  refine Cd ?_ ?_ <;> intro c1
  ·have hM4 := hM.2.2.2.1
   refine so ?_
   by_cases b1 : e.a ≥ 31
   ·refine wdP 12 hp (fun wD hp hED => pl) fun w5 hp E5 => so ?_
    refine Gs 44 ?_ ?_ <;> intro c2
    rotate_left
    ·exact absurd b1 c2
    refine so ?_
    refine Gs 55 ?_ ?_ <;> intro c3 <;> refine so ?_
    ·refine wk_re (k := 7) (v := .bool (decide (whoE p e))) rfl (congrArg Value.bool (decide_eq_true (show whoE p e from by unfold whoE; rw [if_pos c1]; exact .inl ⟨b1, c3⟩)).symm) ?_
     exact Kd [0, 5, 6, 7] hK ⟨rfl, E4.trans E5⟩
    ·refine wk_re (k := 7) (v := .bool (decide (whoE p e))) rfl (congrArg Value.bool (decide_eq_decide.2 (by unfold whoE; rw [if_pos c1]; exact ⟨fun h => .inr h, fun h => h.resolve_left (fun x => c3 x.2)⟩))) ?_
     exact Kd [0, 5, 6, 7] hK ⟨rfl, E4.trans E5⟩
   ·refine wdP 12 hp (fun wD hp hED => pl) fun w5 hp E5 => so ?_
    refine Gs 44 ?_ ?_ <;> intro c2
    ·exact absurd c2 b1
    refine so ?_
    refine wk_re (k := 7) (v := .bool (decide (whoE p e))) rfl (congrArg Value.bool (decide_eq_decide.2 (by unfold whoE; rw [if_pos c1]; exact ⟨fun h => .inr h, fun h => h.resolve_left (fun x => c2 x.1)⟩))) ?_
    exact Kd [0, 5, 6, 7] hK ⟨rfl, E4.trans E5⟩
  ·refine so ?_
   refine wk_re (k := 7) (v := .bool (decide (whoE p e))) rfl (congrArg Value.bool (decide_eq_decide.2 (by unfold whoE; rw [if_neg c1]))) ?_
   exact Kd [0, 5, 6, 7] hK ⟨rfl, E4⟩
 rintro _ w4 ⟨rfl, E4⟩
 replace hp := hp.ext E4
 have f4 : Frz F0 F0 w w4 := Frz.bE E4 f3
 refine so ?_
 refine Gs 64 ?_ ?_ <;> intro c1 <;> refine so ?_
 ·exact Pt ⟨_, rfl, bool_t (.inl c1), hp.chg⟩
 refine Gs 69 ?_ ?_ <;> intro c2 <;> refine so ?_
 ·exact Pt ⟨_, rfl, bool_t (.inr (.inl c2)), hp.chg⟩
 refine Gs 74 ?_ ?_ <;> intro c3 <;> refine so ?_
 ·exact Pt ⟨_, rfl, bool_t (.inr (.inr (.inl c3))), hp.chg⟩
 refine Gs 78 ?_ ?_ <;> intro c4 <;> refine so ?_
 ·exact Pt ⟨_, rfl, bool_t (.inr (.inr (.inr (.inl c4)))), hp.chg⟩
 refine Cs (rbad_ok (hat.to f4) (rdTo hk0 f4)) ?_
 refine so ?_
 refine Pt ⟨_, rfl, congrArg Value.bool (decide_eq_decide.2 ⟨fun h => .inr (.inr (.inr (.inr h))), fun h => ?_⟩), hp.chg⟩
 rcases h with h | h | h | h | h
 ·exact absurd h c1
 ·exact absurd h c2
 ·exact absurd h c3
 ·exact absurd h c4
 ·exact h
set_option maxHeartbeats 8000000 in
theorem fourth_ok {pk : Addr} {csk : List Value} {k : Lok} {Sk Pk : Nat → Prop} {i : Nat} {w : World} (hatk : AtF Pk w pk csk) (hk : lokR.rd Sk w csk k) (hi : i < k.l.length) : Ret prog 67 #[.pointer (some pk), iv i] w (fun v w' => v = .bool (decide (R4 (k.l.take i) (k.l.getD i evt0))) ∧ Ext w w') := by
 obtain ⟨p, l⟩ := k
 obtain ⟨hIk, Ak, ck, rfl, hl0⟩ := hk
 dsimp only at hi hl0 hatk ⊢
 refine ret_of_wk func67 rfl ntmps67 leB_ ?_
 have hp := HP.begin_ w
 have hmx := hl0.mx
 have hlF := hl0.now
 have hat := hatk.now
 generalize hF0 : (fun b => b < w.heap.size) = F0 at hp hlF hat
 obtain ⟨ai, I0, i0', I1, i1, I2, i2, I3, i3, hAi, hati, hIi, y0, y1, y2, y3⟩ := evtR_el hlF i hi
 generalize l.getD i evt0 = e at hati hIi y0 y1 y2 y3 ⊢
 refine so ?_
 refine Alo hp (h := fun g5 w1 hp E1 => so ?_)
 refine Hs 0 hp (h := fun w2 hp C2 => ?_)
 replace hp := hp.as_ (H' := itB g5 46 (evC e I0 i0' I1 i1 I2 i2 I3 i3) :: []) rfl
 have f2 : Frz F0 F0 w w2 := mv
 clear hati
 refine sl ?_
 refine wc_seq_cut (fun L' w' => L' = [(0, .pointer (some pk)), (1, iv i), (5, pt g5 0)] ∧ w2 = w' ∧ (e.kind = 3 ∨ e.kind = 4)) ?_ ?_
 ·intro K hK
  refine so ?_
  refine Gs 17 ?_ ?_ <;> intro a1 <;> refine so ?_
  ·refine Cd ?_ ?_ <;> intro a2 <;> refine so ?_
   ·exact Pt ⟨_, rfl, bool_f (fun h => h.1.elim a1 a2), hp.chg⟩
   ·exact Kd [0, 1, 5] hK ⟨rfl, rfl, .inr (Decidable.not_not.1 a2)⟩
  ·refine aF (so ?_)
   exact Kd [0, 1, 5] hK ⟨rfl, rfl, .inl (Decidable.not_not.1 a1)⟩
 rintro _ _ ⟨rfl, rfl, hke⟩
 refine so ?_
 refine Lp [0, 1, 5, 6] (fun L' w' mes => ∃ j : Nat, L' = [(0, .pointer (some pk)), (1, iv i), (5, pt g5 0), (6, iv (j : Int))] ∧ j ≤ i ∧ HP w (fun _ => False) F0 w' (itB g5 46 (evC e I0 i0' I1 i1 I2 i2 I3 i3) :: []) ∧ Frz F0 F0 w w' ∧ (l.take j).any (q4 e) = false ∧ mes = i - j) (i - 0) ⟨0, rfl, Nat.zero_le _, hp, f2, rfl, rfl⟩ ?_
 clear hp
 rintro _ wr _ ⟨j, rfl, hj, hp, hF, hno, rfl⟩ KL hKL
 refine so ?_
 refine Cd ?_ ?_ <;> intro hc
 ·have hj9 : j < l.length := by omega
  have hup := fun (b : q4 e (l.getD j evt0) = false) => any_upto hno hj9 b rfl
  have hfd := fun (b : q4 e (l.getD j evt0) = true) => any_found (i := i) (by omega) (by omega) b
  obtain ⟨ae, A0, c0, A1, c1, A2, c2, A3, c3, hAe, hate, hIe, x0, x1, x2, x3⟩ := evtR_el (hlF.to hF) j hj9
  have hat2 := hat.to hF
  clear hat
  have s7 : AtF F0 wr ((ae.add (j * 53)).add 7) (digC (l.getD j evt0).dig) := hate.sub 7 32
  generalize l.getD j evt0 = x at hup hfd hate hIe x0 x1 x2 x3 s7
  have hxr : evtR.rd F0 wr (evC x A0 c0 A1 c1 A2 c2 A3 c3) x := ⟨hIe, A0, c0, A1, c1, A2, c2, A3, c3, rfl, x0, x1, x2, x3⟩
  have her : evtR.rd F0 wr (evC e I0 i0' I1 i1 I2 i2 I3 i3) e := ⟨hIi, I0, i0', I1, i1, I2, i2, I3, i3, rfl, y0.to hF, y1.to hF, y2.to hF, y3.to hF⟩
  have fin : ∀ {w' : World}, HP w (fun _ => False) F0 w' (itB g5 46 (evC e I0 i0' I1 i1 I2 i2 I3 i3) :: []) → Ext wr w' → ¬ (x.kind = e.kind ∧ thereE x e ∧ x.seq = e.seq ∧ x.dig ≠ e.dig) → WK 75 KL [(0, .pointer (some pk)), (1, iv i), (5, pt g5 0), (6, iv ((j : Int) + 1))] w' := fun hp E h =>
   Kl [0, 1, 5, 6] hKL (i - (j + 1)) ⟨j + 1, rfl, by omega, hp, Frz.bE E hF, hup (decide_eq_false h), rfl⟩ (by omega)
  refine so ?_
  by_cases b1 : x.kind = e.kind
  ·by_cases b2 : thereE x e
   ·by_cases b3 : x.seq = e.seq
    ·refine wdP 46 hp (fun wD hp hED => by
      refine pm ?_
      exact PLeg (there_ok (evtR.keep hED (fun _ _ _ x => x) hxr) (evtR.keep hED (fun _ _ _ x => x) her)) (h := pl)) fun w5 hp E5 => ?_
     refine wl_gyes rfl (by first | rfl | exact congrArg some (congrArg Value.bool (decide_eq_true b3))) ?_
     refine wl_neqK (m := 6) (x.dig = e.dig) (by decide) key39 eg39 rfl rfl (digC_fit _) (digC_fit _) digC_inj (so ?_)
     refine Gs 62 ?_ ?_ <;> intro q1
     rotate_left
     ·exact absurd b3 q1
     refine so ?_
     refine Cd ?_ ?_ <;> intro q2 <;> refine so ?_
     ·exact Pt ⟨_, rfl, bool_t ⟨hke, hfd (decide_eq_true ⟨b1, b2, b3, q2⟩)⟩, hp.chg⟩
     ·exact wk_drop _ (pk_sub (is := [0, 1, 5, 6]) rfl) (fin hp E5 (fun h => q2 h.2.2.2))
    ·refine wdP 46 hp (fun wD hp hED => by
      refine pm ?_
      exact PLeg (there_ok (evtR.keep hED (fun _ _ _ x => x) hxr) (evtR.keep hED (fun _ _ _ x => x) her)) (h := pl)) fun w5 hp E5 => so ?_
     refine Gs 62 ?_ ?_ <;> intro q1
     ·exact absurd q1 b3
     refine so ?_
     refine aF (so ?_)
     exact wk_drop _ (pk_sub (is := [0, 1, 5, 6]) rfl) (fin hp E5 (fun h => b3 h.2.2.1))
   ·refine wdP 46 hp (fun wD hp hED => by
     refine pm ?_
     exact PLeg (there_ok (evtR.keep hED (fun _ _ _ x => x) hxr) (evtR.keep hED (fun _ _ _ x => x) her)) (h := pl)) fun w5 hp E5 => so ?_
    refine aF (so ?_)
    exact wk_drop _ (pk_sub (is := [0, 1, 5, 6]) rfl) (fin hp E5 (fun h => b2 h.2.1))
  ·refine wdP 46 hp (fun wD hp hED => pl) fun w5 hp E5 => so ?_
   refine aF (so ?_)
   exact wk_drop _ (pk_sub (is := [0, 1, 5, 6]) rfl) (fin hp E5 (fun h => b1 h.1))
 ·have hji : j = i := by omega
  subst hji
  refine so ?_
  exact Pt ⟨_, rfl, bool_f (fun h => by have h2 := h.2; rw [hno] at h2; cases h2), hp.chg⟩
end Go.Proofs.Ytgheaedligkhoaa
