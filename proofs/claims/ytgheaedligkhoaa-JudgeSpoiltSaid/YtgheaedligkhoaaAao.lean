/- What each of these functions computes, for every argument that its theorem names; a part of what the proof of JudgeFinds stands on. -/
import Derived.Test.YtgheaedligkhoaaAab
import Derived.Test.YtgheaedligkhoaaAac
import Derived.Test.YtgheaedligkhoaaAad
import Derived.Test.YtgheaedligkhoaaAae
import Derived.Test.YtgheaedligkhoaaAaf
import Derived.Test.YtgheaedligkhoaaAag
import Derived.Test.YtgheaedligkhoaaAah
import Derived.Test.YtgheaedligkhoaaAam
namespace Go.Proofs.Ytgheaedligkhoaa
open Go.RowKit Go.Eng _root_.Go.Proofs.Try Go.Eng _root_.Go.Proofs.Try
set_option maxRecDepth 100000
variable {w0 w : World} {M0 Fz : Nat → Prop} {H : List It} {A : Option Addr} {c : Nat}
set_option maxHeartbeats 4000000 in
theorem lives_ok {w0 w : World} {M0 Fz : Nat → Prop} {H : List It} {q : JMem} {p : Pln} {ln : Nat} {here : Int} {v : JVal} {cs : List Value} {e : Evt} (hj : JW w0 M0 Fz w H q p ln here v) (he : evtR.rd Fz w cs e) : Ret prog 30 #[pt q.g 0, .agg cs.toArray] w (JA w0 M0 Fz w H q p ln here (V2 v e) 2 (u2 v e)) := by
 obtain ⟨f1, f2, f3, f4, f5, f6, f7, r4, r5, hp, hr⟩ := hj
 obtain ⟨hI, A0, c0, A1, c1, A2, c2, A3, c3, rfl, h0, h1, h2, h3⟩ := he
 have hIa : i64 e.a := hI.2.2.1
 dsimp only [jH, lookC] at hp
 refine ret_of_wk func30 rfl ntmps30 leB_ ?_
 refine so ?_
 refine Bx hp (h := fun g3 w1 hp E1 => so ?_)
 have he1 : evtR.rd Fz w1 _ e := ⟨hI, A0, c0, A1, c1, A2, c2, A3, c3, rfl, h0.ext E1, h1.ext E1, h2.ext E1, h3.ext E1⟩
 refine Cx hp (jclient_ok he1) (h := fun w2 hp E2 => so ?_)
 refine Cd ?_ ?_ <;> intro hc <;> refine so ?_
 ·exact Pt ⟨_, rfl, Fz, mv, .inr ⟨fun h => h.1 hc, rfl, by rw [u2, if_pos hc]; exact ⟨_, _, _, _, _, _, _, _, _, hp.tail, hr.to mv⟩⟩⟩
 refine wdP 11 hp (fun wD hp hED => by refine pm ?_; exact .op rfl (lkV (e := 4) (hr.d e.a) kI3 (kof3 hIa) (hp.mapR (i := 2) rfl) (wl_nil qp)) (by refine pm ?_; exact .op rfl (wl_neqb (by decide) boo4 rfl rfl (wl_nil qp)) .nil)) fun wD hp hED => so ?_
 refine Cd ?_ ?_ <;> intro hq <;> refine so ?_
 ·exact Pt ⟨_, rfl, Fz, mv, .inl ⟨⟨hc, hq⟩, rfl, _, hp⟩⟩
 refine wdP 9 hp (fun wD hp hED => pl) fun wE hp hEE => ?_
 refine wl_rmapUpdate (i := 2) kI3 (e := 4) (by kernel_rfl) rfl rfl rfl (kof3 hIa) hp rfl rfl (fun w3 hp C3 => ?_)
 replace hp := hp.as_ (H' := itB g3 46 _ :: itB q.g 64 (lookC p q ln here v.time) :: itMR prog 3 0 0 q.m1 (updF f1 (iv e.a) (.bool (decide (e.kind = 8)))) nR :: itMR prog 89 0 0 q.m2 f2 nR :: itMR prog 89 0 0 q.m3 f3 nR :: itMR prog 91 96 14 q.m4 f4 r4 :: itMR prog 87 98 33 q.m5 f5 r5 :: itMR prog 3 0 0 q.m6 f6 nR :: itMR prog 3 0 0 q.m7 f7 nR :: H) rfl
 have hd2 : downR (updF f1 (iv e.a) (.bool (decide (e.kind = 8)))) (fun n => if n = e.a then decide (e.kind = 8) else v.down n) := by
  intro n
  by_cases hn : n = e.a
  ·subst hn
   rw [updF_same]
   simp
  ·rw [updF_other _ (by intro h; apply hn; simpa using h)]
   simp only [if_neg hn]
   exact hr.d n
 refine so ?_
 refine Cd ?_ ?_ <;> intro h9 <;> refine so ?_
 ·replace hp := (hp.up 5 rfl).as_ (H' := itMR prog 91 96 14 q.m4 f4 r4 :: itB g3 46 _ :: itB q.g 64 (lookC p q ln here v.time) :: itMR prog 3 0 0 q.m1 (updF f1 (iv e.a) (.bool (decide (e.kind = 8)))) nR :: itMR prog 89 0 0 q.m2 f2 nR :: itMR prog 89 0 0 q.m3 f3 nR :: itMR prog 87 98 33 q.m5 f5 r5 :: itMR prog 3 0 0 q.m6 f6 nR :: itMR prog 3 0 0 q.m7 f7 nR :: H) rfl
  refine wl_range (e := 94) (by decide) (by kernel_rfl) rfl hp (fun r w4 cnt hp E4 => ?_)
  have f4z : Frz Fz Fz w w4 := mv
  refine so ?_
  refine Lp [0, 3, 35] (fun L' w' mes => ∃ (f : Value → Option Value) (rws : Value → Option (List Value)) (S : Value → Prop) (cur : Option (Value × Value)), L' = [(0, pt q.g 0), (3, pt g3 0), (35, pt r 0)] ∧ HP w0 M0 Fz w' (itMI prog 91 96 14 q.m4 f rws r S cur mes :: itB g3 46 ([.int .i64 e.time, .int .i64 e.kind, .int .i64 e.a, .int .i64 e.b, .int .i64 e.group, .int .i64 e.epoch, .int .i64 e.seq] ++ (digC e.dig ++ ([.int .i64 e.wish.client, .int .i64 e.wish.stamp, .int .i64 e.wish.group, .int .i64 e.wish.epoch, .int .i64 e.wish.kind, .int .i64 e.wish.block, .slice A0 e.wish.data.length c0, .int .i64 e.wish.old, .int .i64 e.wish.new, .slice A1 e.wish.next.length c1, .int .i64 e.ans.err, .slice A2 e.ans.data.length c2, .int .i64 e.ans.epoch, .slice A3 e.ans.nodes.length c3]))) :: itB q.g 64 (lookC p q ln here v.time) :: itMR prog 3 0 0 q.m1 (updF f1 (iv e.a) (.bool (decide (e.kind = 8)))) nR :: itMR prog 89 0 0 q.m2 f2 nR :: itMR prog 89 0 0 q.m3 f3 nR :: itMR prog 87 98 33 q.m5 f5 r5 :: itMR prog 3 0 0 q.m6 f6 nR :: itMR prog 3 0 0 q.m7 f7 nR :: H) ∧ Frz Fz Fz w4 w' ∧ (∀ key, f key = f4 key ∧ rws key = r4 key ∨ f key = none ∧ rws key = none ∧ ∃ g ep s, key = ranV g ep s e.a) ∧ (∀ g ep s, S (ranV g ep s e.a) → f (ranV g ep s e.a) = none))
   cnt ⟨f4, r4, fun _ => False, none, rfl, hp, mv, fun _ => .inl ⟨rfl, rfl⟩, fun _ _ _ h => h.elim⟩ ?_
  rintro _ wr mes ⟨f, rws, S, cur, rfl, hp, hf4, hA, hS⟩ KL hKL
  refine so ?_
  refine wl_next (by decide) rfl hp (fun hp hall => ?_) (fun key u w5 cnt' hf hns hkey hp hlt C5 => ?_)
  ·refine so ?_
   refine aF (so ?_)
   have hr2 := hr.to (F := Fz) (w' := wr) (Frz.bF hf4 f4z)
   refine Pt ⟨_, rfl, Fz, Frz.bF hf4 f4z, .inr ⟨fun h => hq h.2, rfl, ?_⟩⟩
   rw [u2, if_neg hc]
   replace hp := (hp.up 1 rfl).tail
   refine ⟨_, _, _, _, _, _, _, _, _, HP.comm [itMR prog 91 96 14 q.m4 f rws] [itB q.g 64 (lookC p q ln here v.time), itMR prog 3 0 0 q.m1 (updF f1 (iv e.a) (.bool (decide (e.kind = 8)))) nR, itMR prog 89 0 0 q.m2 f2 nR, itMR prog 89 0 0 q.m3 f3 nR] _ hp, hd2, hr2.b, hr2.m, ⟨fun key u hk => ?_, fun g ep s n => ?_⟩, hr2.s, hr2.f, hr2.c⟩
   ·rcases hA key with ⟨h1, _⟩ | ⟨h1, _⟩
    ·exact hr.j.1 key u (by rw [← h1]; exact hk)
    ·rw [h1] at hk; cases hk
   ·simp only [if_pos h9]
    by_cases hn : n = e.a
    ·subst hn
     rw [if_pos rfl]
     have hfn : f (ranV g ep s e.a) = none := by
      cases hx : f (ranV g ep s e.a) with
      | none => rfl
      | some u => exact (hS g ep s (hall _ u hx)).symm.trans hx |>.symm ▸ rfl
     refine .inl ⟨rfl, hfn, ?_⟩
     rcases hA (ranV g ep s e.a) with ⟨h1, h2⟩ | ⟨_, h2, _⟩
     ·rw [h2]
      rcases hr.j.2 g ep s e.a with ⟨_, _, h3⟩ | ⟨A, c, rs, h3, _⟩
      ·exact h3
      ·rw [← h1, hfn] at h3; cases h3
     ·exact h2
    ·rw [if_neg hn]
     rcases hA (ranV g ep s n) with ⟨h1, h2⟩ | ⟨_, _, g', ep', s', h2⟩
     ·rw [h1, h2]
      exact hr2.j.2 g ep s n
     ·exact absurd (ranV_inj h2).2.2.2 hn
  ·obtain ⟨g, ep, s, n, rfl⟩ : ∃ g ep s n, key = ranV g ep s n := by
    rcases hA key with ⟨h1, _⟩ | ⟨h1, _⟩
    ·exact hr.j.1 key u (by rw [← h1]; exact hf)
    ·rw [h1] at hf; cases hf
   refine so ?_
   refine aT (so ?_)
   refine wl_entry (by decide) rfl hp ?_
   refine so ?_
   refine Alo hp (h := fun g5 w6 hp E6 => so ?_)
   refine Hs 0 hp (h := fun w7 hp C7 => so ?_)
   refine Cd ?_ ?_ <;> intro hn <;> refine so ?_
   ·refine wdP 5 hp (fun wD hp hED => pl) fun wD hp hED => ?_
    replace hp := hp.tail
    obtain ⟨l, hl⟩ := hkey
    refine wl_delete (e := 94) (keyed_of kb91) (by kernel_rfl) rfl rfl hl hp (fun w8 hp C8 => so ?_)
    refine Kl [0, 3, 35] hKL cnt' ⟨_, _, _, _, rfl, hp, mv, fun key => ?_, fun g2 ep2 s2 hs => ?_⟩ hlt
    ·by_cases hk : key = ranV g ep s n
     ·subst hk
      exact .inr ⟨updG_same _ _ _, updG_same _ _ _, g, ep, s, by rw [hn]⟩
     ·rw [updG_other _ _ hk, updG_other _ _ hk]
      exact hA key
    ·rcases hs with hs | hs
     ·rw [hs]; exact updG_same _ _ _
     ·by_cases hk : ranV g2 ep2 s2 e.a = ranV g ep s n
      ·rw [hk]; exact updG_same _ _ _
      ·rw [updG_other _ _ hk]; exact hS g2 ep2 s2 hs
   ·refine Kl [0, 3, 35] hKL cnt' ⟨_, _, _, _, rfl, hp.tail, mv, hA, fun g2 ep2 s2 hs => ?_⟩ hlt
    rcases hs with hs | hs
    ·exact absurd (ranV_inj hs).2.2.2.symm hn
    ·exact hS g2 ep2 s2 hs
 ·refine Pt ⟨_, rfl, Fz, mv, .inr ⟨fun h => hq h.2, rfl, ?_⟩⟩
  rw [u2, if_neg hc]
  have hr2 := hr.to (F := Fz) (w' := w3) mv
  refine ⟨_, _, _, _, _, _, _, _, _, hp.tail, hd2, hr2.b, hr2.m, ?_, hr2.s, hr2.f, hr2.c⟩
  simp only [if_neg h9]
  exact hr2.j
set_option maxHeartbeats 8000000 in
theorem ends_ok {w0 w : World} {M0 Fz : Nat → Prop} {H : List It} {q : JMem} {p : Pln} {l : List Evt} {i : Nat} {v : JVal} {cs : List Value} {e : Evt} (hj : JW w0 M0 Fz w H q p l.length (i : Int) v) (he : evtR.rd Fz w cs e) (hl : GS evtR Fz w q.A q.c l) (hi : i < l.length) : Ret prog 37 #[pt q.g 0, .agg cs.toArray] w (JA9 w0 M0 Fz w H q p l.length (i : Int) (V9 v e) (R10 (l.take i) e) (u9 v e)) := by
 obtain ⟨f1, f2, f3, f4, f5, f6, f7, r4, r5, hp, hr⟩ := hj
 obtain ⟨B0, b0, B1, b1, hcv, hcI, g0, g1⟩ := callAt hr.c e.a
 have hef := he
 obtain ⟨hI, A0, c0, A1, c1, A2, c2, A3, c3, rfl, h0, h1, h2, h3⟩ := he
 have hIa : i64 e.a := hI.2.2.1
 have hwe : wishR.rd Fz w (wsC e.wish A0 c0 A1 c1) e.wish := ⟨hI.wish, A0, c0, A1, c1, rfl, h0, h1⟩
 have hwc : wishR.rd Fz w (wsC (calOf v e.a).wish B0 b0 B1 b1) (calOf v e.a).wish := ⟨hcI.wish, B0, b0, B1, b1, rfl, g0, g1⟩
 dsimp only [jH, lookC] at hp
 refine ret_of_wk func37 rfl ntmps37 leB_ ?_
 refine so ?_
 refine Bx hp (h := fun g3 w1 hp E1 => so ?_)
 replace hp := hp.as_ (H' := itB g3 46 (evC e A0 c0 A1 c1 A2 c2 A3 c3) :: jH p q l.length i v.time f1 f2 f3 f4 f5 f6 f7 r4 r5 H) rfl
 dsimp only [jH, lookC] at hp
 refine Cd ?_ ?_ <;> intro k2 <;> refine so ?_
 ·refine Pt ⟨_, rfl, Fz, mv, .inr (.inr ⟨fun h => k2 h.1, fun h => k2 h.1.1, rfl, ?_⟩)⟩
  rw [u9, if_neg k2]
  exact ⟨_, _, _, _, _, _, _, _, _, hp.tail, hr.to mv⟩
 replace k2 : e.kind = 2 := Decidable.not_not.1 k2
 refine wdT 8 [.eq (pt q.g 0), .eq (pt q.g 0), .eq (pt q.g 14), .eq (.map (some q.m7)), .eq (pt g3 2), .eq (iv e.a), .eq (.agg (caC (calOf v e.a) B0 b0 B1 b1).toArray), .nb w1.heap.size 104 (caC cal0 none 0 none 0)] ?_ ?_
 ·refine ⟨?_, ?_, ?_, ?_, ?_, ?_, ?_, ?_, trivial⟩ <;> intro F wF hER hk
  ·exact dm (hk.qi 0)
  ·exact wl_nilCheck (by decide) (hk.qe 0) qz
  ·exact Fd_ 14 fld64_10 (hk.qe 1) rfl qz
  ·exact Hl_ 1 sc62 (hk.qe 2) (hp.ext hER) rfl rfl qz
  ·exact Fd_ 2 fld46_2 (hk.qi 3) rfl qz
  ·exact Hl_ 0 sc3 (hk.qe 4) (hp.ext hER) rfl rfl qz
  ·exact lkV (e := 104) hcv kI3 (kof3 hIa) ((hp.ext hER).mapR (i := 8) rfl) qz (hz := kd104) (hx := hk.qe 3) (hi := hk.qe 5)
  ·refine wl_alloc (by decide) kd104 ?_
   rintro g wg rfl hb hEg
   exact qz ⟨hEg, _, rfl, hER.size, hb⟩
 intro F wD hED hini hdo
 obtain ⟨u5, e5, g5, rfl, hg5, hb5⟩ := hdo 7 5 (by decide) rfl
 have e15 := dr hdo 6
 refine wl_drop [(0, _), (3, _), (4, _), (5, _), (15, _)] ⟨di hini 0, di hini 3, di hini 4, e5, e15, trivial⟩ ?_
 replace hp := hp.add hED (x := itB g5 104 (caC cal0 none 0 none 0)) (K := fun b => b = g5) ⟨hb5, fun _ => Iff.rfl⟩ (fun b hb => by rw [hb]; exact hg5)
 clear hini hdo e5 e15
 refine Hs 0 hp (h := fun w2 hp C2 => so ?_)
 replace hp := hp.as_ (H' := itB g5 104 (caC (calOf v e.a) B0 b0 B1 b1) :: itB g3 46 (evC e A0 c0 A1 c1 A2 c2 A3 c3) :: jH p q l.length i v.time f1 f2 f3 f4 f5 f6 f7 r4 r5 H) rfl
 dsimp only [jH, lookC] at hp
 cases ho : (calOf v e.a).opn
 ·refine wl_re (k := 19) (v := .bool true) rfl rfl ?_
  refine so ?_
  refine aT (so ?_)
  exact Pt ⟨_, rfl, Fz, mv, .inl ⟨⟨k2, .inl ho⟩, rfl, _, hp⟩⟩
 refine wl_re (k := 19) (v := .bool false) rfl rfl ?_
 refine so ?_
 refine Cx hp (jSameW_ok (rdTo hwc (F := Fz) (w' := w2)) (rdTo hwe (F := Fz) (w' := w2))) (h := fun w3 hp E3 => so ?_)
 refine Cd ?_ ?_ <;> intro ks <;> refine so ?_
 ·exact Pt ⟨_, rfl, Fz, mv, .inl ⟨⟨k2, .inr ks⟩, rfl, _, hp⟩⟩
 replace ks : (calOf v e.a).wish = e.wish := Decidable.not_not.1 ks
 have h9 : ¬ V9 v e := fun h => by
  rcases h.2 with h | h
  ·rw [ho] at h; cases h
  ·exact h ks
 refine H1 0 hp (h := fun w4 hp C4 => so ?_)
 replace hp := hp.as_ (H' := itB g5 104 (caC ⟨(calOf v e.a).wish, false, (calOf v e.a).many⟩ B0 b0 B1 b1) :: itB g3 46 (evC e A0 c0 A1 c1 A2 c2 A3 c3) :: jH p q l.length i v.time f1 f2 f3 f4 f5 f6 f7 r4 r5 H) rfl
 dsimp only [jH, lookC] at hp
 refine wdP 7 hp (fun wD hp hED => pl) fun w5 hp E5 => ?_
 refine wl_rmapUpdate (i := 9) kI3 (e := 104) (by kernel_rfl) rfl rfl rfl (kof3 hIa) hp rfl rfl (fun w6 hp C6 => ?_)
 replace hp := hp.as_ (H' := itB g5 104 _ :: itB g3 46 (evC e A0 c0 A1 c1 A2 c2 A3 c3) :: itB q.g 64 (lookC p q l.length i v.time) :: itMR prog 3 0 0 q.m1 f1 nR :: itMR prog 89 0 0 q.m2 f2 nR :: itMR prog 89 0 0 q.m3 f3 nR :: itMR prog 91 96 14 q.m4 f4 r4 :: itMR prog 87 98 33 q.m5 f5 r5 :: itMR prog 3 0 0 q.m6 f6 nR :: itMR prog 3 0 0 q.m7 (updF f7 (iv e.a) (.agg (caC ⟨(calOf v e.a).wish, false, (calOf v e.a).many⟩ B0 b0 B1 b1).toArray)) nR :: H) rfl
 dsimp only [lookC] at hp
 refine so ?_
 have f6w : Frz Fz Fz w w6 := mv
 have hr2 := hr.to (F := Fz) (w' := w6) f6w
 have hc2 := hr2.c.up e.a (c := ⟨(calOf v e.a).wish, false, (calOf v e.a).many⟩) ⟨hcI, B0, b0, B1, b1, rfl, g0.to f6w, g1.to f6w⟩
 have fin : ∀ {F : Nat → Prop} {wx : World}, HP w0 M0 F wx (itB q.g 64 (lookC p q l.length i v.time) :: itMR prog 3 0 0 q.m1 f1 nR :: itMR prog 89 0 0 q.m2 f2 nR :: itMR prog 89 0 0 q.m3 f3 nR :: itMR prog 91 96 14 q.m4 f4 r4 :: itMR prog 87 98 33 q.m5 f5 r5 :: itMR prog 3 0 0 q.m6 f6 nR :: itMR prog 3 0 0 q.m7 (updF f7 (iv e.a) (.agg (caC ⟨(calOf v e.a).wish, false, (calOf v e.a).many⟩ B0 b0 B1 b1).toArray)) nR :: H) → Frz Fz F w6 wx → JW w0 M0 F wx H q p l.length i (u9 v e) := fun hp hF => by
  rw [u9, if_pos k2]
  exact ⟨_, _, _, _, _, _, _, _, _, hp, JR.to (v := { v with calls := upc v.calls e.a ⟨(calOf v e.a).wish, false, (calOf v e.a).many⟩ }) ⟨hr2.d, hr2.b, hr2.m, hr2.j, hr2.s, hr2.f, hc2⟩ hF⟩
 refine Gs 39 ?_ ?_ <;> intro kE <;> refine so ?_
 ·refine aT (so ?_)
  exact Pt ⟨_, rfl, Fz, f6w, .inr (.inr ⟨h9, fun h => kE h.1.2, rfl, fin hp.tail.tail (Frz.start _ _)⟩)⟩
 refine Cd ?_ ?_ <;> intro kW <;> refine so ?_
 ·exact Pt ⟨_, rfl, Fz, f6w, .inr (.inr ⟨h9, fun h => kW h.2.1, rfl, fin hp.tail.tail (Frz.start _ _)⟩)⟩
 replace kE : e.ans.err = 0 := Decidable.not_not.1 kE
 replace kW : e.wish.kind = 2 := Decidable.not_not.1 kW
 replace hp := hp.tail
 obtain ⟨F2, hp, s2, hat⟩ := HP.frzBlk hp
 have f2 : Frz Fz F2 w6 w6 := ⟨Chg.refl _ _, s2⟩
 have fw6 : Frz Fz F2 w w6 := Frz.bF f2 f6w
 have hl6 := hl.to fw6
 have he6 : evtR.rd F2 w6 _ e := rdTo hef fw6
 have hfn : ∀ w', Ext w6 w' → ∀ w'' x cs, Ext w' w'' → evtR.rd F2 w'' cs x → Ret prog 59 #[.agg (cs : List Value).toArray, pt g3 0] w'' (fun v w3 => v = .bool (q10 e x) ∧ Ext w'' w3) := fun w' E w'' x cs E2 hx => ends1_ok (hat.ext (E.trans E2)) (evtR.keep (E.trans E2) (fun _ _ _ x => x) he6) hx
 refine wdP 12 hp (fun wD hp hED => by
  refine pm ?_
  apply PL.op
  ·rfl
  ·exact wl_to (r := evtR) (by decide) sl24 rfl rfl (hl6.ext hED) i rfl (by omega) (fun _ => wl_nil qp)
  refine pm ?_
  exact PLe (hasE_ok (pr := q10 e) cl59 (GS.take (hl6.ext hED) i) (hfn wD hED)) (h := pl)) fun wD hp hED => so ?_
 refine Cd ?_ ?_ <;> intro kq <;> refine so ?_
 ·exact Pt ⟨_, rfl, F2, Frz.bF (mv : Frz F2 F2 w6 wD) fw6, .inr (.inl ⟨h9, ⟨⟨k2, kE⟩, kW, by simpa using kq⟩, rfl, _, hp⟩)⟩
 ·exact Pt ⟨_, rfl, F2, Frz.bF (mv : Frz F2 F2 w6 wD) fw6, .inr (.inr ⟨h9, fun h => by rw [h.2.2] at kq; simp at kq, rfl, fin hp (Frz.bF (mv : Frz F2 F2 w6 wD) f2)⟩)⟩
set_option maxHeartbeats 8000000 in
theorem history_ok {w0 w : World} {M0 Fz : Nat → Prop} {H : List It} {q : JMem} {p : Pln} {l : List Evt} {i : Nat} {time : Int} {cs : List Value} {o : Wsh} (hp : HP w0 M0 Fz w (itB q.g 64 (lookC p q l.length (i : Int) time) :: H)) (ho : wishR.rd Fz w cs o) (hl : GS evtR Fz w q.A q.c l) (hi : i < l.length) (hi2 : i ≤ 40000) : Ret prog 62 #[pt q.g 0, .agg cs.toArray] w (fun x w2 => ∃ F2 A c, x = .slice A (histP p o (l.take (i + 1))).length c ∧ Frz Fz F2 w w2 ∧ HP w0 M0 F2 w2 (itB q.g 64 (lookC p q l.length (i : Int) time) :: H) ∧ GS opR F2 w2 A c (histP p o (l.take (i + 1)))) := by
 obtain ⟨hI, O0, o0, O1, o1, rfl, h0, h1⟩ := ho
 have hlen : (l.take (i + 1)).length = i + 1 := by rw [List.length_take]; omega
 refine ret_of_wk func62 rfl ntmps62 leB_ ?_
 refine so ?_
 refine Bx hp (h := fun g3 w1 hp E1 => so ?_)
 refine wl_rmake (k := 3) 0 0 (by decide) hp (fun mo w2 hp E2 => so ?_)
 refine wl_rmake (k := 80) 0 0 (by decide) hp (fun ms w3 hp E3 => so ?_)
 replace hp := hp.as_ (H' := itMR prog 80 0 0 ms (fun _ => none) nR :: itMR prog 3 0 0 mo (fun _ => none) nR :: itB g3 42 (wsC o O0 o0 O1 o1) :: itB q.g 64 (lookC p q l.length i time) :: H) rfl
 dsimp only [lookC] at hp
 have hl3 := hl.to (mv : Frz Fz Fz w w3)
 refine wdP 12 hp (fun wD hp hED => by
  refine pm ?_
  apply PL.op
  ·rfl
  ·exact wl_to (r := evtR) (by decide) sl24 rfl rfl (hl3.ext hED) (i + 1) rfl (by omega) (fun _ => wl_nil qp)
  exact pl) fun w4 hp E4 => so ?_
 have f4 : Frz Fz Fz w w4 := mv
 replace hp := (hp.up 1 rfl).as_ (H' := itMR prog 3 0 0 mo (fun _ => none) nR :: itMR prog 80 0 0 ms (fun _ => none) nR :: itB g3 42 (wsC o O0 o0 O1 o1) :: itB q.g 64 (lookC p q l.length i time) :: H) rfl
 replace hp := (hp.noRow 120 4).noRow 120 4
 have hll : GS evtR Fz w4 q.A q.c (l.take (i + 1)) := GS.take (hl.to f4) (i + 1)
 generalize hle : l.take (i + 1) = ll at hll hlen
 refine Lp [0, 3, 5, 6, 7, 8, 25, 26, 27] (fun L' w' mes => ∃ (k : Nat) (F : Nat → Prop) (A5 : Option Addr) (c5 : Nat) (A6 : Option Addr) (c6 : Nat) (rows rowsF : List (List Value)) (fo fs : Value → Option Value), L' = [(0, pt q.g 0), (3, pt g3 0), (5, .slice A5 (histT p o (ll.take k)).out.length c5), (6, .slice A6 (histT p o (ll.take k)).forged.length c6), (7, .map (some mo)), (8, .map (some ms)), (25, .slice q.A ll.length q.c), (26, iv (ll.length : Int)), (27, iv (k : Int))] ∧ k ≤ ll.length ∧ HP w0 M0 F w' (itR 120 4 A5 (histT p o (ll.take k)).out.length c5 rows.flatten :: itR 120 4 A6 (histT p o (ll.take k)).forged.length c6 rowsF.flatten :: itMR prog 3 0 0 mo fo nR :: itMR prog 80 0 0 ms fs nR :: itB g3 42 (wsC o O0 o0 O1 o1) :: itB q.g 64 (lookC p q l.length (i : Int) time) :: H) ∧ HR F w' (histT p o (ll.take k)) rows rowsF fo fs ∧ Frz Fz F w4 w' ∧ mes = ll.length - k) (ll.length - 0)
  ⟨0, Fz, none, 0, none, 0, [], [], fun _ => none, fun _ => none, rfl, Nat.zero_le _, hp, ⟨RF.nil _ _ _, RF.nil _ _ _, fun _ => rfl, fun _ _ h => (by cases h), fun _ _ => rfl⟩, Frz.start _ _, rfl⟩ ?_
 clear hp
 rintro _ wr _ ⟨k, F, A5, c5, A6, c6, rows, rowsF, fo, fs, rfl, hk, hp, hR, hF, rfl⟩ KL hKL
 have hsn := histT_n p o (ll.take k)
 have hltk : (ll.take k).length = k := by rw [List.length_take]; omega
 rw [hltk] at hsn
 generalize hst : histT p o (ll.take k) = s at hp hR hsn
 have hFw : Frz Fz F w wr := Frz.bF hF f4
 refine so ?_
 refine Cd ?_ ?_ <;> intro hc
 ·have hk9 : k < ll.length := by omega
  have hstep := histT_step (p := p) (o := o) hk9
  rw [hst] at hstep
  obtain ⟨ae, A0, c0, A1, c1, A2, c2, A3, c3, hAe, hate, hIe, x0, x1, x2, x3⟩ := evtR_el (hll.to hF) k hk9
  generalize hxe : ll.getD k evt0 = x at hstep hate hIe x0 x1 x2 x3
  have hwx : wishR.rd F wr (wsC x.wish A0 c0 A1 c1) x.wish := ⟨hIe.wish, A0, c0, A1, c1, rfl, x0, x1⟩
  have hwo : wishR.rd F wr (wsC o O0 o0 O1 o1) o := ⟨hI, O0, o0, O1, o1, rfl, h0.to hFw, h1.to hFw⟩
  refine so ?_
  refine Alo hp (h := fun g10 w5 hp E5 => so ?_)
  refine Hs 0 hp (h := fun w6 hp C6 => so ?_)
  refine Alo hp (h := fun g11 w7 hp E7 => so ?_)
  refine Hs 0 hp (h := fun w8 hp C8 => ?_)
  replace hp := hp.as_ (H' := itB g11 42 (wsC x.wish A0 c0 A1 c1) :: itB g10 46 (evC x A0 c0 A1 c1 A2 c2 A3 c3) :: itR 120 4 A5 s.out.length c5 rows.flatten :: itR 120 4 A6 s.forged.length c6 rowsF.flatten :: itMR prog 3 0 0 mo fo nR :: itMR prog 80 0 0 ms fs nR :: itB g3 42 (wsC o O0 o0 O1 o1) :: itB q.g 64 (lookC p q l.length (i : Int) time) :: H) rfl
  dsimp only [lookC] at hp
  have f8 : Frz F F wr w8 := mv
  refine sl ?_
  refine wc_block ?_
  refine wc_seq_cut (fun L' w' => L' = [(0, pt q.g 0), (3, pt g3 0), (5, .slice A5 s.out.length c5), (6, .slice A6 s.forged.length c6), (7, .map (some mo)), (8, .map (some ms)), (25, .slice q.A ll.length q.c), (26, iv (ll.length : Int)), (27, iv (k : Int)), (9, iv (k : Int)), (10, pt g10 0), (11, pt g11 0), (34, .bool (decide (x.kind = 1 ∧ oursW x.wish o)))] ∧ Ext w8 w') ?_ ?_
  ·intro K hK
   refine so ?_
   refine Gs 38 ?_ ?_ <;> intro k1 <;> refine so ?_
   ·refine Cx hp (jours_ok (rdTo hwx f8) (rdTo hwo f8)) (h := fun w9 hp E9 => so ?_)
    refine wk_re (k := 34) (v := .bool (decide (x.kind = 1 ∧ oursW x.wish o))) rfl (congrArg Value.bool (decide_eq_decide.2 ⟨fun h => ⟨k1, h⟩, fun h => h.2⟩)) ?_
    exact Kd [0, 3, 5, 6, 7, 8, 25, 26, 27, 9, 10, 11, 34] hK ⟨rfl, E9⟩
   ·refine wk_re (k := 34) (v := .bool (decide (x.kind = 1 ∧ oursW x.wish o))) rfl (congrArg Value.bool (decide_eq_false (fun h => k1 h.1)).symm) ?_
    exact Kd [0, 3, 5, 6, 7, 8, 25, 26, 27, 9, 10, 11, 34] hK ⟨rfl, Chg.refl _ _⟩
  rintro _ wc ⟨rfl, Ec⟩
  have hp8 := hp.ext Ec
  clear hp
  have hp := hp8
  clear hp8
  refine Cd ?_ ?_ <;> intro ho1 <;> refine so ?_
  ·refine wl_rmapUpdate (i := 4) kI3 (e := 3) (by kernel_rfl) rfl rfl rfl (kof3 hIe.2.2.1) hp rfl rfl (fun w10 hp C10 => ?_)
   replace hp := hp.as_ (H' := itB g11 42 (wsC x.wish A0 c0 A1 c1) :: itB g10 46 (evC x A0 c0 A1 c1 A2 c2 A3 c3) :: itR 120 4 A5 s.out.length c5 rows.flatten :: itR 120 4 A6 s.forged.length c6 rowsF.flatten :: itMR prog 3 0 0 mo (updF fo (iv x.a) (iv (s.out.length : Int))) nR :: itMR prog 80 0 0 ms fs nR :: itB g3 42 (wsC o O0 o0 O1 o1) :: itB q.g 64 (lookC p q l.length (i : Int) time) :: H) rfl
   dsimp only [lookC] at hp
   refine so ?_
   refine wl_builtS (ps := [(0, .tmp 51), (1, .tmp 53), (2, .tmp 55)]) (by decide) bld120 rfl rfl ?_
   refine wl_oneOf (by decide) sl107 rfl rfl rfl leB_ ?_
   rintro _ w11 hOn E11
   obtain ⟨gu, rfl, hat9⟩ := hOn
   replace hp := hp.ext E11
   refine wl_happend (i := 2) (m := 1) (size := 4) (news := [.bool (decide (x.wish.kind = 2)), .slice A0 x.wish.data.length c0, iv ((k : Int) + 1), iv 0]) (by decide) sl107 rfl rfl hp rfl rfl (fun b hb => by cases hb; exact hat9) (by simp) (List.all_eq_true.1 rfl) (by omega) ?_
   rintro A9 c9 w12 hp C12
   refine so ?_
   have hs1 : histT p o (ll.take (k + 1)) = ⟨s.out ++ [hop1 x s.n], s.forged, fun a => if a = x.a then some s.out.length else s.opn a, s.seen, s.n + 1⟩ := hstep.trans (by rw [histF, if_pos ho1])
   have f12 : Frz F F wr w12 := mv
   have hR2 := hR.to f12
   refine wk_re (k := 5) (v := .slice A9 (s.out ++ [hop1 x s.n]).length c9) rfl (by rw [List.length_append]; rfl) ?_
   refine Kl [0, 3, 5, 6, 7, 8, 25, 26, 27] hKL (ll.length - (k + 1)) ⟨k + 1, ?_⟩ (by omega)
   rw [hs1]
   refine ⟨F, A9, c9, A6, c6, rows ++ [[.bool (decide (x.wish.kind = 2)), .slice A0 x.wish.data.length c0, iv ((k : Int) + 1), iv 0]], rowsF, updF fo (iv x.a) (iv (s.out.length : Int)), fs, rfl, by omega, ?_, ⟨hR2.o.append (RF.one (r := opR) ⟨A0, c0, by rw [hsn.1]; rfl, x0.to f12⟩), hR2.f, hist_m1 hR.m, fun a j h => ?_, hR2.sn⟩, Frz.bF f12 hF, rfl⟩
   ·rw [flat_snoc, List.length_append]
    exact hp.tail.tail
   ·rw [List.length_append, List.length_singleton]
    dsimp only at h
    split at h
    ·cases h; omega
    ·have := hR.lt a j h; omega
  ·refine Cd (fun k2 => so ?_) (fun k2 => sl ?_)
   ·cases hop : s.opn x.a with
    | none =>
     refine lkO (e := 3) (u := iv 0) (b := false) (by rw [hR.m, hop]; rfl) (by rw [hR.m, hop]; rfl) kI3 (kof3 hIe.2.2.1) (hp.mapR (i := 4) rfl) (so ?_) (z := iv 0)
     refine wl_rdelete (i := 4) kI3 (e := 3) (by kernel_rfl) rfl rfl (kof3 hIe.2.2.1) hp rfl rfl (fun w10 hp C10 => ?_)
     replace hp := hp.as_ (H' := itB g11 42 (wsC x.wish A0 c0 A1 c1) :: itB g10 46 (evC x A0 c0 A1 c1 A2 c2 A3 c3) :: itR 120 4 A5 s.out.length c5 rows.flatten :: itR 120 4 A6 s.forged.length c6 rowsF.flatten :: itMR prog 3 0 0 mo (updG fo (iv x.a) none) nR :: itMR prog 80 0 0 ms fs nR :: itB g3 42 (wsC o O0 o0 O1 o1) :: itB q.g 64 (lookC p q l.length (i : Int) time) :: H) rfl
     refine so ?_
     refine aF (so ?_)
     have hs1 : histT p o (ll.take (k + 1)) = ⟨s.out, s.forged, fun a => if a = x.a then none else s.opn a, s.seen, s.n + 1⟩ := hstep.trans (by rw [histF, if_neg ho1, if_pos k2, hop])
     have f12 : Frz F F wr w10 := mv
     have hR2 := hR.to f12
     refine Kl [0, 3, 5, 6, 7, 8, 25, 26, 27] hKL (ll.length - (k + 1)) ⟨k + 1, ?_⟩ (by omega)
     rw [hs1]
     refine ⟨F, A5, c5, A6, c6, rows, rowsF, updG fo (iv x.a) none, fs, rfl, by omega, hp.tail.tail, ⟨hR2.o, hR2.f, hist_m2 hR.m, hist_l2 hR.lt, hR2.sn⟩, Frz.bF f12 hF, rfl⟩
    | some j =>
     refine lkO (e := 3) (u := iv (j : Int)) (b := true) (by rw [hR.m, hop]; rfl) (by rw [hR.m, hop]; rfl) kI3 (kof3 hIe.2.2.1) (hp.mapR (i := 4) rfl) (so ?_) (z := iv 0)
     refine wl_rdelete (i := 4) kI3 (e := 3) (by kernel_rfl) rfl rfl (kof3 hIe.2.2.1) hp rfl rfl (fun w10 hp C10 => ?_)
     replace hp := hp.as_ (H' := itB g11 42 (wsC x.wish A0 c0 A1 c1) :: itB g10 46 (evC x A0 c0 A1 c1 A2 c2 A3 c3) :: itR 120 4 A5 s.out.length c5 rows.flatten :: itR 120 4 A6 s.forged.length c6 rowsF.flatten :: itMR prog 3 0 0 mo (updG fo (iv x.a) none) nR :: itMR prog 80 0 0 ms fs nR :: itB g3 42 (wsC o O0 o0 O1 o1) :: itB q.g 64 (lookC p q l.length (i : Int) time) :: H) rfl
     dsimp only [lookC] at hp
     refine so ?_
     refine Cd ?_ ?_ <;> intro ke <;> refine so ?_
     ·have hjl := hR.lt _ _ hop
      obtain ⟨g5, rfl⟩ := row_addr (hp.rowAt (i := 2) rfl) hjl
      obtain ⟨cj, hcj, B, b, rfl, hB⟩ := hR.o.2 j hjl
      have hll2 : ∀ y ∈ rows, y.length = 4 := hR.o.lens
      refine wl_idxR (by decide) sl107 rfl rfl j rfl hjl (so ?_)
      refine wl_hstoreR (i := 2) (o := j * 4 + 3) rfl rfl hp rfl (show szB prog 3 1 = true by kernel_rfl) rfl ?_ (show (1 : Nat) ≠ 0 by decide) (List.all_eq_true.1 rfl) (fun w11 hp C11 => ?_)
      ·rw [hR.o.flen]
       show j * 4 + 3 + 1 ≤ s.out.length * 4
       omega
      have e1 : putL rows.flatten (j * 4 + 3) [iv ((k : Int) + 1)] = (rows.set j [.bool s.out[j].wr, .slice B s.out[j].val.length b, iv s.out[j].b, iv ((k : Int) + 1)]).flatten := flat_put (o := 3) hll2 hcj (by decide)
      replace hp := hp.as_ (H' := itB g11 42 (wsC x.wish A0 c0 A1 c1) :: itB g10 46 (evC x A0 c0 A1 c1 A2 c2 A3 c3) :: itR 120 4 (some ⟨g5, 0, none⟩) s.out.length c5 (putL rows.flatten (j * 4 + 3) [iv ((k : Int) + 1)]) :: itR 120 4 A6 s.forged.length c6 rowsF.flatten :: itMR prog 3 0 0 mo (updG fo (iv x.a) none) nR :: itMR prog 80 0 0 ms fs nR :: itB g3 42 (wsC o O0 o0 O1 o1) :: itB q.g 64 (lookC p q l.length (i : Int) time) :: H) rfl
      rw [e1] at hp
      dsimp only [lookC] at hp
      have hjr : j < rows.length := by rw [hR.o.1]; exact hjl
      have hcj2 : (rows.set j [.bool s.out[j].wr, .slice B s.out[j].val.length b, iv s.out[j].b, iv ((k : Int) + 1)])[j]? = some [.bool s.out[j].wr, .slice B s.out[j].val.length b, iv s.out[j].b, iv ((k : Int) + 1)] := List.getElem?_set_self hjr
      have hll3 : ∀ y ∈ (rows.set j [.bool s.out[j].wr, .slice B s.out[j].val.length b, iv s.out[j].b, iv ((k : Int) + 1)]), y.length = 4 := fun y hy => (List.mem_or_eq_of_mem_set hy).elim (hll2 y) (fun e => by rw [e]; rfl)
      refine so ?_
      refine wl_idxR (by decide) sl107 rfl rfl j rfl hjl (so ?_)
      refine wl_hloadR (i := 2) (o := j * 4 + 0) (by decide) (by kernel_rfl) rfl hp rfl (by rw [flat_cell hll3 hcj2 (by decide)]; rfl) (so ?_)
      have hs1 : histT p o (ll.take (k + 1)) = ⟨s.out.modify j (fun h => hopE h x s.n), s.forged, fun a => if a = x.a then none else s.opn a, s.seen, s.n + 1⟩ := hstep.trans (by rw [histF, if_neg ho1, if_pos k2, hop]; dsimp only; rw [if_pos ke])
      cases hwr : s.out[j].wr
      ·refine aT (so ?_)
       refine wl_idxR (by decide) sl107 rfl rfl j rfl hjl (so ?_)
       refine wl_hstoreR (i := 2) (o := j * 4 + 1) rfl rfl hp rfl (show szB prog 40 1 = true by kernel_rfl) rfl ?_ (show (1 : Nat) ≠ 0 by decide) (List.all_eq_true.1 rfl) (fun w12 hp C12 => ?_)
       ·rw [flat_len _ _ hll3, List.length_set, hR.o.1]
        show j * 4 + 1 + 1 ≤ s.out.length * 4
        omega
       have e2 : putL (rows.set j [.bool s.out[j].wr, .slice B s.out[j].val.length b, iv s.out[j].b, iv ((k : Int) + 1)]).flatten (j * 4 + 1) [.slice A2 x.ans.data.length c2] = (rows.set j [.bool s.out[j].wr, .slice A2 x.ans.data.length c2, iv s.out[j].b, iv ((k : Int) + 1)]).flatten := (flat_put (o := 1) hll3 hcj2 (by decide)).trans (by rw [List.set_set]; rfl)
       replace hp := hp.as_ (H' := itB g11 42 (wsC x.wish A0 c0 A1 c1) :: itB g10 46 (evC x A0 c0 A1 c1 A2 c2 A3 c3) :: itR 120 4 (some ⟨g5, 0, none⟩) s.out.length c5 (putL (rows.set j [.bool s.out[j].wr, .slice B s.out[j].val.length b, iv s.out[j].b, iv ((k : Int) + 1)]).flatten (j * 4 + 1) [.slice A2 x.ans.data.length c2]) :: itR 120 4 A6 s.forged.length c6 rowsF.flatten :: itMR prog 3 0 0 mo (updG fo (iv x.a) none) nR :: itMR prog 80 0 0 ms fs nR :: itB g3 42 (wsC o O0 o0 O1 o1) :: itB q.g 64 (lookC p q l.length (i : Int) time) :: H) rfl
       rw [e2] at hp
       dsimp only [lookC] at hp
       refine so ?_
       have f12 : Frz F F wr w12 := mv
       have hR2 := hR.to f12
       refine wk_re (k := 5) (v := .slice (some ⟨g5, 0, none⟩) (s.out.modify j (fun h => hopE h x s.n)).length c5) rfl (by rw [List.length_modify]) ?_
       refine Kl [0, 3, 5, 6, 7, 8, 25, 26, 27] hKL (ll.length - (k + 1)) ⟨k + 1, ?_⟩ (by omega)
       rw [hs1]
       refine ⟨F, some ⟨g5, 0, none⟩, c5, A6, c6, (rows.set j [.bool s.out[j].wr, .slice A2 x.ans.data.length c2, iv s.out[j].b, iv ((k : Int) + 1)]), rowsF, updG fo (iv x.a) none, fs, rfl, by omega, ?_, ⟨RF.modify hR2.o hjl ?_, hR2.f, hist_m2 hR.m, fun a i hi => ?_, hR2.sn⟩, Frz.bF f12 hF, rfl⟩
       ·rw [List.length_modify]
        exact hp.tail.tail
       ·have hv : hopE s.out[j] x s.n = ⟨s.out[j].wr, x.ans.data, s.out[j].b, (k : Int) + 1⟩ := by unfold hopE; rw [hwr, hsn.1]; rfl
        rw [hv]
        exact ⟨A2, c2, rfl, x2.to f12⟩
       ·rw [List.length_modify]
        exact hist_l2 hR.lt a i hi
      ·refine aF (so ?_)
       have f11 : Frz F F wr w11 := mv
       have hR2 := hR.to f11
       refine wk_re (k := 5) (v := .slice (some ⟨g5, 0, none⟩) (s.out.modify j (fun h => hopE h x s.n)).length c5) rfl (by rw [List.length_modify]) ?_
       refine Kl [0, 3, 5, 6, 7, 8, 25, 26, 27] hKL (ll.length - (k + 1)) ⟨k + 1, ?_⟩ (by omega)
       rw [hs1]
       refine ⟨F, some ⟨g5, 0, none⟩, c5, A6, c6, (rows.set j [.bool s.out[j].wr, .slice B s.out[j].val.length b, iv s.out[j].b, iv ((k : Int) + 1)]), rowsF, updG fo (iv x.a) none, fs, rfl, by omega, ?_, ⟨RF.modify hR2.o hjl ?_, hR2.f, hist_m2 hR.m, fun a i hi => ?_, hR2.sn⟩, Frz.bF f11 hF, rfl⟩
       ·rw [List.length_modify]
        exact hp.tail.tail
       ·have hv : hopE s.out[j] x s.n = ⟨s.out[j].wr, s.out[j].val, s.out[j].b, (k : Int) + 1⟩ := by unfold hopE; rw [hwr, hsn.1]; rfl
        rw [hv]
        exact ⟨B, b, rfl, (hB.to f11 : GS byteR F w11 B b s.out[j].val)⟩
       ·rw [List.length_modify]
        exact hist_l2 hR.lt a i hi
     ·have hs1 : histT p o (ll.take (k + 1)) = ⟨s.out, s.forged, fun a => if a = x.a then none else s.opn a, s.seen, s.n + 1⟩ := hstep.trans (by rw [histF, if_neg ho1, if_pos k2, hop]; dsimp only; rw [if_neg ke])
      have f12 : Frz F F wr w10 := mv
      have hR2 := hR.to f12
      refine Kl [0, 3, 5, 6, 7, 8, 25, 26, 27] hKL (ll.length - (k + 1)) ⟨k + 1, ?_⟩ (by omega)
      rw [hs1]
      refine ⟨F, A5, c5, A6, c6, rows, rowsF, updG fo (iv x.a) none, fs, rfl, by omega, hp.tail.tail, ⟨hR2.o, hR2.f, hist_m2 hR.m, hist_l2 hR.lt, hR2.sn⟩, Frz.bF f12 hF, rfl⟩
   ·obtain ⟨lk80, hlk80⟩ := kofP hIe.wish.1 hIe.wish.2.1
    have fc : Frz F F wr wc := mv
    refine wc_seq_cut (fun L' w' => L' = [(0, pt q.g 0), (3, pt g3 0), (5, .slice A5 s.out.length c5), (6, .slice A6 s.forged.length c6), (7, .map (some mo)), (8, .map (some ms)), (25, .slice q.A ll.length q.c), (26, iv (ll.length : Int)), (27, iv (k : Int)), (9, iv (k : Int)), (10, pt g10 0), (11, pt g11 0), (99, .bool (decide ((x.kind = 3 ∧ x.wish.kind = 2 ∧ oursW x.wish o ∧ badP p x.wish.client) ∧ s.seen (x.wish.client, x.wish.stamp) = false)))] ∧ Ext wc w') ?_ ?_
    ·intro K hK
     refine so ?_
     refine Gs 103 ?_ ?_ <;> intro q1 <;> refine so ?_
     ·refine Gs 108 ?_ ?_ <;> intro q2 <;> refine so ?_
      ·refine Cx hp (jours_ok (rdTo hwx fc) (rdTo hwo fc)) (h := fun w9 hp E9 => so ?_)
       refine Gs 113 ?_ ?_ <;> intro q3 <;> refine so ?_
       ·refine Cs (jbad_ok (hp.up 7 rfl)) ?_
        refine so ?_
        refine Gs 119 ?_ ?_ <;> intro q4 <;> refine so ?_
        ·refine wl_builtS (ps := [(0, .tmp 122), (1, .tmp 124)]) (by decide) bld80 rfl rfl (so ?_)
         refine lkV (e := 3) (hR.sn x.wish.client x.wish.stamp) (keyed_of kb80) hlk80 (hp.mapR (i := 5) rfl) (so ?_) (z := iv 0)
         refine wk_re (k := 99) (v := .bool (decide ((x.kind = 3 ∧ x.wish.kind = 2 ∧ oursW x.wish o ∧ badP p x.wish.client) ∧ s.seen (x.wish.client, x.wish.stamp) = false))) rfl ?_ ?_
         ·refine congrArg Value.bool ?_
          cases hs : s.seen (x.wish.client, x.wish.stamp)
          ·exact decide_eq_decide.2 ⟨fun h => ⟨⟨q1, q2, q3, q4⟩, rfl⟩, fun _ => rfl⟩
          ·exact decide_eq_decide.2 ⟨fun h => (by cases h), fun h => (by cases h.2)⟩
         exact Kd [0, 3, 5, 6, 7, 8, 25, 26, 27, 9, 10, 11, 99] hK ⟨rfl, E9⟩
        ·refine wk_re (k := 99) (v := .bool (decide ((x.kind = 3 ∧ x.wish.kind = 2 ∧ oursW x.wish o ∧ badP p x.wish.client) ∧ s.seen (x.wish.client, x.wish.stamp) = false))) rfl (congrArg Value.bool (decide_eq_false (fun h => q4 h.1.2.2.2)).symm) ?_
         exact Kd [0, 3, 5, 6, 7, 8, 25, 26, 27, 9, 10, 11, 99] hK ⟨rfl, E9⟩
       ·refine wk_re (k := 99) (v := .bool (decide ((x.kind = 3 ∧ x.wish.kind = 2 ∧ oursW x.wish o ∧ badP p x.wish.client) ∧ s.seen (x.wish.client, x.wish.stamp) = false))) rfl (congrArg Value.bool (decide_eq_false (fun h => q3 h.1.2.2.1)).symm) ?_
        exact Kd [0, 3, 5, 6, 7, 8, 25, 26, 27, 9, 10, 11, 99] hK ⟨rfl, E9⟩
      ·refine wk_re (k := 99) (v := .bool (decide ((x.kind = 3 ∧ x.wish.kind = 2 ∧ oursW x.wish o ∧ badP p x.wish.client) ∧ s.seen (x.wish.client, x.wish.stamp) = false))) rfl (congrArg Value.bool (decide_eq_false (fun h => q2 h.1.2.1)).symm) ?_
       exact Kd [0, 3, 5, 6, 7, 8, 25, 26, 27, 9, 10, 11, 99] hK ⟨rfl, Chg.refl _ _⟩
     ·refine wk_re (k := 99) (v := .bool (decide ((x.kind = 3 ∧ x.wish.kind = 2 ∧ oursW x.wish o ∧ badP p x.wish.client) ∧ s.seen (x.wish.client, x.wish.stamp) = false))) rfl (congrArg Value.bool (decide_eq_false (fun h => q1 h.1.1)).symm) ?_
      exact Kd [0, 3, 5, 6, 7, 8, 25, 26, 27, 9, 10, 11, 99] hK ⟨rfl, Chg.refl _ _⟩
    rintro _ wd ⟨rfl, Ed⟩
    have hp8 := hp.ext Ed
    clear hp
    have hp := hp8
    clear hp8
    refine Cd ?_ ?_ <;> intro hc4 <;> refine so ?_
    ·refine wl_builtS (ps := [(0, .tmp 131), (1, .tmp 133)]) (by decide) bld80 rfl rfl ?_
     refine wl_rmapUpdate (i := 5) (keyed_of kb80) (e := 3) (by kernel_rfl) rfl rfl rfl hlk80 hp rfl rfl (fun w10 hp C10 => ?_)
     replace hp := hp.as_ (H' := itB g11 42 (wsC x.wish A0 c0 A1 c1) :: itB g10 46 (evC x A0 c0 A1 c1 A2 c2 A3 c3) :: itR 120 4 A5 s.out.length c5 rows.flatten :: itR 120 4 A6 s.forged.length c6 rowsF.flatten :: itMR prog 3 0 0 mo fo nR :: itMR prog 80 0 0 ms (updF fs (pairV x.wish.client x.wish.stamp) (iv 1)) nR :: itB g3 42 (wsC o O0 o0 O1 o1) :: itB q.g 64 (lookC p q l.length (i : Int) time) :: H) rfl
     dsimp only [lookC] at hp
     refine so ?_
     refine wl_builtS (ps := [(0, .const (.bool true)), (1, .tmp 137), (2, .const (.int .i64 1))]) (by decide) bld120 rfl rfl ?_
     refine wl_oneOf (by decide) sl107 rfl rfl rfl leB_ ?_
     rintro _ w11 hOn E11
     obtain ⟨gu, rfl, hat9⟩ := hOn
     replace hp := hp.ext E11
     refine wl_happend (i := 3) (m := 1) (size := 4) (news := [.bool true, .slice A0 x.wish.data.length c0, iv 1, iv 0]) (by decide) sl107 rfl rfl hp rfl rfl (fun b hb => by cases hb; exact hat9) (by simp) (List.all_eq_true.1 rfl) (by omega) ?_
     rintro A9 c9 w12 hp C12
     refine so ?_
     have hs1 : histT p o (ll.take (k + 1)) = ⟨s.out, s.forged ++ [⟨true, x.wish.data, 1, 0⟩], s.opn, fun q => if q = (x.wish.client, x.wish.stamp) then true else s.seen q, s.n + 1⟩ := hstep.trans (by rw [histF, if_neg ho1, if_neg k2, if_pos hc4])
     have f12 : Frz F F wr w12 := mv
     have hR2 := hR.to f12
     refine wk_re (k := 6) (v := .slice A9 (s.forged ++ [(⟨true, x.wish.data, 1, 0⟩ : HOp)]).length c9) rfl (by rw [List.length_append]; rfl) ?_
     refine Kl [0, 3, 5, 6, 7, 8, 25, 26, 27] hKL (ll.length - (k + 1)) ⟨k + 1, ?_⟩ (by omega)
     rw [hs1]
     refine ⟨F, A5, c5, A9, c9, rows, rowsF ++ [[.bool true, .slice A0 x.wish.data.length c0, iv 1, iv 0]], fo, (updF fs (pairV x.wish.client x.wish.stamp) (iv 1)), rfl, by omega, ?_, ⟨hR2.o, hR2.f.append (RF.one (r := opR) ⟨A0, c0, rfl, x0.to f12⟩), hR.m, hR.lt, hist_sn hR.sn⟩, Frz.bF f12 hF, rfl⟩
     rw [flat_snoc, List.length_append]
     exact hp.tail.tail
    ·have hs1 : histT p o (ll.take (k + 1)) = ⟨s.out, s.forged, s.opn, s.seen, s.n + 1⟩ := hstep.trans (by rw [histF, if_neg ho1, if_neg k2, if_neg hc4])
     have f12 : Frz F F wr wd := mv
     have hR2 := hR.to f12
     refine Kl [0, 3, 5, 6, 7, 8, 25, 26, 27] hKL (ll.length - (k + 1)) ⟨k + 1, ?_⟩ (by omega)
     rw [hs1]
     exact ⟨F, A5, c5, A6, c6, rows, rowsF, fo, fs, rfl, by omega, hp.tail.tail, ⟨hR2.o, hR2.f, hR.m, hR.lt, hR2.sn⟩, Frz.bF f12 hF, rfl⟩
 ·have hkl : k = ll.length := by omega
  have hst2 : histT p o ll = s := by rw [← hst, hkl, List.take_length]
  refine so ?_
  refine wl_happend (i := 0) (m := s.forged.length) (size := 4) (news := rowsF.flatten) (by decide) sl107 rfl rfl hp rfl (by rw [hR.f.flen]; rfl) (fun b hb => (hp.rowAt (i := 1) rfl).at_ hb) (fun hb => ?_) ?_ (by omega) ?_
  ·by_cases h0 : 0 < s.forged.length
   ·obtain ⟨g, hg⟩ := row_addr (hp.rowAt (i := 1) rfl) h0
    rw [hb] at hg; cases hg
   ·omega
  ·exact RF.oneC hR.f
  rintro A9 c9 w5 hp C5
  refine so ?_
  have f5 : Frz F F wr w5 := mv
  have hrow := hp.rowAt (i := 0) rfl
  obtain ⟨F2, hp, s2, n2⟩ := HP.frzRow hp
  have fx : Frz Fz F2 w w5 := Frz.bF (⟨Chg.refl _ _, s2⟩ : Frz F F2 w5 w5) (Frz.bF f5 hFw)
  refine Pt ⟨_, rfl, F2, A9, c9, ?_, fx, hp.tail.tail.tail.tail, ?_⟩
  ·rw [histP, hst2, List.length_append]
  ·rw [histP, hst2]
   refine OwnRow.gsRF (rows := rows ++ rowsF) (by rw [List.flatten_append, List.length_append]; exact hrow) ?_ n2
   exact ((hR.o.to f5).append (hR.f.to f5)).wid s2
set_option maxHeartbeats 4000000 in
theorem numbers_ok {w0 w : World} {M0 Fz : Nat → Prop} {H : List It} {q : JMem} {p : Pln} {ln : Nat} {here : Int} {v : JVal} {cs : List Value} {e : Evt} (hj : JW w0 M0 Fz w H q p ln here v) (he : evtR.rd Fz w cs e) (_hM : PlnMay p) : Ret prog 31 #[pt q.g 0, .agg cs.toArray] w (JA w0 M0 Fz w H q p ln here (R3 p e) 3 v) := by
 obtain ⟨f1, f2, f3, f4, f5, f6, f7, r4, r5, hp, hr⟩ := hj
 obtain ⟨hI, A0, c0, A1, c1, A2, c2, A3, c3, rfl, h0, h1, h2, h3⟩ := he
 dsimp only [jH, lookC] at hp
 refine ret_of_wk func31 rfl ntmps31 leB_ ?_
 refine so ?_
 refine Bx hp (h := fun g3 w1 hp E1 => sl ?_)
 have hp1 := hp
 have he1 : evtR.rd Fz w1 _ e := ⟨hI, A0, c0, A1, c1, A2, c2, A3, c3, rfl, h0.ext E1, h1.ext E1, h2.ext E1, h3.ext E1⟩
 refine wc_seq_cut (fun L' w' => L' = [(0, pt q.g 0), (3, pt g3 0), (4, iv 0)] ∧ Ext w1 w' ∧ (numbE e ∨ e.kind = 5 ∨ e.kind = 7)) ?_ ?_
 ·intro K hK
  refine so ?_
  refine Cx hp (jnumb_ok he1) (h := fun w2 hp E2 => so ?_)
  refine Gs 8 ?_ ?_ <;> intro a1 <;> refine so ?_
  ·refine Gs 13 ?_ ?_ <;> intro a2 <;> refine so ?_
   ·refine Cd ?_ ?_ <;> intro a3 <;> refine so ?_
    ·exact Pt ⟨_, rfl, Fz, mv, .inr ⟨by unfold R3; rintro ⟨h, _⟩; rcases h with h | h | h; exact a1 h; exact a2 h; exact a3 h, rfl, _, _, _, _, _, _, _, _, _, hp.tail, hr.to mv⟩⟩
    ·exact Kd [0, 3, 4] hK ⟨rfl, E2, by omega⟩
   ·refine aF (so ?_)
    exact Kd [0, 3, 4] hK ⟨rfl, E2, by omega⟩
  ·refine aF (so ?_)
   exact Kd [0, 3, 4] hK ⟨rfl, E2, .inl (Decidable.not_not.1 a1)⟩
 rintro _ wa ⟨rfl, Ea, hk⟩
 clear hp
 have hp := hp1.ext Ea
 have he2 := evtR.keep Ea (fun _ _ _ x => x) he1
 refine so ?_
 by_cases b1 : 0 ≤ e.group ∧ e.group ≤ p.chunks
 ·by_cases b2 : 0 ≤ e.epoch ∧ e.epoch ≤ 1048576
  ·by_cases b3 : numbE e
   ·refine wdP 25 hp (fun wD hp hED => by refine pm ?_; exact PLs jwithin_ok (h := by refine pm ?_; exact PLsg jwithin_ok (h := by refine pm ?_; exact PLeg (jnumb_ok (evtR.keep hED (fun _ _ _ x => x) he2)) (h := by refine pm ?_; exact PLsg jwithin_ok (h := pl))))) fun wD hp hED => so ?_
    refine Cd ?_ ?_ <;> intro hc <;> refine so ?_
    ·exact Pt ⟨_, rfl, Fz, mv, .inl ⟨⟨hk, .inr (.inr (.inr (.inr ⟨b3, by omega⟩)))⟩, rfl, _, hp⟩⟩
    ·exact Pt ⟨_, rfl, Fz, mv, .inr ⟨by unfold R3; omega, rfl, _, _, _, _, _, _, _, _, _, hp.tail, hr.to mv⟩⟩
   ·refine wdP 25 hp (fun wD hp hED => by refine pm ?_; exact PLs jwithin_ok (h := by refine pm ?_; exact PLsg jwithin_ok (h := by refine pm ?_; exact PLeg (jnumb_ok (evtR.keep hED (fun _ _ _ x => x) he2)) (h := pl)))) fun wD hp hED => so ?_
    refine aF (so ?_)
    exact Pt ⟨_, rfl, Fz, mv, .inr ⟨by rintro ⟨_, h | h | h | h | h⟩; omega; omega; omega; omega; exact b3 h.1, rfl, _, _, _, _, _, _, _, _, _, hp.tail, hr.to mv⟩⟩
  ·refine wdP 25 hp (fun wD hp hED => by refine pm ?_; exact PLs jwithin_ok (h := by refine pm ?_; exact PLsg jwithin_ok (h := pl))) fun wD hp hED => so ?_
   refine aT (so ?_)
   exact Pt ⟨_, rfl, Fz, mv, .inl ⟨⟨hk, by omega⟩, rfl, _, hp⟩⟩
 ·refine wdP 25 hp (fun wD hp hED => by refine pm ?_; exact PLs jwithin_ok (h := pl)) fun wD hp hED => so ?_
  refine aT (so ?_)
  exact Pt ⟨_, rfl, Fz, mv, .inl ⟨⟨hk, by omega⟩, rfl, _, hp⟩⟩
end Go.Proofs.Ytgheaedligkhoaa
