/- What each of these functions computes, for every argument that its theorem names; a part of what the proof of JudgeFinds stands on. -/
import Derived.Test.YtgheaedligkhoaaAab
import Derived.Test.YtgheaedligkhoaaAac
import Derived.Test.YtgheaedligkhoaaAad
import Derived.Test.YtgheaedligkhoaaAae
import Derived.Test.YtgheaedligkhoaaAaf
import Derived.Test.YtgheaedligkhoaaAag
import Derived.Test.YtgheaedligkhoaaAah
import Derived.Test.YtgheaedligkhoaaAal
import Derived.Test.YtgheaedligkhoaaAam
import Derived.Test.YtgheaedligkhoaaAao
import Derived.Test.YtgheaedligkhoaaAaq
import Derived.Test.YtgheaedligkhoaaAar
import Derived.Test.YtgheaedligkhoaaAas
namespace Go.Proofs.Ytgheaedligkhoaa
open Go.RowKit Go.Eng Go.Eng _root_.Go.Proofs.Try
set_option maxRecDepth 100000
variable {w0 w : World} {M0 Fz : Nat → Prop} {H : List It} {A : Option Addr} {c : Nat}
theorem rorder_ok {A0 A1 : Option Addr} {c0 c1 : Nat} {H : List HOp} {first : List UInt8} {S S2 : Nat → Prop} (h : HS S w A0 c0 H) (hf : BS S2 w A1 c1 first) : Ret prog 94 #[.slice A0 H.length c0, .slice A1 first.length c1] w (fun v w' => ∃ A c, v = .tuple #[.slice A (nats (ordS H first).1).length c, .bool (ordS H first).2.1, .int .i64 (ordS H first).2.2] ∧ IS (fun _ => True) w' A c (nats (ordS H first).1) ∧ Ext w w') := by
 refine ret_of_wk func94 rfl ntmps94 leB_ ?_
 have hp:=HP.begin_ w
 refine so ?_
 refine Cx hp (rcheck_ok h.tn) fun w1 hp hE1 => so ?_
 refine Cd ?_ ?_<;>intro hq
 refine so ?_
 refine wk_post3 (.inl rfl) results94 rfl rfl rfl ?_
 exact ⟨_, rfl, none, 0, by rw [ordS_bad hq]; rfl, by rw [ordS_bad hq]; exact gsn, hp.chg⟩
 replace hq : chkH H = 0 := Decidable.not_not.1 hq
 have hl14:=(chkH_zero H).1 hq |>.1
 replace hp:=hp.noRow 80 2
 refine so ?_
 skip
 refine so ?_
 refine wl_built (ps := []) (by decide) bld147 rfl rfl ?_
 refine Bx hp (h := fun gs17 w2 hp hE2 => so ?_)
 refine Ce (rfind_all (H := H) (first := first) hl14 _ w _ (fun _ => False) _ [] _ [] none 0 [] (-1) A0 A1 none c0 c1 0 hp h.tn hf.tn gsn ⟨by simp, by simp⟩ ⟨by omega, by omega⟩ ⟨by simp, by simp⟩ (Nat.le_refl _)) ?_
 rintro _ we ⟨A5, c5, q, b, T3, AT3, cT3, Fz5, rfl, hp, hs5, hC5, hq5, hM3, hT3, hG5⟩
 refine so ?_
 refine wk_post3 (.inl rfl) results94 rfl rfl rfl ?_
 cases hg : G H first 0 (-1) with
 | none =>
   rw [show bitsS [] = 0 from rfl, hg] at hG5
   rw [ordS_none hq hg, hG5.1]
   rw [hG5.2] at hq5 ⊢
   exact ⟨_, rfl, A5, c5, rfl, hq5.any, hp.chg⟩
 | some r =>
   rw [show bitsS [] = 0 from rfl, hg] at hG5
   rw [ordS_some hq hg, hG5.1]
   have hqr : q = r := by rw [hG5.2]; rfl
   rw [hqr] at hq5 ⊢
   exact ⟨_, rfl, A5, c5, rfl, hq5.any, hp.chg⟩
end Go.Proofs.Ytgheaedligkhoaa
namespace Go.Proofs.Ytgheaedligkhoaa
open Go.RowKit Go.Eng _root_.Go.Proofs.Try Go.Eng _root_.Go.Proofs.Try
set_option maxRecDepth 100000
variable {w0 w : World} {M0 Fz : Nat → Prop} {H : List It} {A : Option Addr} {c : Nat}
set_option maxHeartbeats 8000000 in
theorem lines_ok {w0 w : World} {M0 Fz : Nat → Prop} {H : List It} {q : JMem} {p : Pln} {l : List Evt} {i : Nat} {v : JVal} {cs : List Value} {e : Evt} (hj : JW w0 M0 Fz w H q p l.length (i : Int) v) (he : evtR.rd Fz w cs e) (hl : GS evtR Fz w q.A q.c l) (hi : i < l.length) (hi2 : i ≤ 40000) : Ret prog 38 #[pt q.g 0, .agg cs.toArray] w (JA w0 M0 Fz w H q p l.length (i : Int) (P11 p (l.take (i + 1)) e) 11 v) := by
 obtain ⟨f1, f2, f3, f4, f5, f6, f7, r4, r5, hp, hr⟩ := hj
 have hef := he
 obtain ⟨hI, A0, c0, A1, c1, A2, c2, A3, c3, rfl, h0, h1, h2, h3⟩ := he
 have hwe : wishR.rd Fz w (wsC e.wish A0 c0 A1 c1) e.wish := ⟨hI.wish, A0, c0, A1, c1, rfl, h0, h1⟩
 dsimp only [jH, lookC] at hp
 refine ret_of_wk func38 rfl ntmps38 leB_ ?_
 refine so ?_
 refine Bx hp (h := fun g3 w1 hp E1 => so ?_)
 replace hp := hp.as_ (H' := itB g3 46 (evC e A0 c0 A1 c1 A2 c2 A3 c3) :: jH p q l.length i v.time f1 f2 f3 f4 f5 f6 f7 r4 r5 H) rfl
 dsimp only [jH, lookC] at hp
 have out : ∀ {w' : World}, HP w0 M0 Fz w' (jH p q l.length i v.time f1 f2 f3 f4 f5 f6 f7 r4 r5 H) → Frz Fz Fz w w' → JW w0 M0 Fz w' H q p l.length i v := fun hp hF => ⟨_, _, _, _, _, _, _, _, _, hp, hr.to hF⟩
 refine Gs 11 ?_ ?_ <;> intro k1 <;> refine so ?_
 ·refine aT (so ?_)
  exact Pt ⟨_, rfl, Fz, mv, .inr ⟨fun h => k1 h.1.1, rfl, out hp.tail mv⟩⟩
 replace k1 : e.kind = 2 := Decidable.not_not.1 k1
 refine Gs 17 ?_ ?_ <;> intro k2 <;> refine so ?_
 ·refine aT (so ?_)
  exact Pt ⟨_, rfl, Fz, mv, .inr ⟨fun h => k2 h.1.2, rfl, out hp.tail mv⟩⟩
 replace k2 : e.ans.err = 0 := Decidable.not_not.1 k2
 refine Cx hp (jours_ok (rdTo hwe (F := Fz) (w' := w1)) (rdTo hwe (F := Fz) (w' := w1))) (h := fun w2 hp E2 => so ?_)
 refine Cd ?_ ?_ <;> intro k3 <;> refine so ?_
 ·exact Pt ⟨_, rfl, Fz, mv, .inr ⟨fun h => by simp [h.2.1] at k3, rfl, out hp.tail mv⟩⟩
 replace k3 : oursW e.wish e.wish := by simpa using k3
 have hpu := (hp.up 1 rfl).as_ (H' := itB q.g 64 (lookC p q l.length (i : Int) v.time) :: itB g3 46 (evC e A0 c0 A1 c1 A2 c2 A3 c3) :: itMR prog 3 0 0 q.m1 f1 nR :: itMR prog 89 0 0 q.m2 f2 nR :: itMR prog 89 0 0 q.m3 f3 nR :: itMR prog 91 96 14 q.m4 f4 r4 :: itMR prog 87 98 33 q.m5 f5 r5 :: itMR prog 3 0 0 q.m6 f6 nR :: itMR prog 3 0 0 q.m7 f7 nR :: H) rfl
 refine Ce (history_ok hpu (rdTo hwe (F := Fz) (w' := w2)) (hl.to (mv : Frz Fz Fz w w2)) hi hi2) ?_
 rintro _ w4 ⟨F2, A, c, rfl, hF2, hp4, hg⟩
 clear hp hpu
 have hp := hp4
 clear hp4
 have hFw : Frz Fz F2 w w4 := Frz.bF hF2 mv
 have out : ∀ {w' : World}, Frz F2 F2 w4 w' → HP w0 M0 F2 w' (itB q.g 64 (lookC p q l.length (i : Int) v.time) :: itB g3 46 (evC e A0 c0 A1 c1 A2 c2 A3 c3) :: itMR prog 3 0 0 q.m1 f1 nR :: itMR prog 89 0 0 q.m2 f2 nR :: itMR prog 89 0 0 q.m3 f3 nR :: itMR prog 91 96 14 q.m4 f4 r4 :: itMR prog 87 98 33 q.m5 f5 r5 :: itMR prog 3 0 0 q.m6 f6 nR :: itMR prog 3 0 0 q.m7 f7 nR :: H) → JW w0 M0 F2 w' H q p l.length i v := fun hF hp => ⟨_, _, _, _, _, _, _, _, _, (hp.up 1 rfl).tail, hr.to (Frz.bF hF hFw)⟩
 dsimp only [lookC] at hp
 refine so ?_
 refine Cd ?_ ?_ <;> intro k4 <;> refine so ?_
 ·exact Pt ⟨_, rfl, F2, hFw, .inr ⟨fun h => (by have := h.2.2.1; omega), rfl, out (Frz.start _ _) hp⟩⟩
 refine wl_make (k := 16) (z := .int .u8 0) (by decide) sl40 (by kernel_rfl) rfl rfl (by omega) 0 (Nat.zero_le _) ?_
 rintro g5 w5 hg5 hrow E5
 replace hp := hp.ext E5
 have hz : BS (fun _ => True) w5 (some ⟨g5, 0, none⟩) 16 (List.replicate 16 0) := by
  refine OwnRow.gsRF (r := byteR) (rows := List.replicate 16 [bv 0]) (l := List.replicate 16 0) hrow ⟨rfl, fun j hj => ⟨[bv 0], ?_, ?_⟩⟩ (fun _ _ _ => trivial)
  ·rw [List.length_replicate] at hj
   rw [List.getElem?_replicate, if_pos hj]
  ·rw [List.getElem_replicate]
   exact rfl
 refine so ?_
 refine Cx hp (plinear_ok (hg.to (mv : Frz F2 F2 w4 w5)) hz) (h := fun w6 hp E6 => so ?_)
 have hlin := linO_ord (histP p e.wish (l.take (i + 1))) (List.replicate 16 0)
 generalize hok : (ordS (histP p e.wish (l.take (i + 1))) (List.replicate 16 0)).2.1 = ok at hlin
 generalize her : (ordS (histP p e.wish (l.take (i + 1))) (List.replicate 16 0)).2.2 = er at hlin
 refine Gs 40 ?_ ?_ <;> intro k5 <;> refine so ?_
 ·refine Cd ?_ ?_ <;> intro k6 <;> refine so ?_
  ·have k6' : ok = false := by simpa using k6
   exact Pt ⟨_, rfl, F2, Frz.bF (mv : Frz F2 F2 w4 w6) hFw, .inl ⟨⟨⟨k1, k2⟩, k3, by omega, by rw [hlin, k6', k5]⟩, rfl, _, hp⟩⟩
  ·have k6' : ok = true := by simpa using k6
   exact Pt ⟨_, rfl, F2, Frz.bF (mv : Frz F2 F2 w4 w6) hFw, .inr ⟨fun h => (by have := h.2.2.2; rw [hlin, k6'] at this; cases this), rfl, out mv hp⟩⟩
 ·refine aF (so ?_)
  exact Pt ⟨_, rfl, F2, Frz.bF (mv : Frz F2 F2 w4 w6) hFw, .inr ⟨fun h => (by have := h.2.2.2; rw [hlin] at this; exact k5 (Prod.mk.inj this).2), rfl, out mv hp⟩⟩
set_option maxHeartbeats 8000000 in
theorem begins_ok {w0 w : World} {M0 Fz : Nat → Prop} {H : List It} {q : JMem} {p : Pln} {ln : Nat} {here : Int} {v : JVal} {cs : List Value} {e : Evt} (hj : JW w0 M0 Fz w H q p ln here v) (he : evtR.rd Fz w cs e) (hE : e.kind = 7 → 0 ≤ e.epoch) : Ret prog 35 #[pt q.g 0, .agg cs.toArray] w (JA w0 M0 Fz w H q p ln here (V7 v e) 7 (u7 v e)) := by
 obtain ⟨f1, f2, f3, f4, f5, f6, f7, r4, r5, hp, hr⟩ := hj
 have hef := he
 obtain ⟨hI, A0, c0, A1, c1, A2, c2, A3, c3, rfl, h0, h1, h2, h3⟩ := he
 have hIg : i64 e.group := hI.2.2.2.2.1
 have hIe : i64 e.epoch := hI.2.2.2.2.2.1
 dsimp only [jH, lookC] at hp
 refine ret_of_wk func35 rfl ntmps35 leB_ ?_
 refine so ?_
 refine Bx hp (h := fun g3 w1 hp E1 => so ?_)
 replace hp := hp.as_ (H' := itB g3 46 (evC e A0 c0 A1 c1 A2 c2 A3 c3) :: jH p q ln here v.time f1 f2 f3 f4 f5 f6 f7 r4 r5 H) rfl
 dsimp only [jH, lookC] at hp
 refine Cd ?_ ?_ <;> intro k7 <;> refine so ?_
 ·refine Pt ⟨_, rfl, Fz, mv, .inr ⟨fun h => k7 h.1, rfl, ?_⟩⟩
  rw [u7, if_neg (fun h => k7 h.1)]
  exact ⟨_, _, _, _, _, _, _, _, _, hp.tail, hr.to mv⟩
 replace k7 : e.kind = 7 := Decidable.not_not.1 k7
 refine Cd ?_ ?_ <;> intro k0 <;> refine sl ?_
 ·have ho := hr.f e.group
  have ro : ∀ {i : Nat} {T : Nat → Option Value} {u : Value} {wx : World}, i ≠ 11 → i ≠ 10 → RlS 10 11 5 39 (digC dig0) (digC ((v.frst e.group).getD dig0)) i T u wx wx := fun a b => RlS.o a b (Chg.refl _ _)
  refine wc_seq ?_
  refine wc_drawS 12 10 11 5 39 (digC dig0) (digC ((v.frst e.group).getD dig0)) [.eq (pt q.g 0), .eq (pt q.g 0), .eq (pt q.g 13), .eq (.map (some q.m6)), .eq (pt g3 4), .eq (iv e.group), .eq (.tuple [digV ((v.frst e.group).getD dig0), .bool (v.frst e.group).isSome].toArray), .eq (.tuple [digV ((v.frst e.group).getD dig0), .bool (v.frst e.group).isSome].toArray), .eq (digV ((v.frst e.group).getD dig0)), .eq (.bool (v.frst e.group).isSome), .any, .any] (by kernel_rfl) (by decide) ?_ leB_ ?_ ?_
  ·exact ⟨.inr (fun _ _ _ _ h => h), .inr (fun _ _ _ _ h => h), .inr (fun _ _ _ _ h => h), .inr (fun _ _ _ _ h => h), .inr (fun _ _ _ _ h => h), .inr (fun _ _ _ _ h => h), .inr (fun _ _ _ _ h => h), .inr (fun _ _ _ _ h => h), .inr (fun _ _ _ _ h => h), .inr (fun _ _ _ _ h => h), .inr (fun _ _ _ _ h => h), .inr (fun _ _ _ _ h => h), trivial⟩
  ·refine ⟨?_, ?_, ?_, ?_, ?_, ?_, ?_, ?_, ?_, ?_, ?_, ?_, trivial⟩ <;> intro F wF hER hk hbox
   ·exact dm (hk.qi 0) (hr := ⟨ro (by decide) (by decide), rfl⟩)
   ·exact wl_nilCheck (by decide) (hk.qe 0) (qz ⟨ro (by decide) (by decide), rfl⟩)
   ·exact Fd_ 13 fld64_9 (hk.qe 1) rfl (qz ⟨ro (by decide) (by decide), rfl⟩)
   ·exact Hl_ 1 sc61 (hk.qe 2) (hp.ext hER) rfl rfl (qz ⟨ro (by decide) (by decide), rfl⟩)
   ·exact Fd_ 4 fld46_4 (hk.qi 3) rfl (qz ⟨ro (by decide) (by decide), rfl⟩)
   ·exact Hl_ 0 sc3 (hk.qe 4) (hp.ext hER) rfl rfl (qz ⟨ro (by decide) (by decide), rfl⟩)
   ·exact lkO (e := 39) (by rw [ho]; cases v.frst e.group <;> rfl) (by rw [ho]; cases v.frst e.group <;> rfl) kI3 (kof3 hIg) ((hp.ext hER).mapR (i := 7) rfl) (qz ⟨ro (by decide) (by decide), rfl⟩) (hz := kd39) (hx := hk.qe 3) (hi := hk.qe 5)
   ·exact dm (hk.qe 6) (hr := ⟨ro (by decide) (by decide), rfl⟩)
   ·exact wl_extract (i := 0) (by decide) (hk.qe 7) rfl (qz ⟨ro (by decide) (by decide), rfl⟩)
   ·exact wl_extract (i := 1) (by decide) (hk.qe 7) rfl (qz ⟨ro (by decide) (by decide), rfl⟩)
   ·refine wl_alloc (z := digV dig0) (by decide) kd39 ?_
    rintro g wg rfl hb hEg
    exact qz ⟨RlS.a (by decide) hb hEg, trivial⟩
   ·obtain ⟨g, hg, hb⟩ := hbox rfl
    refine wl_storeB2 (o := 0) (v := digV ((v.frst e.group).getD dig0)) hg (hk.qe 8) hb sz39 (Nat.le_refl _) (List.all_eq_true.1 rfl) (fun w' hb' hch => ?_)
    exact wl_nil (qr_none ⟨RlS.f hg hch hb', trivial⟩)
  intro F wD hED hini hdo hbx
  obtain ⟨g5, lg5, e5, hb5⟩ := hbx
  have e22 := dr hdo 9
  refine wl_drop [(0, _), (3, _), (4, _), (5, _), (22, _)] ⟨di hini 0, di hini 3, di hini 4, e5, e22, trivial⟩ ?_
  clear hini hdo e5 e22
  replace hp := hp.add hED (x := itB g5 39 (digC ((v.frst e.group).getD dig0))) (K := fun b => b = g5) ⟨hb5, fun _ => Iff.rfl⟩ (fun b hb => by rw [hb]; exact lg5)
  rcases hx : v.frst e.group with _ | d <;> rw [hx] at hp
  ·refine wl_re (k := 22) (u := .bool (Option.isSome (none : Option Dig))) (v := .bool false) rfl rfl ?_
   refine so ?_
   refine aF (so ?_)
   refine wdP 8 hp (fun wD hp hED => pl) fun w5 hp E5 => ?_
   refine wl_rmapUpdate (i := 8) kI3 (e := 39) (by kernel_rfl) rfl rfl rfl (kof3 hIg) hp rfl rfl (fun w6 hp C6 => ?_)
   replace hp := hp.as_ (H' := itB g5 39 _ :: itB g3 46 _ :: itB q.g 64 (lookC p q ln here v.time) :: itMR prog 3 0 0 q.m1 f1 nR :: itMR prog 89 0 0 q.m2 f2 nR :: itMR prog 89 0 0 q.m3 f3 nR :: itMR prog 91 96 14 q.m4 f4 r4 :: itMR prog 87 98 33 q.m5 f5 r5 :: itMR prog 3 0 0 q.m6 (updF f6 (iv e.group) (digV e.dig)) nR :: itMR prog 3 0 0 q.m7 f7 nR :: H) rfl
   refine so ?_
   have hr2 := hr.to (F := Fz) (w' := w6) mv
   refine Pt ⟨_, rfl, Fz, mv, .inr ⟨fun h => (by rcases h.2 with h2 | h2; rw [hx] at h2; cases h2.2; exact h2.1 k0), rfl, ?_⟩⟩
   rw [u7, if_pos ⟨k7, k0⟩]
   exact ⟨_, _, _, _, _, _, _, _, _, hp.tail.tail, hr2.d, hr2.b, hr2.m, hr2.j, hr2.s, hr2.f.up _ _, hr2.c⟩
  ·refine wl_re (k := 22) (u := .bool (Option.isSome (some d))) (v := .bool true) rfl rfl ?_
   refine so ?_
   refine wl_neqK (m := 6) (d = e.dig) (by decide) key39 eg39 rfl rfl (digC_fit _) (digC_fit _) digC_inj ?_
   refine so ?_
   refine Cd ?_ ?_ <;> intro hd <;> refine so ?_
   ·exact Pt ⟨_, rfl, Fz, mv, .inl ⟨⟨k7, .inl ⟨k0, by rw [hx]; exact decide_eq_true hd⟩⟩, rfl, _, hp⟩⟩
   refine wdP 8 hp (fun wD hp hED => pl) fun w5 hp E5 => ?_
   refine wl_rmapUpdate (i := 8) kI3 (e := 39) (by kernel_rfl) rfl rfl rfl (kof3 hIg) hp rfl rfl (fun w6 hp C6 => ?_)
   replace hp := hp.as_ (H' := itB g5 39 _ :: itB g3 46 _ :: itB q.g 64 (lookC p q ln here v.time) :: itMR prog 3 0 0 q.m1 f1 nR :: itMR prog 89 0 0 q.m2 f2 nR :: itMR prog 89 0 0 q.m3 f3 nR :: itMR prog 91 96 14 q.m4 f4 r4 :: itMR prog 87 98 33 q.m5 f5 r5 :: itMR prog 3 0 0 q.m6 (updF f6 (iv e.group) (digV e.dig)) nR :: itMR prog 3 0 0 q.m7 f7 nR :: H) rfl
   refine so ?_
   have hr2 := hr.to (F := Fz) (w' := w6) mv
   refine Pt ⟨_, rfl, Fz, mv, .inr ⟨fun h => (by rcases h.2 with h2 | h2; rw [hx] at h2; exact hd (of_decide_eq_true h2.2); exact h2.1 k0), rfl, ?_⟩⟩
   rw [u7, if_pos ⟨k7, k0⟩]
   exact ⟨_, _, _, _, _, _, _, _, _, hp.tail.tail, hr2.d, hr2.b, hr2.m, hr2.j, hr2.s, hr2.f.up _ _, hr2.c⟩
 ·have k1 := hE k7
  have hIe1 : i64 (e.epoch - 1) := by unfold i64 at *; omega
  obtain ⟨lk, hlk⟩ := kofE (g := e.group) (ep := e.epoch - 1) hIg hIe1
  obtain ⟨F2, hp, s2, hat⟩ := HP.frzBlk hp
  have f2 : Frz Fz F2 w1 w1 := ⟨Chg.refl _ _, s2⟩
  obtain ⟨AQ, dQ, hvQ, hgQ⟩ := sealAt hp (i := 5) rfl hr.s e.group (e.epoch - 1)
  have f2w : Frz Fz F2 w w1 := Frz.bF f2 mv
  refine so ?_
  have hat4 : AtF F2 w1 ((⟨g3, 0, none⟩ : Addr).add 4) [iv e.group, iv e.epoch] := hat.sub 4 2
  have hat5 : AtF F2 w1 ((⟨g3, 0, none⟩ : Addr).add 5) [iv e.epoch] := hat.sub 5 1
  have hIe2 := hIe
  unfold i64 at hIe2
  have hfn : ∀ w', Ext w1 w' → ∀ w'' x cs, Ext w' w'' → markR.rd (fun _ => True) w'' cs x → Ret prog 57 #[.agg (cs : List Value).toArray, pt g3 0] w'' (fun v w3 => v = .bool (decide (x.dig = e.dig)) ∧ Ext w'' w3) := fun w' E w'' x cs E2 hx => begins1_ok (hat.ext (E.trans E2)) hx
  refine wdP 14 hp (fun wD hp hED => by
   refine pm ?_
   apply PL.op
   ·rfl
   ·exact wl_builtS (ps := [(0, .tmp 43), (1, .tmp 46)]) (by decide) bld87 rfl rfl (wl_nil qp)
   refine pm ?_
   apply PL.op
   ·rfl
   ·exact lkV (e := 99) (z := .slice none 0 0) hvQ (keyed_of kb87) hlk (hp.mapR (i := 5) rfl) (wl_nil qp)
   refine pm ?_
   exact PLe (hasM_ok (pr := fun m => decide (m.dig = e.dig)) cl57 (hgQ.ext hED) (hfn wD hED)) (h := pl)) fun wD hp hED => so ?_
  refine Cd ?_ ?_ <;> intro hd <;> refine so ?_
  ·exact Pt ⟨_, rfl, F2, Frz.bF (mv : Frz F2 F2 w1 wD) f2w, .inl ⟨⟨k7, .inr ⟨k0, by simpa using hd⟩⟩, rfl, _, hp⟩⟩
  ·refine Pt ⟨_, rfl, F2, Frz.bF (mv : Frz F2 F2 w1 wD) f2w, .inr ⟨fun h => ?_, rfl, ?_⟩⟩
   ·rcases h.2 with h2 | h2
    ·exact k0 h2.1
    ·rw [h2.2] at hd; simp at hd
   ·rw [u7, if_neg (fun h => k0 h.2)]
    exact ⟨_, _, _, _, _, _, _, _, _, hp, hr.to (Frz.bF (mv : Frz F2 F2 w1 wD) f2w)⟩
theorem anJ_nn (p : Pln) (l : List Evt) (i : Nat) (v : JVal) (e : Evt) (j : Nat) : 0 ≤ anJ p l i v e j := by
 unfold anJ
 split <;> (repeat' split) <;> decide
def valOf (pre : List Evt) : JVal := pre.foldl valF val0
theorem ValB.st {v : JVal} {n : Nat} (h : ValB v n) (e : Evt) : ValB (stJ v e 4) n ∧ ValB (stJ v e 5) (n + 1) ∧ (∀ g ep, ((stJ v e 5).sld g ep).length ≤ n) ∧ (∀ a, (calOf (stJ v e 7) a) = calOf v a) ∧ ValB (stJ v e 10) (n + 1) := by
 have h4 := (h.u2 e).u4 e
 have h5 := h4.u5 e
 have e5 : (stJ v e 5).sld = v.sld := (u5_oth _ e).1.trans ((u4_oth _ e).1.trans (u2_sld v e).1)
 have s5 : ∀ g ep, ((stJ v e 5).sld g ep).length ≤ n := fun g ep => by rw [e5]; exact h.s g ep
 have h6 := h5.u6 s5 e
 have h7 := h6.u7 e
 have e7 : (stJ v e 7).calls = v.calls := (u7_oth _ e).2.1.trans ((u6_oth _ e).2.1.trans ((u5_oth _ e).2.1.trans ((u4_oth _ e).2.1.trans (u2_sld v e).2.1)))
 have c7 : ∀ a, (calOf (stJ v e 7) a) = calOf v a := fun a => by unfold calOf; rw [e7]
 exact ⟨h4, h5, s5, c7, (h7.u8 (fun a => by have := c7 a; have h2 := h.m a; rw [← this] at h2; exact h2.2) e).u9 e⟩
theorem stJ_bat (v : JVal) (e : Evt) : (stJ v e 10).bat = (u4 (u2 v e) e).bat := (u9_oth _ e).2.2.1.trans ((u8_oth _ e).2.2.1.trans ((u7_oth _ e).2.2.1.trans ((u6_oth _ e).2.2.1.trans (u5_oth _ e).2.2.1)))
theorem stJ_mrk (v : JVal) (e : Evt) : (stJ v e 10).mrk = (u4 (u2 v e) e).mrk := (u9_oth _ e).2.2.2.1.trans ((u8_oth _ e).2.2.2.1.trans ((u7_oth _ e).2.2.2.1.trans ((u6_oth _ e).2.2.2.1.trans (u5_oth _ e).2.2.2.1)))
theorem stJ_down (v : JVal) (e : Evt) : (stJ v e 10).down = (u2 v e).down := (u9_oth _ e).2.2.2.2.1.trans ((u8_oth _ e).2.2.2.2.1.trans ((u7_oth _ e).2.2.2.2.1.trans ((u6_oth _ e).2.2.2.2.1.trans ((u5_oth _ e).2.2.2.2.1.trans (u4_oth _ e).2.2.2.1))))
theorem stJ_sld5 (v : JVal) (e : Evt) : (stJ v e 5).sld = v.sld := (u5_oth _ e).1.trans ((u4_oth _ e).1.trans (u2_sld v e).1)
theorem stJ_frst6 (v : JVal) (e : Evt) : (stJ v e 6).frst = v.frst := (u6_oth _ e).2.2.2.2.2.1.trans ((u5_oth _ e).2.2.2.2.2.1.trans ((u4_oth _ e).2.2.2.2.1.trans (u2_sld v e).2.2.2.2.1))
theorem stJ_calls7 (v : JVal) (e : Evt) : (stJ v e 7).calls = v.calls := (u7_oth _ e).2.1.trans ((u6_oth _ e).2.1.trans ((u5_oth _ e).2.1.trans ((u4_oth _ e).2.1.trans (u2_sld v e).2.1)))
theorem R5_iff {p : Pln} {l : List Evt} {k : Nat} (hk : k < l.length) : R5 p (l.take (k + 1)) (l.getD k evt0) ↔ P5 p (l.take (k + 1)) (l.getD k evt0) := by
 have hown : (l.getD k evt0).kind = 3 → runsE (l.getD k evt0) (l.getD k evt0).a (l.take (k + 1)) = runsE (l.getD k evt0) (l.getD k evt0).a (l.take k) ++ [l.getD k evt0] := fun h3 => by
  refine (foldl_take _ _ hk).trans ?_
  rw [if_pos rfl, if_neg (show ¬ (l.getD k evt0).kind = 9 by omega), if_pos ⟨h3, ⟨rfl, rfl⟩, rfl⟩]
  rfl
 unfold R5 P5
 refine and_congr_right (fun h3 => ?_)
 have ho := hown h3
 generalize l.getD k evt0 = e at *
 generalize l.take (k + 1) = L at *
 have : ∀ n, q5 e L n = p5 e L n := fun n => by
  unfold q5 p5
  rw [jobs_runs, jobs_runs, List.length_map, List.length_map]
  refine decide_eq_decide.2 ?_
  by_cases hn : n = e.a
  ·subst hn
   refine ⟨fun x => absurd rfl x.1, fun x => absurd ?_ x.2⟩
   rw [ho, List.length_append, List.length_singleton, Nat.add_sub_cancel, List.map_append, List.getD_eq_getElem?_getD, List.getElem?_append_right (by rw [List.length_map]; exact Nat.le_refl _), List.length_map, Nat.sub_self]
   rfl
  ·have hpos : 0 < (runsE e e.a L).length := by rw [ho, List.length_append, List.length_singleton]; omega
   have hg : (runsE e e.a L).length ≤ (runsE e n L).length → ((runsE e n L).map fun x => (⟨x.wish, x.ans⟩ : Job)).getD ((runsE e e.a L).length - 1) job0 = ⟨((runsE e n L).getD ((runsE e e.a L).length - 1) evt0).wish, ((runsE e n L).getD ((runsE e e.a L).length - 1) evt0).ans⟩ := fun h => by
    rw [List.getD_eq_getElem?_getD, List.getD_eq_getElem?_getD, List.getElem?_map, List.getElem?_eq_getElem (by omega)]
    rfl
   constructor
   ·rintro ⟨_, h1, h2⟩
    refine ⟨h1, ?_⟩
    rw [hg h1]
    exact fun x => h2 ⟨(Job_eq.1 x).1, (Job_eq.1 x).2⟩
   ·rintro ⟨h1, h2⟩
    rw [hg h1] at h2
    exact ⟨hn, h1, fun x => h2 (Job_eq.2 x)⟩
 have hq : q5 e L = p5 e L := funext this
 rw [hq]
theorem V5_iff {p : Pln} {v : JVal} {l : List Evt} {k : Nat} (h : VP (valF v (l.getD k evt0)) (l.take (k + 1))) : V5 p (stJ v (l.getD k evt0) 4) (l.getD k evt0) ↔ P5 p (l.take (k + 1)) (l.getD k evt0) := by
 unfold V5 P5
 refine and_congr_right (fun h3 => ?_)
 have hj : ∀ g ep s n, upj (stJ v (l.getD k evt0) 4) (l.getD k evt0) g ep s n = jobsS n g ep s (l.take (k + 1)) := fun g ep s n => by
  rw [← h.jobs]
  show _ = (stJ v (l.getD k evt0) 10).jobs g ep s n
  rw [stJ_jobs, u5, if_pos h3]
  rfl
 have : p5v (upj (stJ v (l.getD k evt0) 4) (l.getD k evt0)) (l.getD k evt0) = p5 (l.getD k evt0) (l.take (k + 1)) := funext fun n => by
  unfold p5v p5
  rw [hj, hj]
  exact decide_eq_decide.2 (and_congr_right (fun _ => ⟨fun h x => h ⟨(Job_eq.1 x).1, (Job_eq.1 x).2⟩, fun h x => h (Job_eq.2 x)⟩))
 rw [this]
theorem out_no {l : List Evt} {o : Wsh} {k : Nat} (h2 : ¬ (l.getD k evt0).kind = 2) (h1 : ¬ ourC l o k) : (List.range (k + 1)).filterMap (opK l o (k + 1)) = (List.range k).filterMap (opK l o k) := by
 rw [List.range_succ, List.filterMap_append, List.filterMap_cons_none (show opK l o (k + 1) k = none from if_neg h1), List.filterMap_nil, List.append_nil]
 exact fm_congr (fun j hj => opK_same hj (endK_not2 hj (fun x => h2 x.1)))
theorem HV.nil (p : Pln) (o : Wsh) (l : List Evt) : HV p o l 0 := ⟨rfl, rfl, fun a => (if_neg (fun x => absurd (show (0 : Int) ≤ -1 from x.1) (by decide))).symm, rfl, fun c t => ⟨fun h => (by cases h), fun ⟨_, h, _⟩ => (by cases h)⟩⟩
end Go.Proofs.Ytgheaedligkhoaa
