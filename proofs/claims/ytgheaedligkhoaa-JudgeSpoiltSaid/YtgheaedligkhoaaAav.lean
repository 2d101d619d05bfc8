/- What each of these functions computes, for every argument that its theorem names; a part of what the proof of JudgeFinds stands on. -/
import Derived.Test.YtgheaedligkhoaaAab
import Derived.Test.YtgheaedligkhoaaAac
import Derived.Test.YtgheaedligkhoaaAad
import Derived.Test.YtgheaedligkhoaaAae
import Derived.Test.YtgheaedligkhoaaAaf
import Derived.Test.YtgheaedligkhoaaAag
import Derived.Test.YtgheaedligkhoaaAah
import Derived.Test.YtgheaedligkhoaaAam
import Derived.Test.YtgheaedligkhoaaAao
import Derived.Test.YtgheaedligkhoaaAap
import Derived.Test.YtgheaedligkhoaaAaq
import Derived.Test.YtgheaedligkhoaaAar
import Derived.Test.YtgheaedligkhoaaAas
import Derived.Test.YtgheaedligkhoaaAat
import Derived.Test.YtgheaedligkhoaaAau
namespace Go.Proofs.Ytgheaedligkhoaa
open Go.RowKit Go.Eng Go.Eng _root_.Go.Proofs.Try
set_option maxRecDepth 100000
variable {w0 w : World} {M0 Fz : Nat → Prop} {H : List It} {A : Option Addr} {c : Nat}
theorem rlinear_ok {A0 A1 : Option Addr} {c0 c1 : Nat} {H : List HOp} {first : List UInt8} {S S2 : Nat → Prop} {w : World} (h : HS S w A0 c0 H) (hf : BS S2 w A1 c1 first) : Ret Try.prog 89 #[.slice A0 H.length c0, .slice A1 first.length c1] w (fun v w' => v = .tuple #[.bool (ordS H first).2.1, .int .i64 (ordS H first).2.2] ∧ Ext w w') := by
 refine ret_of_wk Try.func89 rfl Try.ntmps89 (Nat.le_of_ble_eq_true rfl) ?_
 refine wc_seq ?_
 refine wc_region ?_
 refine wl_assign (by decide) rfl ?_
 refine wl_assign (by decide) rfl ?_
 refine wl_nil ?_
 refine wk_norm ?_
 refine wc_seq ?_
 refine wc_region ?_
 refine wl_move (by decide) rfl ?_
 refine wl_move (by decide) rfl ?_
 have hcl := rorder_ok h hf
 refine wl_call (by decide) Try.cl94 rfl hcl ?_
 clear hcl
 rintro _ w1 ⟨A, c, rfl, ho, hE⟩
 refine wl_move (by decide) rfl ?_
 refine wl_extract (by decide) rfl rfl ?_
 refine wl_extract (by decide) rfl rfl ?_
 refine wl_extract (by decide) rfl rfl ?_
 refine wl_assign (by decide) rfl ?_
 refine wl_assign (by decide) rfl ?_
 refine wl_assign (by decide) rfl ?_
 refine wl_nil ?_
 refine wk_norm ?_
 refine wc_seq ?_
 refine wc_region ?_
 refine wl_move (by decide) rfl ?_
 refine wl_move (by decide) rfl ?_
 refine wl_assign (by decide) rfl ?_
 refine wl_assign (by decide) rfl ?_
 refine wl_nil ?_
 refine wk_norm ?_
 refine wc_ret ?_
 refine wk_post2 (.inl rfl) Try.results89 rfl rfl ?_
 exact ⟨_, rfl, rfl, hE⟩
end Go.Proofs.Ytgheaedligkhoaa
namespace Go.Proofs.Ytgheaedligkhoaa
open Go.RowKit Go.Eng _root_.Go.Proofs.Try Go.Eng _root_.Go.Proofs.Try
set_option maxRecDepth 100000
variable {w0 w : World} {M0 Fz : Nat → Prop} {H : List It} {A : Option Addr} {c : Nat}
theorem valOf_step {l : List Evt} {k : Nat} (h : k < l.length) : valOf (l.take (k + 1)) = valF (valOf (l.take k)) (l.getD k evt0) := foldl_take _ _ h
theorem valOf_b (pre : List Evt) : ValB (valOf pre) pre.length := by
 have : ∀ (l : List Evt) (v : JVal) (n : Nat), ValB v n → ValB (l.foldl valF v) (n + l.length) := by
  intro l
  induction l with
  | nil => intro v n h; exact h
  | cons x l ih =>
   intro v n h
   rw [List.foldl_cons, List.length_cons, show n + (l.length + 1) = (n + 1) + l.length from by omega]
   refine ih _ _ ?_
   have := (h.st x).2.2.2.2
   exact ⟨this.j, this.s, this.m⟩
 have h := this pre val0 0 ⟨fun _ _ _ _ => Nat.le_refl _, fun _ _ => Nat.le_refl _, fun _ => ⟨Int.le_refl _, Int.le_refl _⟩⟩
 simpa [valOf] using h
theorem rule_ok {w0 w : World} {M0 Fz : Nat → Prop} {H : List It} {q : JMem} {p : Pln} {l : List Evt} {i : Nat} {v : JVal} {cs : List Value} {e : Evt} (hM : PlnMay p) (hP : PlnI p) (hl : GS evtR Fz w q.A q.c l) (hi : i < l.length) (hi2 : i < 32768) (he : evtR.rd Fz w cs e) (hv : ValB v i) (j : Nat) (hj10 : j < 10)
  (hno : ∀ j', j' < j → anJ p l i v e j' = 0) (hj : JW w0 M0 Fz w H q p l.length (i : Int) (stJ v e j)) : Ret prog (29 + j) #[pt q.g 0, .agg cs.toArray] w (JB w0 M0 Fz w H q p l.length (i : Int) (anJ p l i v e j) (stJ v e (j + 1))) := by
 have hB := hv.st e
 have : j = 0 ∨ j = 1 ∨ j = 2 ∨ j = 3 ∨ j = 4 ∨ j = 5 ∨ j = 6 ∨ j = 7 ∨ j = 8 ∨ j = 9 := by omega
 rcases this with rfl | rfl | rfl | rfl | rfl | rfl | rfl | rfl | rfl | rfl
 ·exact Ret.mono (shape_ok hj he hM hP) (fun _ _ h => h.jb (by decide))
 ·exact Ret.mono (lives_ok hj he) (fun _ _ h => h.jb (by decide))
 ·exact Ret.mono (numbers_ok hj he hM) (fun _ _ h => h.jb (by decide))
 ·exact Ret.mono (agrees_ok hj he) (fun _ _ h => h.jb (by decide))
 ·exact Ret.mono (runs_ok hj he hM hP (by have := hB.1.j e.group e.epoch e.seq e.a; omega)) (fun _ _ h => h.jb (by decide))
 ·exact Ret.mono (seals_ok hj he (by have := hB.2.2.1 e.group e.epoch; omega)) (fun _ _ h => h.jb (by decide))
 ·have h3 : ¬ R3 p e := fun h => by
   have := hno 2 (by decide)
   unfold anJ at this
   rw [if_pos h] at this
   cases this
  exact Ret.mono (begins_ok hj he (fun h7 => Decidable.byContradiction (fun hn => h3 ⟨.inr (.inr h7), .inr (.inr (.inl (by omega)))⟩))) (fun _ _ h => h.jb (by decide))
 ·exact Ret.mono (asks_ok hj he (by have h1 := hv.m e.a; rw [hB.2.2.2.1 e.a]; omega)) (fun _ _ h => h.jb (by decide))
 ·refine Ret.mono (ends_ok hj he hl hi) (fun x w2 h => ?_)
  obtain ⟨F2, h1, ⟨h2, h3, h4⟩ | ⟨h2, h2', h3, h4⟩ | ⟨h2, h2', h3, h4⟩⟩ := h
  ·have ea : anJ p l i v e 8 = 9 := if_pos h2
   exact ⟨F2, h1, by rw [ea]; exact h3, .inl ⟨by rw [ea]; decide, h4⟩⟩
  ·have ea : anJ p l i v e 8 = 10 := (if_neg h2).trans (if_pos h2')
   exact ⟨F2, h1, by rw [ea]; exact h3, .inl ⟨by rw [ea]; decide, h4⟩⟩
  ·have ea : anJ p l i v e 8 = 0 := (if_neg h2).trans (if_neg h2')
   exact ⟨F2, h1, by rw [ea]; exact h3, .inr ⟨ea, h4⟩⟩
 ·exact Ret.mono (lines_ok hj he hl hi (by omega)) (fun _ _ h => h.jb (by decide))
theorem VP.step {v : JVal} {l : List Evt} {k : Nat} (h : VP v (l.take k)) (hk : k < l.length) (h2 : ¬ R2 (l.take k) (l.getD k evt0)) : VP (valF v (l.getD k evt0)) (l.take (k + 1)) := by
 have hcg := fun a => callS_getD (a := a) (l := l) (k := k) (by omega)
 have hcg1 := fun a => callS_getD (a := a) (l := l) (k := k + 1) (by omega)
 have hcs := fun a => callS_step a hk
 have hcn := fun a => callS_n a (l.take k)
 have hcp := fun a => callS_p a (l.take k)
 have hlast : lastT (l.take (k + 1)) = (l.getD k evt0).time := foldl_take _ _ hk
 have hdown : ∀ a, downB a (l.take (k + 1)) = (if (l.getD k evt0).a = a then (if (l.getD k evt0).kind = 8 then true else if (l.getD k evt0).kind = 9 then false else downB a (l.take k)) else downB a (l.take k)) := fun a => foldl_take _ _ hk
 have hjob : ∀ g ep s n, jobsS n g ep s (l.take (k + 1)) = jobsF n g ep s (jobsS n g ep s (l.take k)) (l.getD k evt0) := fun g ep s n => foldl_take _ _ hk
 have hbat : ∀ kd g ep s, batS kd g ep s (l.take (k + 1)) = (if batQ kd g ep s (l.getD k evt0) then some (l.getD k evt0).dig else batS kd g ep s (l.take k)) := fun kd g ep s => lastD_step _ hk
 have hfst : ∀ g, firstS g (l.take (k + 1)) = (if fstQ g (l.getD k evt0) then some (l.getD k evt0).dig else firstS g (l.take k)) := fun g => lastD_step _ hk
 have hsl : ∀ g ep, sealS g ep (l.take (k + 1)) = sealS g ep (l.take k) ++ (if sealQ g ep (l.getD k evt0) then [⟨(l.getD k evt0).seq, (l.getD k evt0).dig⟩] else []) := fun g ep => by
  unfold sealS
  rw [take_snoc evt0 hk, List.filter_append, List.map_append]
  congr 1
  by_cases hq : sealQ g ep (l.getD k evt0) = true
  ·rw [if_pos hq, List.filter_cons_of_pos hq]; rfl
  ·rw [if_neg hq, List.filter_cons_of_neg hq]; rfl
 have hll : (l.take k).length = k := by rw [List.length_take]; omega
 generalize he : l.getD k evt0 = e at *
 refine ⟨hlast.symm, fun a => ?_, fun g ep s => ?_, fun g ep s => ?_, fun g ep s n => ?_, fun g ep => ?_, fun g => ?_, fun a => ?_⟩
 ·show (stJ v e 10).down a = _
  rw [stJ_down, hdown]
  unfold u2
  by_cases hc : clientE e
  ·rw [if_pos hc, h.down]
   unfold clientE at hc
   rw [if_neg (show ¬ e.kind = 8 by omega), if_neg (show ¬ e.kind = 9 by omega), ite_self]
  ·rw [if_neg hc]
   dsimp only
   by_cases ha : a = e.a
   ·subst ha
    rw [if_pos rfl, if_pos rfl]
    have hd : downB e.a (l.take k) = decide (e.kind = 9) := Decidable.not_not.1 (fun hn => h2 ⟨hc, hn⟩)
    rw [hd]
    by_cases k8 : e.kind = 8
    ·rw [if_pos k8]; exact decide_eq_true k8
    ·rw [if_neg k8, decide_eq_false k8]
     by_cases k9 : e.kind = 9
     ·rw [if_pos k9]
     ·rw [if_neg k9, decide_eq_false k9]
   ·rw [if_neg ha, if_neg (fun x => ha x.symm), h.down]
 ·show (stJ v e 10).bat g ep s = _
  rw [stJ_bat, hbat, ← h.bat]
  have hb := (u2_sld v e).2.2.1
  unfold u4 batQ
  by_cases k3 : e.kind = 3
  ·rw [if_pos k3]
   dsimp only [up3]
   rw [hb]
   by_cases hq : g = e.group ∧ ep = e.epoch ∧ s = e.seq
   ·rw [if_pos hq, if_pos (decide_eq_true ⟨k3, hq.1.symm, hq.2.1.symm, hq.2.2.symm⟩)]
   ·rw [if_neg hq, if_neg (fun x => hq ⟨(of_decide_eq_true x).2.1.symm, (of_decide_eq_true x).2.2.1.symm, (of_decide_eq_true x).2.2.2.symm⟩)]
  ·have hq : ¬ (decide (e.kind = 3 ∧ e.group = g ∧ e.epoch = ep ∧ e.seq = s) = true) := fun x => k3 (of_decide_eq_true x).1
   rw [if_neg k3, if_neg hq]
   split <;> first | rw [hb] | (dsimp only; rw [hb])
 ·show (stJ v e 10).mrk g ep s = _
  rw [stJ_mrk, hbat, ← h.mrk]
  have hb := (u2_sld v e).2.2.2.1
  unfold u4 batQ
  by_cases k3 : e.kind = 3
  ·rw [if_pos k3, if_neg (fun x => by have := (of_decide_eq_true x).1; omega), ← hb]
  ·rw [if_neg k3]
   by_cases k4 : e.kind = 4
   ·rw [if_pos k4]
    dsimp only [up3]
    rw [hb]
    by_cases hq : g = e.group ∧ ep = e.epoch ∧ s = e.seq
    ·rw [if_pos hq, if_pos (decide_eq_true ⟨k4, hq.1.symm, hq.2.1.symm, hq.2.2.symm⟩)]
    ·rw [if_neg hq, if_neg (fun x => hq ⟨(of_decide_eq_true x).2.1.symm, (of_decide_eq_true x).2.2.1.symm, (of_decide_eq_true x).2.2.2.symm⟩)]
   ·rw [if_neg k4, if_neg (fun x => k4 (of_decide_eq_true x).1), hb]
 ·show (stJ v e 10).jobs g ep s n = _
  rw [stJ_jobs, hjob, ← h.jobs]
  unfold u5 jobsF
  have h4 := (u4_oth (u2 v e) e).2.2.1
  by_cases k3 : e.kind = 3
  ·rw [if_pos k3]
   dsimp only [upj]
   have hu : (u2 v e).jobs = v.jobs := by
    unfold u2
    split
    ·rfl
    ·dsimp only; rw [if_neg (by omega)]
   rw [h4, hu, if_neg (show ¬ e.kind = 9 by omega)]
   by_cases hn : e.a = n
   ·rw [if_pos hn]
    by_cases hq : g = e.group ∧ ep = e.epoch ∧ s = e.seq
    ·rw [if_pos ⟨hq.1, hq.2.1, hq.2.2, hn.symm⟩, if_pos ⟨k3, hq.1.symm, hq.2.1.symm, hq.2.2.symm⟩]
    ·rw [if_neg (fun x => hq ⟨x.1, x.2.1, x.2.2.1⟩), if_neg (fun x => hq ⟨x.2.1.symm, x.2.2.1.symm, x.2.2.2.symm⟩)]
   ·rw [if_neg hn, if_neg (fun x => hn x.2.2.2.symm)]
  ·rw [if_neg k3, h4]
   unfold u2
   by_cases hc : clientE e
   ·rw [if_pos hc]
    unfold clientE at hc
    rw [if_neg (show ¬ e.kind = 9 by omega), if_neg (show ¬ (e.kind = 3 ∧ e.group = g ∧ e.epoch = ep ∧ e.seq = s) from fun x => k3 x.1), ite_self]
   ·rw [if_neg hc]
    dsimp only
    by_cases k9 : e.kind = 9
    ·rw [if_pos k9, if_pos k9]
     by_cases hn : n = e.a
     ·rw [if_pos hn, if_pos hn.symm]
     ·rw [if_neg hn, if_neg (fun x => hn x.symm)]
    ·rw [if_neg k9, if_neg k9, if_neg (show ¬ (e.kind = 3 ∧ e.group = g ∧ e.epoch = ep ∧ e.seq = s) from fun x => k3 x.1), ite_self]
 ·show (stJ v e 10).sld g ep = _
  rw [stJ_sld, hsl, ← h.sld, ← stJ_sld5 v e]
  unfold u6 sealQ
  by_cases k6 : e.kind = 6
  ·rw [if_pos k6]
   dsimp only [ups]
   by_cases hq : g = e.group ∧ ep = e.epoch
   ·rw [if_pos hq, if_pos (decide_eq_true ⟨k6, hq.1.symm, hq.2.symm⟩)]
   ·rw [if_neg hq, if_neg (fun x => hq ⟨(of_decide_eq_true x).2.1.symm, (of_decide_eq_true x).2.2.symm⟩), List.append_nil]
  ·rw [if_neg k6, if_neg (fun x => k6 (of_decide_eq_true x).1), List.append_nil]
 ·show (stJ v e 10).frst g = _
  rw [stJ_frst, hfst, ← h.frst, ← stJ_frst6 v e]
  unfold u7 fstQ
  by_cases k7 : e.kind = 7 ∧ e.epoch = 0
  ·rw [if_pos k7]
   dsimp only [upf]
   by_cases hq : g = e.group
   ·rw [if_pos hq, if_pos (decide_eq_true ⟨k7.1, k7.2, hq.symm⟩)]
   ·rw [if_neg hq, if_neg (fun x => hq (of_decide_eq_true x).2.2.symm)]
  ·rw [if_neg k7, if_neg (fun x => k7 ⟨(of_decide_eq_true x).1, (of_decide_eq_true x).2.1⟩)]
 ·have hs := hcs a
  have hn := hcn a
  have hpos := hcp a
  have h7 := stJ_calls7 v e
  rw [hll] at hn hpos
  have hw1 : 0 ≤ (callS a (l.take (k + 1))).pos → ((l.take (k + 1)).getD (callS a (l.take (k + 1))).pos.toNat evt0).wish = (l.getD (callS a (l.take (k + 1))).pos.toNat evt0).wish := fun x => congrArg Evt.wish (callS_getD (by omega) x)
  have hw0 : 0 ≤ (callS a (l.take k)).pos → ((l.take k).getD (callS a (l.take k)).pos.toNat evt0).wish = (l.getD (callS a (l.take k)).pos.toNat evt0).wish := fun x => congrArg Evt.wish (callS_getD (by omega) x)
  have hv := h.calls a
  have hva : calOf v a = calOf (stJ v e 7) a := by unfold calOf; rw [h7]
  show (calOf (stJ v e 10) a).many = _ ∧ (calOf (stJ v e 10) a).opn = _ ∧ (_ → (calOf (stJ v e 10) a).wish = _)
  have same : calOf (stJ v e 10) a = calOf v a → (callS a (l.take (k + 1))).many = (callS a (l.take k)).many → (callS a (l.take (k + 1))).pos = (callS a (l.take k)).pos → (callS a (l.take (k + 1))).done = (callS a (l.take k)).done → (calOf (stJ v e 10) a).many = (callS a (l.take (k + 1))).many ∧ (calOf (stJ v e 10) a).opn = decide (0 ≤ (callS a (l.take (k + 1))).pos ∧ (callS a (l.take (k + 1))).done = false) ∧ (0 ≤ (callS a (l.take (k + 1))).pos → (calOf (stJ v e 10) a).wish = ((l.take (k + 1)).getD (callS a (l.take (k + 1))).pos.toNat evt0).wish) := fun e1 e2 e3 e4 => by
   rw [e1, e2, e4]
   refine ⟨hv.1, by rw [e3]; exact hv.2.1, fun x => ?_⟩
   rw [hw1 x]
   rw [e3] at x ⊢
   rw [hv.2.2 x, hw0 x]
  have h10 : stJ v e 10 = u9 (u8 (stJ v e 7) e) e := rfl
  by_cases ha : e.a = a
  ·rw [callF, if_pos ha] at hs
   by_cases k1 : e.kind = 1
   ·rw [if_pos k1] at hs
    have e1 : calOf (stJ v e 10) a = ⟨e.wish, true, (calOf v a).many + 1⟩ := by
     rw [h10, u9, if_neg (show ¬ e.kind = 2 by omega), u8, if_pos k1, hva]
     unfold calOf upc
     dsimp only
     rw [if_pos ha.symm, ← ha]
     rfl
    rw [e1, hs]
    refine ⟨by dsimp only; rw [hv.1], by dsimp only; rw [hn]; exact (decide_eq_true ⟨by omega, rfl⟩).symm, fun x => ?_⟩
    dsimp only
    rw [hn, Int.toNat_natCast, getD_take (by omega), he]
   ·rw [if_neg k1] at hs
    by_cases k2 : e.kind = 2
    ·rw [if_pos k2] at hs
     have e1 : calOf (stJ v e 10) a = ⟨(calOf v a).wish, false, (calOf v a).many⟩ := by
      rw [h10, u9, if_pos k2, u8, if_neg k1, hva]
      unfold calOf upc
      dsimp only
      rw [if_pos ha.symm, ← ha]
      rfl
     rw [hs] at hw1
     dsimp only at hw1
     rw [e1, hs]
     refine ⟨by dsimp only; rw [hv.1], by dsimp only; exact (decide_eq_false (fun x => by cases x.2)).symm, fun x => ?_⟩
     dsimp only at x ⊢
     rw [hv.2.2 x, hw0 x, hw1 x]
    ·rw [if_neg k2] at hs
     exact same (by rw [h10, u9, if_neg k2, u8, if_neg k1, ← hva]) (by rw [hs]) (by rw [hs]) (by rw [hs])
  ·rw [callF, if_neg ha] at hs
   refine same ?_ (by rw [hs]) (by rw [hs]) (by rw [hs])
   rw [h10, hva]
   unfold u9 u8 calOf upc
   by_cases k2 : e.kind = 2
   ·rw [if_pos k2, if_neg (show ¬ e.kind = 1 by omega)]
    dsimp only
    rw [if_neg (fun x => ha x.symm)]
   ·rw [if_neg k2]
    by_cases k1 : e.kind = 1
    ·rw [if_pos k1]
     dsimp only
     rw [if_neg (fun x => ha x.symm)]
    ·rw [if_neg k1]
theorem V8_iff {v : JVal} {pre : List Evt} {e : Evt} (h : VP v pre) : V8 (stJ v e 7) e ↔ R8 pre e := by
 have hc : calOf (stJ v e 7) e.a = calOf v e.a := by unfold calOf; rw [stJ_calls7]
 have hv := h.calls e.a
 unfold V8 R8
 rw [hc, hv.1, hv.2.1, decide_eq_true_iff]
theorem V9_iff {v : JVal} {pre : List Evt} {e : Evt} (h : VP v pre) : V9 (stJ v e 8) e ↔ R9 pre e := by
 have hv := h.calls e.a
 unfold V9 R9
 refine and_congr_right (fun h2 => ?_)
 have hc : calOf (stJ v e 8) e.a = calOf v e.a := by
  show calOf (u8 (stJ v e 7) e) e.a = _
  rw [u8, if_neg (show ¬ e.kind = 1 by omega)]
  unfold calOf
  rw [stJ_calls7]
 rw [hc, hv.2.1, decide_eq_false_iff_not]
 constructor
 ·rintro (h1 | h1)
  ·by_cases hp : (callS e.a pre).pos < 0
   ·exact .inl hp
   ·refine .inr (.inl ?_)
    cases hd : (callS e.a pre).done
    ·exact absurd ⟨by omega, hd⟩ h1
    ·rfl
  ·by_cases hp : (callS e.a pre).pos < 0
   ·exact .inl hp
   ·exact .inr (.inr (by rw [hv.2.2 (by omega)] at h1; exact h1))
 ·rintro (h1 | h1 | h1)
  ·exact .inl (fun x => by omega)
  ·exact .inl (fun x => by rw [h1] at x; cases x.2)
  ·by_cases hp : (callS e.a pre).pos < 0
   ·exact .inl (fun x => by omega)
   ·exact .inr (by rw [hv.2.2 (by omega)]; exact h1)
theorem V6_iff {v : JVal} {pre : List Evt} {e : Evt} (h : VP v pre) : V6 (stJ v e 5) e ↔ P6 pre e := by
 unfold V6 P6
 rw [stJ_sld5, h.sld]
theorem V7_iff {v : JVal} {pre : List Evt} {e : Evt} (h : VP v pre) : V7 (stJ v e 6) e ↔ P7 pre e := by
 unfold V7 P7
 refine and_congr_right (fun h7 => ?_)
 have hs : (stJ v e 6).sld = v.sld := by
  show (u6 (stJ v e 5) e).sld = _
  rw [u6, if_neg (show ¬ e.kind = 6 by omega), stJ_sld5]
 rw [stJ_frst6, hs, h.frst, h.sld]
theorem lwrite_ok {w : World} {c t bl : Int} {b : UInt8} (h1 : i64 c) (h2 : i64 t) (h3 : i64 bl) : Ret prog 19 #[iv c, iv t, iv bl, bv b] w (fun v w' => ∃ cs : List Value, v = .agg cs.toArray ∧ wishR.rd (fun b => w.heap.size ≤ b) w' cs (wrW c t bl b) ∧ Ext w w') := by
 refine ret_of_wk func19 rfl ntmps19 leB_ ?_
 have hp := HP.begin_ w
 refine so ?_
 refine Alo hp (h := fun g1 w1 hp E1 => so ?_)
 refine Ce ldata_ok ?_
 rintro _ w2 ⟨A, d, rfl, hd, E2⟩
 obtain ⟨F2, hp, s2, n2, _⟩ := hp.frz E2
 refine so ?_
 refine wl_builtS (ps := [(4, .const (.int .i64 2)), (0, .tmp 9), (1, .tmp 10), (2, .const (.int .i64 1)), (5, .tmp 11), (6, .tmp 13)]) (by decide) bld42 rfl rfl (so ?_)
 refine wl_re (k := 14) (v := .agg (wsC (wrW c t bl b) A d none 0).toArray) rfl rfl ?_
 refine Hs 0 hp (h := fun w3 hp C3 => so ?_)
 refine wk_postR (rs := [.cell 8 42]) (.inl rfl) results19 ⟨_, _, _, rfl, rfl, loadVar_agg ag42 (hp.blkAt (i := 0) rfl).at0 rfl, rfl⟩ ?_
 refine ⟨_, rfl, _, rfl, ⟨⟨h1, h2, j1, j0, j2, h3, j0, j0⟩, A, d, none, 0, rfl, ?_, GS.nil _ _ _ _ _⟩, hp.chg⟩
 have e1 : w.heap.size ≤ w1.heap.size := E1.size
 exact (GS.keep C3 (fun b hb hs hn => hn (n2 b hs hb)) hd).mono (fun b _ h => Nat.le_trans e1 h)
theorem lcall_ok {w : World} {S : Nat → Prop} {cs : List Value} {x : Wsh} (h : wishR.rd S w cs x) : Ret prog 20 #[.agg cs.toArray] w (fun v w' => ∃ cs' : List Value, v = .agg cs'.toArray ∧ evtR.rd S w' cs' (callE x) ∧ Ext w w') := by
 obtain ⟨hI, A, c, B, d, rfl, h0, h1⟩ := h
 refine ret_of_wk func20 rfl ntmps20 leB_ ?_
 have hp := HP.begin_ w
 refine so ?_
 refine Bx hp (h := fun g1 w1 hp E1 => so ?_)
 refine Alo hp (h := fun g2 w2 hp E2 => so ?_)
 refine wl_builtS (ps := [(1, .const (.int .i64 1)), (2, .tmp 4), (8, .tmp 5)]) (by decide) bld46 rfl rfl (so ?_)
 refine wl_re (k := 6) (v := .agg (evC (callE x) A c B d none 0 none 0).toArray) rfl rfl ?_
 refine Hs 0 hp (h := fun w3 hp C3 => so ?_)
 refine wk_postR (rs := [.cell 2 46]) (.inl rfl) results20 ⟨_, _, _, rfl, rfl, loadVar_agg ag46 (hp.blkAt (i := 0) rfl).at0 rfl, rfl⟩ ?_
 have hc : Ext w w3 := hp.chg
 obtain ⟨i0, i1, i2, i3, i4, i5, i6, i7⟩ := hI
 exact ⟨_, rfl, _, rfl, ⟨⟨j0, j1, i0, j0, j0, j0, j0, i0, i1, i2, i3, i4, i5, i6, i7, j0, j0⟩, A, c, B, d, none, 0, none, 0, rfl, h0.ext hc, h1.ext hc, GS.nil _ _ _ _ _, GS.nil _ _ _ _ _⟩, hc⟩
theorem lrun_ok {w : World} {S : Nat → Prop} {cs : List Value} {x : Wsh} {a s : Int} {b : UInt8} (ha : i64 a) (hs : i64 s) (h : wishR.rd S w cs x) : Ret prog 21 #[iv a, iv s, bv b, .agg cs.toArray] w (fun v w' => ∃ cs' : List Value, v = .agg cs'.toArray ∧ evtR.rd S w' cs' (runE a s b x) ∧ Ext w w') := by
 obtain ⟨hI, A, c, B, d, rfl, h0, h1⟩ := h
 refine ret_of_wk func21 rfl ntmps21 leB_ ?_
 have hp := HP.begin_ w
 refine so ?_
 refine Bx hp (h := fun g1 w1 hp E1 => so ?_)
 refine Alo hp (h := fun g2 w2 hp E2 => so ?_)
 refine wl_builtS (ps := [(0, .tmp 11)]) (by decide) bld39 rfl rfl (so ?_)
 refine wl_re (k := 12) (v := .agg (digC (dig1 b)).toArray) rfl rfl ?_
 refine so ?_
 refine wl_builtS (ps := [(1, .const (.int .i64 3)), (2, .tmp 9), (4, .const (.int .i64 1)), (6, .tmp 10), (7, .tmp 12), (8, .tmp 13)]) (by decide) bld46 rfl rfl (so ?_)
 refine wl_re (k := 14) (v := .agg (evC (runE a s b x) A c B d none 0 none 0).toArray) rfl rfl ?_
 refine Hs 0 hp (h := fun w3 hp C3 => so ?_)
 refine wk_postR (rs := [.cell 8 46]) (.inl rfl) results21 ⟨_, _, _, rfl, rfl, loadVar_agg ag46 (hp.blkAt (i := 0) rfl).at0 rfl, rfl⟩ ?_
 have hc : Ext w w3 := hp.chg
 obtain ⟨i0, i1, i2, i3, i4, i5, i6, i7⟩ := hI
 exact ⟨_, rfl, _, rfl, ⟨⟨j0, j3, ha, j0, j1, j0, hs, i0, i1, i2, i3, i4, i5, i6, i7, j0, j0⟩, A, c, B, d, none, 0, none, 0, rfl, h0.ext hc, h1.ext hc, GS.nil _ _ _ _ _, GS.nil _ _ _ _ _⟩, hc⟩
theorem lnode_ok {w : World} {S : Nat → Prop} {k a ep s : Int} {b : UInt8} (hk : i64 k) (ha : i64 a) (he : i64 ep) (hs : i64 s) : Ret prog 24 #[iv k, iv a, iv ep, iv s, bv b] w (fun v w' => ∃ cs' : List Value, v = .agg cs'.toArray ∧ evtR.rd S w' cs' (nodeE k a ep s b) ∧ Ext w w') := by
 refine ret_of_wk func24 rfl ntmps24 leB_ ?_
 have hp := HP.begin_ w
 refine so ?_
 refine Alo hp (h := fun g2 w2 hp E2 => so ?_)
 refine wl_builtS (ps := [(0, .tmp 15)]) (by decide) bld39 rfl rfl (so ?_)
 refine wl_re (k := 16) (v := .agg (digC (dig1 b)).toArray) rfl rfl ?_
 refine so ?_
 refine wl_builtS (ps := [(1, .tmp 11), (2, .tmp 12), (4, .const (.int .i64 1)), (5, .tmp 13), (6, .tmp 14), (7, .tmp 16)]) (by decide) bld46 rfl rfl (so ?_)
 refine wl_re (k := 17) (v := .agg (evC (nodeE k a ep s b) none 0 none 0 none 0 none 0).toArray) rfl rfl ?_
 refine Hs 0 hp (h := fun w3 hp C3 => so ?_)
 refine wk_postR (rs := [.cell 10 46]) (.inl rfl) results24 ⟨_, _, _, rfl, rfl, loadVar_agg ag46 (hp.blkAt (i := 0) rfl).at0 rfl, rfl⟩ ?_
 exact ⟨_, rfl, _, rfl, ⟨⟨j0, hk, ha, j0, j1, he, hs, j0, j0, j0, j0, j0, j0, j0, j0, j0, j0⟩, none, 0, none, 0, none, 0, none, 0, rfl, GS.nil _ _ _ _ _, GS.nil _ _ _ _ _, GS.nil _ _ _ _ _, GS.nil _ _ _ _ _⟩, hp.chg⟩
theorem ans0_rd {S : Nat → Prop} {w : World} {e : Int} (he : i64 e) : ansR.rd S w (anC ⟨e, [], 0, []⟩ none 0 none 0) ⟨e, [], 0, []⟩ := ⟨⟨he, j0⟩, none, 0, none, 0, rfl, GS.nil _ _ _ _ _, GS.nil _ _ _ _ _⟩
theorem rCopyB_ok {w : World} {A : Option Addr} {c : Nat} {l : List UInt8} {S : Nat → Prop} (hl : GS byteR S w A c l) : Ret prog 41 #[.slice A l.length c] w (fun v w' => ∃ A' c', v = .slice A' l.length c' ∧ GS byteR (fun b => w.heap.size ≤ b) w' A' c' l ∧ Ext w w') := by
 have hm := hl.mx
 refine ret_of_wk func41 rfl ntmps41 leB_ ?_
 refine so ?_
 refine wl_appendB (lo := w.heap.size) (l := []) (by decide) sl40 rfl rfl (OwnRow.nil _ _ _ _ _) hl (by simpa using hm) (Nat.le_refl _) ?_
 intro A' c' w' ho hch _
 rw [List.nil_append] at ho
 refine so ?_
 exact Pt ⟨_, rfl, _, _, rfl, ho.bs, hch.weak (fun b _ hb => hb.1 rfl)⟩
theorem rCopyI_ok {w : World} {A : Option Addr} {c : Nat} {l : List Int} {S : Nat → Prop} (hl : GS intR S w A c l) (hsz : l.length * 8 ≤ 140737488355328) : Ret prog 42 #[.slice A l.length c] w (fun v w' => ∃ A' c', v = .slice A' l.length c' ∧ GS intR (fun b => w.heap.size ≤ b) w' A' c' l ∧ Ext w w') := by
 have hm := hl.mx
 have hc := GS.cells1 (he := fun _ => rfl) hl
 refine ret_of_wk func42 rfl ntmps42 leB_ ?_
 refine so ?_
 refine wl_append (lo := w.heap.size) (k := 0) (m := l.length) (c := 0) (xs := []) (news := l.map fun z => .int .i64 z) (by decide) sl33 rfl rfl (OwnRow.nil _ _ _ _ _) (by simp) (fun b hb => hc.1 b hb) (fun hB => by rw [hc.2 hB]; rfl) (fun u hu => by obtain ⟨b, _, rfl⟩ := List.mem_map.1 hu; rfl) (by omega) (Nat.le_refl _) ?_
 intro A' c' w' ho hch _
 rw [List.nil_append, Nat.zero_add] at ho
 rw [Nat.zero_add]
 refine so ?_
 exact Pt ⟨_, rfl, _, _, rfl, OwnRow.gs1 (he := fun _ => rfl) ho, hch.weak (fun b _ hb => hb.1 rfl)⟩
end Go.Proofs.Ytgheaedligkhoaa
