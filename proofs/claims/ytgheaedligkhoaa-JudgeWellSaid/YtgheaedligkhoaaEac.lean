/- What each of these functions computes, for every argument that its theorem names; a part of what the proof of JudgeWell stands on. -/
import Derived.Test.YtgheaedligkhoaaEaa
import Derived.Test.YtgheaedligkhoaaAaa
import Derived.Test.YtgheaedligkhoaaAab
import Derived.Test.YtgheaedligkhoaaAac
import Derived.Test.YtgheaedligkhoaaAad
import Derived.Test.YtgheaedligkhoaaAae
import Derived.Test.YtgheaedligkhoaaAaf
import Derived.Test.YtgheaedligkhoaaAag
import Derived.Test.YtgheaedligkhoaaAah
import Derived.Test.YtgheaedligkhoaaAam
import Derived.Test.YtgheaedligkhoaaAar
import Derived.Test.YtgheaedligkhoaaAas
import Derived.Test.YtgheaedligkhoaaAau
import Derived.Test.YtgheaedligkhoaaAav
import Derived.Test.YtgheaedligkhoaaAaw
import Derived.Test.YtgheaedligkhoaaAax
import Derived.Test.YtgheaedligkhoaaEab
namespace Go.Proofs.Ytgheaedligkhoaa
open Go.RowKit Go.Eng _root_.Go.Proofs.Try Go.Eng _root_.Go.Proofs.Try
set_option maxRecDepth 100000
variable {w0 w : World} {M0 Fz : Nat → Prop} {H : List It} {A : Option Addr} {c : Nat}
theorem R11_iff {p : Pln} {l : List Evt} {i : Nat} (hi : i < l.length) (h8 : ∀ j, j < i → ¬ R8 (l.take j) (l.getD j evt0)) : R11 p l i ↔ P11 p (l.take (i + 1)) (l.getD i evt0) := by
 unfold R11 P11
 refine and_congr_right (fun hw => ?_)
 rw [hist_eq hi hw.1 h8]
 constructor
 ·rintro ⟨h1, h2⟩
  refine ⟨⟨h1, rfl, rfl⟩, ?_, h2⟩
  unfold linO at h2
  by_cases hc : chkH (histS p l i) = 0
  ·exact ((chkH_zero _).1 hc).1
  ·rw [if_neg hc] at h2
   exact absurd (Prod.mk.inj h2).2 hc
 ·rintro ⟨h1, _, h2⟩
  exact ⟨h1.1, h2⟩
theorem plain_ok {p : Pln} {l : List Evt} {i : Nat} (hi : i < l.length) (hno : ∀ j, j < i → broken p l j = 0) : firstA (anJ p l i (valOf (l.take i)) (l.getD i evt0)) 0 10 = broken p l i := by
 obtain ⟨hV, hA⟩ := known (by omega) hno
 have h8 : ∀ j, j < i → ¬ R8 (l.take j) (l.getD j evt0) := fun j hj => (broken_no (hno j hj)).2.2.2.1
 generalize hv : valOf (l.take i) = v at hV
 have a0 : anJ p l i v (l.getD i evt0) 0 = if R1 p (l.take i) (l.getD i evt0) then 1 else 0 := iteC (V1_iff hV) rfl rfl
 have a1 : anJ p l i v (l.getD i evt0) 1 = if R2 (l.take i) (l.getD i evt0) then 2 else 0 := iteC (V2_iff hV) rfl rfl
 have a2 : anJ p l i v (l.getD i evt0) 2 = if R3 p (l.getD i evt0) then 3 else 0 := iteC Iff.rfl rfl rfl
 have a3 : anJ p l i v (l.getD i evt0) 3 = if R4 (l.take i) (l.getD i evt0) then 4 else 0 := iteC ((V4_iff hV).trans (R4_iff hA).symm) rfl rfl
 unfold broken
 rw [firstA_if a0 (by decide)]
 by_cases r1 : R1 p (l.take i) (l.getD i evt0)
 ·rw [if_pos r1, if_pos r1]
 rw [if_neg r1, if_neg r1, firstA_if a1 (by decide)]
 by_cases r2 : R2 (l.take i) (l.getD i evt0)
 ·rw [if_pos r2, if_pos r2]
 rw [if_neg r2, if_neg r2, firstA_if a2 (by decide)]
 by_cases r3 : R3 p (l.getD i evt0)
 ·rw [if_pos r3, if_pos r3]
 have hs := hV.step hi r2
 have a4 : anJ p l i v (l.getD i evt0) 4 = if R5 p (l.take (i + 1)) (l.getD i evt0) then 5 else 0 := iteC ((V5_iff hs).trans (R5_iff hi).symm) rfl rfl
 have a5 : anJ p l i v (l.getD i evt0) 5 = if R6 (l.take i) (l.getD i evt0) then 6 else 0 := iteC ((V6_iff hV).trans R6_iff.symm) rfl rfl
 have h7 : (l.getD i evt0).kind = 7 → 0 ≤ (l.getD i evt0).epoch := fun h7 => Decidable.byContradiction (fun hn => r3 ⟨.inr (.inr h7), .inr (.inr (.inl (by omega)))⟩)
 have a6 : anJ p l i v (l.getD i evt0) 6 = if R7 (l.take i) (l.getD i evt0) then 7 else 0 := iteC ((V7_iff hV).trans (R7_iff hA h7).symm) rfl rfl
 have a7 : anJ p l i v (l.getD i evt0) 7 = if R8 (l.take i) (l.getD i evt0) then 8 else 0 := iteC (V8_iff hV) rfl rfl
 have a8 : anJ p l i v (l.getD i evt0) 8 = if R9 (l.take i) (l.getD i evt0) then 9 else if R10 (l.take i) (l.getD i evt0) then 10 else 0 := iteC (V9_iff hV) rfl (iteC Iff.rfl rfl rfl)
 have a9 : anJ p l i v (l.getD i evt0) 9 = if R11 p l i then 11 else 0 := iteC (R11_iff hi h8).symm rfl rfl
 rw [if_neg r3, if_neg r3, firstA_if a3 (by decide), firstA_if a4 (by decide), firstA_if a5 (by decide), firstA_if a6 (by decide), firstA_if a7 (by decide)]
 have e8 : firstA (anJ p l i v (l.getD i evt0)) 8 2 = if R9 (l.take i) (l.getD i evt0) then 9 else if R10 (l.take i) (l.getD i evt0) then 10 else if R11 p l i then 11 else 0 := by
  rw [firstA, a8]
  by_cases r9 : R9 (l.take i) (l.getD i evt0)
  ·rw [if_pos r9, if_neg (by decide), if_pos r9]
  ·rw [if_neg r9, if_neg r9]
   by_cases r10 : R10 (l.take i) (l.getD i evt0)
   ·rw [if_pos r10, if_neg (by decide), if_pos r10]
   ·rw [if_neg r10, if_pos rfl, if_neg r10]
    exact firstA_if (n := 0) a9 (by decide)
 rw [e8]
theorem pfind_ok {w : World} {S S2 : Nat → Prop} {p : Pln} {cs : List Value} {l : List Evt} {A : Option Addr} {c : Nat} (hpl : plnR.rd S2 w cs p) (hl : GS evtR S w A c l) : Ret prog 9 #[.agg cs.toArray, .slice A l.length c] w (fun x w' => x = find3 (findS p l) ∧ Ext w w') := jfind_ok hpl hl (fun _ hi h => plain_ok hi h)
theorem lfinds_ok {w : World} {S : Nat → Prop} {l : List Evt} {A : Option Addr} {c : Nat} {r a : Int} (hl : GS evtR S w A c l) : Ret prog 15 #[iv r, iv a, .slice A l.length c] w (fun v w' => v = .bool (decide (findS planP l = (r, a, 0))) ∧ Ext w w') := by
 refine ret_of_wk func15 rfl ntmps15 leB_ ?_
 refine so ?_
 refine Ce lplan_ok ?_
 rintro _ w1 ⟨rfl, E1⟩
 refine so ?_
 refine Ce (pfind_ok (planP_rd (S := fun _ => True)) (hl.ext E1)) ?_
 rintro _ w2 ⟨rfl, E2⟩
 obtain ⟨x, y, e⟩ := findS planP l
 refine so ?_
 refine Gs 19 ?_ ?_ <;> intro k1 <;> refine so ?_
 ·refine Gs 24 ?_ ?_ <;> intro k2 <;> refine so ?_
  ·refine Pt ⟨_, rfl, congrArg Value.bool (decide_eq_decide.2 ⟨fun h => ?_, fun h => ?_⟩), E1.trans E2⟩
   ·dsimp only at k1 k2 h
    rw [k1, k2, h]
   ·exact (Prod.mk.inj (Prod.mk.inj h).2).1
  ·exact Pt ⟨_, rfl, bool_f (fun h => k2 (Prod.mk.inj h).1), E1.trans E2⟩
 ·exact Pt ⟨_, rfl, bool_f (fun h => k1 (Prod.mk.inj (Prod.mk.inj h).2).2), E1.trans E2⟩
theorem lfind_yes {w : World} {S : Nat → Prop} {l : List Evt} {A : Option Addr} {c : Nat} {r a : Int} (hl : GS evtR S w A c l) (h : findS planP l = (r, a, 0)) : Ret prog 15 #[iv r, iv a, .slice A l.length c] w (fun v w' => v = .bool true ∧ Ext w w') :=
 Ret.mono (lfinds_ok hl) (fun _ _ hv => ⟨by rw [hv.1, decide_eq_true h], hv.2⟩)
theorem histS_cut {p : Pln} {l : List Evt} {n i : Nat} (h : i < n) : histS p (l.take n) i = histS p l i := by
 unfold histS
 rw [getD_take (l := l) (i := n) (j := i) h, take_take_le (by omega)]
 congr 1
 unfold opsS
 refine fm_congr (fun j hj => ?_)
 rw [getD_take (l := l) (i := n) (j := j) (by omega), opS_cut hj h]
theorem broken_cut {p : Pln} {l : List Evt} {n i : Nat} (h : i < n) : broken p (l.take n) i = broken p l i := by
 have e11 : R11 p (l.take n) i ↔ R11 p l i := by
  unfold R11
  rw [getD_take (l := l) (i := n) (j := i) h, histS_cut h]
 unfold broken
 simp only [getD_take (l := l) (i := n) (j := i) h, take_take_le (l := l) (i := i) (n := n) (by omega), take_take_le (l := l) (i := i + 1) (n := n) (by omega), e11]
theorem broken_app {p : Pln} {pre suf : List Evt} {j : Nat} (h : j < pre.length) : broken p (pre ++ suf) j = broken p pre j := by
 have := broken_cut (p := p) (l := pre ++ suf) (n := pre.length) (i := j) h
 rw [List.take_left' rfl] at this
 exact this.symm
theorem NB.push {pre : List Evt} {e : Evt} (h : NB pre) (hb : broken planP (pre ++ [e]) pre.length = 0) : NB (pre ++ [e]) := fun j hj => by
 by_cases e1 : j < pre.length
 ·rw [broken_app e1]; exact h j e1
 ·rw [List.length_append, List.length_singleton] at hj
  obtain rfl : j = pre.length := by omega
  exact hb
theorem broken_is {pre : List Evt} {e : Evt} {r : Int} (h : NB pre) (ha : firstA (anJ planP (pre ++ [e]) pre.length (valOf pre) e) 0 10 = r) : broken planP (pre ++ [e]) pre.length = r := by
 have h2 := plain_ok (p := planP) (l := pre ++ [e]) (i := pre.length) (by simp) (fun j hj => by rw [broken_app hj]; exact h j hj)
 rw [List.take_left' rfl, getD_mid (suf := []), ha] at h2
 exact h2.symm
theorem kp0 (J : Int → Job) : Kp J (fun _ _ => false) (fun _ => cal0) val0 := ⟨rfl, fun _ => rfl, fun _ _ h => (by cases h), fun _ _ h => (by cases h), fun _ _ => rfl, fun _ _ => rfl, fun _ => rfl⟩
theorem V1_node {J : Int → Job} {ran : Int → Int → Bool} {cw : Int → Cal} {v : JVal} {e : Evt} (hv : Kp J ran cw v) (h : NodeE e) : ¬ V1 planP v e := by
 have hk := h.kind
 rintro (h1 | h1 | h1 | h1 | h1)
 ·rw [hv.time, h.time] at h1; omega
 ·omega
 ·omega
 ·refine h1 ?_
  unfold whoE
  rw [if_neg (notC hk)]
  have : nodesP planP = 8 := by decide
  rw [this]
  have := h.a
  omega
 ·exact bad_no (by have := h.a; omega) h1
theorem V2_node {J : Int → Job} {ran : Int → Int → Bool} {cw : Int → Cal} {v : JVal} {e : Evt} (hv : Kp J ran cw v) (h : NodeE e) : ¬ V2 v e := by
 have hk := h.kind
 rintro ⟨_, h1⟩
 rw [hv.down, decide_eq_false (show ¬ e.kind = 9 by omega)] at h1
 exact h1 rfl
theorem st_run {v : JVal} {e : Evt} (hk : e.kind = 3) : stJ v e 4 = { v with down := fun n => if n = e.a then false else v.down n, bat := up3 v.bat e.group e.epoch e.seq e.dig } := by
 show u4 (u2 v e) e = _
 rw [u2_node (.inl hk)]
 exact if_pos hk
theorem st_run5 {v : JVal} {e : Evt} (hk : e.kind = 3) : stJ v e 5 = { v with down := fun n => if n = e.a then false else v.down n, bat := up3 v.bat e.group e.epoch e.seq e.dig, jobs := upj v e } := by
 show u5 (stJ v e 4) e = _
 rw [st_run hk]
 exact if_pos hk
theorem st_mark5 {v : JVal} {e : Evt} (hk : e.kind = 4) : stJ v e 5 = { v with down := fun n => if n = e.a then false else v.down n, mrk := up3 v.mrk e.group e.epoch e.seq e.dig } := by
 show u5 (u4 (u2 v e) e) e = _
 rw [u2_node (.inr hk), u4, if_neg (by omega), if_pos hk, u5, if_neg (by omega)]
theorem kp_run {J : Int → Job} {ran : Int → Int → Bool} {cw : Int → Cal} {v : JVal} {e : Evt} (hv : Kp J ran cw v) (h : NodeE e) (hk : e.kind = 3) (hd : e.dig = digS e.seq) (hj : J e.seq = ⟨e.wish, e.ans⟩) (hr : ran e.seq e.a = false) :
  Kp J (fun s n => if s = e.seq ∧ n = e.a then true else ran s n) cw (valF v e) := by
 have e1 : valF v e = { v with time := e.time, down := fun n => if n = e.a then false else v.down n, bat := up3 v.bat e.group e.epoch e.seq e.dig, jobs := upj v e } := by
  unfold valF
  rw [(st_node h.kind).2.2.2, st_run5 hk]
 rw [e1]
 refine ⟨h.time, fun a => ?_, fun s d hb => ?_, hv.mrk, fun s n => ?_, hv.sld, fun a => hv.cal a⟩
 ·dsimp only
  split
  ·rfl
  ·exact hv.down a
 ·dsimp only [up3] at hb
  split at hb
  ·rename_i hc
   cases hb
   rw [hc.2.2]; exact hd
  ·exact hv.bat s d hb
 ·dsimp only [upj]
  by_cases hc : s = e.seq ∧ n = e.a
  ·rw [if_pos ⟨h.group.symm, h.epoch.symm, hc.1, hc.2⟩, if_pos hc, hv.jobs, hc.1, hc.2, hr, hj]
   rfl
  ·rw [if_neg (fun x => hc ⟨x.2.2.1, x.2.2.2⟩), if_neg hc]
   exact hv.jobs s n
theorem kp_mark {J : Int → Job} {ran : Int → Int → Bool} {cw : Int → Cal} {v : JVal} {e : Evt} (hv : Kp J ran cw v) (h : NodeE e) (hk : e.kind = 4) (hd : e.dig = digM e.seq) : Kp J ran cw (valF v e) := by
 have e1 : valF v e = { v with time := e.time, down := fun n => if n = e.a then false else v.down n, mrk := up3 v.mrk e.group e.epoch e.seq e.dig } := by
  unfold valF
  rw [(st_node h.kind).2.2.2, st_mark5 hk]
 rw [e1]
 refine ⟨h.time, fun a => ?_, hv.bat, fun s d hb => ?_, hv.jobs, hv.sld, fun a => hv.cal a⟩
 ·dsimp only
  split
  ·rfl
  ·exact hv.down a
 ·dsimp only [up3] at hb
  split at hb
  ·rename_i hc
   cases hb
   rw [hc.2.2]; exact hd
  ·exact hv.mrk s d hb
theorem an_node {J : Int → Job} {ran : Int → Int → Bool} {cw : Int → Cal} {v : JVal} {e : Evt} {l : List Evt} {i : Nat} (hv : Kp J ran cw v) (h : NodeE e) : anJ planP l i v e 0 = 0 ∧ anJ planP l i v e 1 = 0 ∧ anJ planP l i v e 2 = 0 ∧ anJ planP l i v e 5 = 0 ∧ anJ planP l i v e 6 = 0 ∧ anJ planP l i v e 7 = 0 ∧ anJ planP l i v e 8 = 0 ∧ anJ planP l i v e 9 = 0 := by
 have hk := h.kind
 have hs5 : (stJ v e 5).sld = v.sld := by
  rcases hk with hk | hk
  ·rw [st_run5 hk]
  ·rw [st_mark5 hk]
 refine ⟨if_neg (V1_node hv h), if_neg (V2_node hv h), if_neg (R3_node h), if_neg (fun x => ?_), if_neg (fun x => by have := x.1; omega), if_neg (fun x => by have := x.1; omega), ?_, if_neg (fun x => by have := x.1.1; omega)⟩
 ·have := x.2
  rw [hs5, hv.sld] at this
  cases this
 ·exact (if_neg (fun x => by have := x.1; omega)).trans (if_neg (fun x => by have := x.1.1; omega))
theorem V4_run {J : Int → Job} {ran : Int → Int → Bool} {cw : Int → Cal} {v : JVal} {e : Evt} (hv : Kp J ran cw v) (h : NodeE e) (hk : e.kind = 3) (hd : e.dig = digS e.seq) : ¬ V4 (stJ v e 3) e := by
 have e3 : (stJ v e 3).bat = v.bat := by show (u2 v e).bat = v.bat; rw [u2_node (.inl hk)]
 rintro (⟨_, h1⟩ | ⟨h1, _⟩)
 ·rw [e3, h.group, h.epoch] at h1
  cases hb : v.bat 1 0 e.seq with
  | none => rw [hb] at h1; cases h1
  | some d =>
   rw [hb, hv.bat _ _ hb, hd] at h1
   exact absurd rfl (of_decide_eq_true h1)
 ·omega
theorem V4_mark {J : Int → Job} {ran : Int → Int → Bool} {cw : Int → Cal} {v : JVal} {e : Evt} (hv : Kp J ran cw v) (h : NodeE e) (hk : e.kind = 4) (hd : e.dig = digM e.seq) : ¬ V4 (stJ v e 3) e := by
 have e3 : (stJ v e 3).mrk = v.mrk := by show (u2 v e).mrk = v.mrk; rw [u2_node (.inr hk)]
 rintro (⟨h1, _⟩ | ⟨_, h1⟩)
 ·omega
 ·rw [e3, h.group, h.epoch] at h1
  cases hb : v.mrk 1 0 e.seq with
  | none => rw [hb] at h1; cases h1
  | some d =>
   rw [hb, hv.mrk _ _ hb, hd] at h1
   exact absurd rfl (of_decide_eq_true h1)
theorem V5_run {J : Int → Job} {ran : Int → Int → Bool} {cw : Int → Cal} {v : JVal} {e : Evt} (hv : Kp J ran cw v) (h : NodeE e) (hk : e.kind = 3) (hj : J e.seq = ⟨e.wish, e.ans⟩) (hr : ran e.seq e.a = false) : ¬ V5 planP (stJ v e 4) e := by
 rintro ⟨_, h1⟩
 obtain ⟨n, _, hn⟩ := List.any_eq_true.1 h1
 have hu : ∀ m, upj (stJ v e 4) e e.group e.epoch e.seq m = if m = e.a then [J e.seq] else if ran e.seq m then [J e.seq] else [] := fun m => by
  have e4 : (stJ v e 4).jobs = v.jobs := by rw [st_run hk]
  unfold upj
  rw [e4, h.group, h.epoch, hv.jobs]
  by_cases hm : m = e.a
  ·rw [if_pos ⟨rfl, rfl, rfl, hm⟩, if_pos hm, hm, hr, hj]; rfl
  ·rw [if_neg (fun x => hm x.2.2.2), if_neg hm]
 have h2 := of_decide_eq_true hn
 rw [hu n, hu e.a, if_pos rfl] at h2
 by_cases hm : n = e.a
 ·rw [if_pos hm, hj] at h2
  exact h2.2 ⟨rfl, rfl⟩
 ·rw [if_neg hm] at h2
  cases hrn : ran e.seq n
  ·rw [hrn] at h2
   exact absurd (show 1 ≤ 0 from h2.1) (by decide)
  ·rw [hrn, if_pos rfl, hj] at h2
   exact h2.2 ⟨rfl, rfl⟩
theorem nb_run {J : Int → Job} {ran : Int → Int → Bool} {cw : Int → Cal} {pre : List Evt} {e : Evt} (hn : NB pre) (hv : Kp J ran cw (valOf pre)) (h : NodeE e) (hk : e.kind = 3) (hd : e.dig = digS e.seq) (hj : J e.seq = ⟨e.wish, e.ans⟩) (hr : ran e.seq e.a = false) : NB (pre ++ [e]) := by
 obtain ⟨a0, a1, a2, a5, a6, a7, a8, a9⟩ := an_node (l := pre ++ [e]) (i := pre.length) hv h
 exact hn.push (broken_is hn (ten0 a0 a1 a2 (if_neg (V4_run hv h hk hd)) (if_neg (V5_run hv h hk hj hr)) a5 a6 a7 a8 a9))
theorem nb_mark {J : Int → Job} {ran : Int → Int → Bool} {cw : Int → Cal} {pre : List Evt} {e : Evt} (hn : NB pre) (hv : Kp J ran cw (valOf pre)) (h : NodeE e) (hk : e.kind = 4) (hd : e.dig = digM e.seq) : NB (pre ++ [e]) := by
 obtain ⟨a0, a1, a2, a5, a6, a7, a8, a9⟩ := an_node (l := pre ++ [e]) (i := pre.length) hv h
 exact hn.push (broken_is hn (ten0 a0 a1 a2 (if_neg (V4_mark hv h hk hd)) (if_neg (fun x => by have := x.1; omega)) a5 a6 a7 a8 a9))
theorem an_cli {J : Int → Job} {ran : Int → Int → Bool} {cw : Int → Cal} {v : JVal} {e : Evt} {l : List Evt} {i : Nat} (hv : Kp J ran cw v) (h : CliE e) : anJ planP l i v e 0 = 0 ∧ anJ planP l i v e 1 = 0 ∧ anJ planP l i v e 2 = 0 ∧ anJ planP l i v e 3 = 0 ∧ anJ planP l i v e 4 = 0 ∧ anJ planP l i v e 5 = 0 ∧ anJ planP l i v e 6 = 0 := by
 have hk := h.kind
 refine ⟨if_neg (fun x => ?_), if_neg (fun x => x.1 hk), if_neg (fun x => ?_), if_neg (fun x => ?_), if_neg (fun x => by have := x.1; omega), if_neg (fun x => ?_), if_neg (fun x => by have := x.1; omega)⟩
 ·rcases x with h1 | h1 | h1 | h1 | h1
  ·rw [hv.time, h.time] at h1; omega
  ·omega
  ·omega
  ·refine h1 ?_
   unfold whoE
   rw [if_pos (show clientE e from hk)]
   have : planP.clients = 2 := rfl
   have := h.a
   exact .inl (by omega)
  ·exact bad_no (by have := h.a; omega) h1
 ·have := x.1
  unfold numbE at this
  omega
 ·rcases x with x | x <;> (have := x.1; omega)
 ·have := x.1
  unfold numbE at this
  omega
theorem kp_call {J : Int → Job} {ran : Int → Int → Bool} {cw : Int → Cal} {v : JVal} {e : Evt} (hv : Kp J ran cw v) (h : CliE e) (hk : e.kind = 1) : Kp J ran (cwCall cw e) (valF v e) := by
 have e1 : valF v e = { v with time := e.time, calls := upc v.calls e.a ⟨e.wish, true, (calOf v e.a).many + 1⟩ } := by
  unfold valF
  have h8 : stJ v e 8 = { v with calls := upc v.calls e.a ⟨e.wish, true, (calOf v e.a).many + 1⟩ } := by
   show u8 (stJ v e 7) e = _
   rw [(st_cli h.kind).2.2.2.2]
   exact if_pos hk
  have h9 : stJ v e 10 = stJ v e 8 := if_neg (show ¬ e.kind = 2 by omega)
  rw [h9, h8]
 rw [e1]
 refine ⟨h.time, hv.down, hv.bat, hv.mrk, hv.jobs, hv.sld, fun a => ?_⟩
 unfold cwCall calOf upc
 dsimp only
 by_cases ha : a = e.a
 ·rw [if_pos ha, if_pos ha, ha]
  have := hv.cal e.a
  unfold calOf at this
  rw [this]; rfl
 ·rw [if_neg ha, if_neg ha]; exact hv.cal a
theorem kp_done {J : Int → Job} {ran : Int → Int → Bool} {cw : Int → Cal} {v : JVal} {e : Evt} (hv : Kp J ran cw v) (h : CliE e) (hk : e.kind = 2) : Kp J ran (cwDone cw e) (valF v e) := by
 have e1 : valF v e = { v with time := e.time, calls := upc v.calls e.a ⟨(calOf v e.a).wish, false, (calOf v e.a).many⟩ } := by
  unfold valF
  have h8 : stJ v e 8 = v := by show u8 (stJ v e 7) e = v; rw [(st_cli h.kind).2.2.2.2, u8, if_neg (by omega)]
  have h9 : stJ v e 10 = { v with calls := upc v.calls e.a ⟨(calOf v e.a).wish, false, (calOf v e.a).many⟩ } := by
   show u9 (stJ v e 8) e = _
   rw [h8]
   exact if_pos hk
  rw [h9]
 rw [e1]
 refine ⟨h.time, hv.down, hv.bat, hv.mrk, hv.jobs, hv.sld, fun a => ?_⟩
 unfold cwDone calOf upc
 dsimp only
 have := hv.cal e.a
 unfold calOf at this
 by_cases ha : a = e.a
 ·rw [if_pos ha, if_pos ha, ha, this]; rfl
 ·rw [if_neg ha, if_neg ha]; exact hv.cal a
theorem nb_call {J : Int → Job} {ran : Int → Int → Bool} {cw : Int → Cal} {pre : List Evt} {e : Evt} (hn : NB pre) (hv : Kp J ran cw (valOf pre)) (h : CliE e) (hk : e.kind = 1) (ho : (cw e.a).opn = false) (hw : askK e.wish) (hc : e.wish.client = e.a) (hs : e.wish.stamp = (cw e.a).many + 1) : NB (pre ++ [e]) := by
 obtain ⟨a0, a1, a2, a3, a4, a5, a6⟩ := an_cli (l := pre ++ [e]) (i := pre.length) hv h
 refine hn.push (broken_is hn (ten0 a0 a1 a2 a3 a4 a5 a6 (if_neg (fun x => ?_)) ((if_neg (fun x => by have := x.1; omega)).trans (if_neg (fun x => by have := x.1.1; omega))) (if_neg (fun x => by have := x.1.1; omega))))
 obtain ⟨_, x⟩ := x
 rw [(st_cli h.kind).2.2.2.2, hv.cal, ho] at x
 rcases x with x | x | x | x
 ·cases x
 ·exact x hw
 ·exact x hc
 ·exact x hs
theorem nb_done {J : Int → Job} {ran : Int → Int → Bool} {cw : Int → Cal} {pre : List Evt} {e : Evt} (hn : NB pre) (hv : Kp J ran cw (valOf pre)) (h : CliE e) (hk : e.kind = 2) (ho : (cw e.a).opn = true) (hw : (cw e.a).wish = e.wish) (h10 : e.wish.kind = 2 → pre.any (q10 e) = true) (h11 : ¬ P11 planP (pre ++ [e]) e) : NB (pre ++ [e]) := by
 obtain ⟨a0, a1, a2, a3, a4, a5, a6⟩ := an_cli (l := pre ++ [e]) (i := pre.length) hv h
 have h8 : stJ (valOf pre) e 8 = valOf pre := by show u8 (stJ (valOf pre) e 7) e = _; rw [(st_cli h.kind).2.2.2.2, u8, if_neg (by omega)]
 refine hn.push (broken_is hn (ten0 a0 a1 a2 a3 a4 a5 a6 (if_neg (fun x => by have := x.1; omega)) ((if_neg (fun x => ?_)).trans (if_neg (fun x => ?_))) (if_neg (fun x => h11 ?_))))
 ·obtain ⟨_, x⟩ := x
  rw [h8, hv.cal, ho, hw] at x
  rcases x with x | x
  ·cases x
  ·exact x rfl
 ·rw [List.take_left' rfl] at x
  have := h10 x.2.1
  rw [x.2.2] at this
  cases this
 ·rwa [List.take_of_length_le (by simp)] at x
theorem hc0 (m : Nat) : HC hst0 zer16 m := ⟨rfl, fun _ => rfl, rfl, rfl, fun _ h => (by cases h), List.Pairwise.nil, Nat.zero_le _⟩
theorem HC.up {H : HSt} {val : List UInt8} {m k : Nat} (h : HC H val m) (hk : m ≤ k) : HC H val k := ⟨h.fg, h.opn, h.sq, h.vl, h.be, h.srt, Nat.le_trans h.len hk⟩
theorem HC.tick {H : HSt} {val : List UInt8} {m : Nat} (h : HC H val m) : HC (tick H) val m := ⟨h.fg, h.opn, h.sq, h.vl, fun x hx => ⟨(h.be x hx).1, by have := (h.be x hx).2; show x.b ≤ ((H.n + 1 : Nat) : Int); omega⟩, h.srt, h.len⟩
theorem HO.tick {H : HSt} {a : Int} {wr : Bool} {d val : List UInt8} {m : Nat} (h : HO H a wr d val m) : HO (tick H) a wr d val m := by
 obtain ⟨o0, bb, h1, h2, h3, h4, h5, h6, h7, h8⟩ := h.ex
 exact ⟨h.fg, o0, bb, h1, h2, h3, h4, h5, h6, by show bb ≤ ((H.n + 1 : Nat) : Int); omega, h8⟩
theorem hist_node {o : Wsh} {s : HSt} {e : Evt} (hk : e.kind = 3 ∨ e.kind = 4) (hc : e.wish.client ≠ 33) : histF planP o s e = tick s := by
 unfold histF
 rw [if_neg (by omega), if_neg (by omega), if_neg (fun x => bad_no hc x.1.2.2.2)]
 rfl
theorem hist_other {o : Wsh} {s : HSt} {e : Evt} (hk : e.kind = 1) (hc : ¬ oursW e.wish o) : histF planP o s e = tick s := by
 unfold histF
 rw [if_neg (fun x => hc x.2), if_neg (by omega), if_neg (fun x => by have := x.1.1; omega)]
 rfl
theorem HC.call {o : Wsh} {s : HSt} {e : Evt} {val : List UInt8} {m : Nat} (h : HC s val m) (hk : e.kind = 1) (ho : oursW e.wish o) : HO (histF planP o s e) e.a (decide (e.wish.kind = 2)) e.wish.data val (m + 1) := by
 have e1 : histF planP o s e = ⟨s.out ++ [hop1 e s.n], s.forged, fun a => if a = e.a then some s.out.length else s.opn a, s.seen, s.n + 1⟩ := if_pos ⟨hk, ho⟩
 rw [e1]
 refine ⟨h.fg, s.out, (s.n : Int) + 1, rfl, fun x => ?_, h.sq, h.vl, fun x hx => ⟨(h.be x hx).1, by have := (h.be x hx).2; omega⟩, h.srt, by show (s.n : Int) + 1 ≤ ((s.n + 1 : Nat) : Int); omega, by have := h.len; omega⟩
 dsimp only
 split
 ·rfl
 ·exact h.opn x
theorem HO.done {o : Wsh} {s : HSt} {e : Evt} {wr : Bool} {d val : List UInt8} {m : Nat} (h : HO s e.a wr d val m) (hk : e.kind = 2) (he : e.ans.err = 0) (hv : wr = false → e.ans.data = val) : HC (histF planP o s e) (if wr then d else val) m := by
 obtain ⟨o0, bb, h1, h2, h3, h4, h5, h6, h7, h8⟩ := h.ex
 have hop : s.opn e.a = some o0.length := by rw [h2, if_pos rfl]
 have e1 : histF planP o s e = ⟨s.out.modify o0.length (fun h => hopE h e s.n), s.forged, fun a => if a = e.a then none else s.opn a, s.seen, s.n + 1⟩ := by
  unfold histF
  rw [if_neg (by omega), if_pos hk, hop]
  dsimp only
  rw [if_pos he]
 have e2 : (o0 ++ [(⟨wr, d, bb, 0⟩ : HOp)]).modify o0.length (fun h => hopE h e s.n) = o0 ++ [⟨wr, if wr then d else e.ans.data, bb, (s.n : Int) + 1⟩] := mod_at (B := [])
 rw [e1, h1, e2]
 refine ⟨h.fg, fun a => ?_, ?_, ?_, fun x hx => ?_, ?_, by rw [List.length_append, List.length_singleton]; omega⟩
 ·dsimp only
  split
  ·rfl
  ·rename_i ha
   rw [h2, if_neg ha]
 ·rw [seqOK_snoc, h3, h4]
  cases wr
  ·rw [Bool.false_or, Bool.true_and]
   exact decide_eq_true (hv rfl)
  ·rfl
 ·rw [lastV_snoc, h4]
  cases wr
  ·rfl
  ·rfl
 ·rcases List.mem_append.1 hx with hx | hx
  ·have := h5 x hx
   refine ⟨this.1, ?_⟩
   show x.b ≤ ((s.n + 1 : Nat) : Int)
   omega
  ·rw [List.mem_singleton.1 hx]
   dsimp only
   omega
 ·refine List.pairwise_append.2 ⟨h6, List.pairwise_singleton _ _, fun x hx y hy => ?_⟩
  rw [List.mem_singleton.1 hy]
  exact (h5 x hx).2
theorem HC.done {o : Wsh} {s : HSt} {e : Evt} {val : List UInt8} {m : Nat} (h : HC s val m) (hk : e.kind = 2) : HC (histF planP o s e) val m := by
 have e1 : histF planP o s e = ⟨s.out, s.forged, fun a => if a = e.a then none else s.opn a, s.seen, s.n + 1⟩ := by
  unfold histF
  rw [if_neg (by omega), if_pos hk, h.opn]
 rw [e1]
 have ht := h.tick
 refine ⟨h.fg, fun a => ?_, h.sq, h.vl, ht.be, h.srt, h.len⟩
 dsimp only
 split
 ·rfl
 ·exact h.opn a
theorem HC.lin {H : HSt} {val : List UInt8} {m : Nat} (h : HC H val m) : linB (H.out ++ H.forged) zer16 = true := by
 rw [h.fg, List.append_nil]
 refine seq_lin _ _ h.sq (fun i k hik hk hx => ?_)
 have hi : i < H.out.length := by omega
 rw [hop_get _ hk, hop_get _ hi] at hx
 have h1 := (h.be _ (List.getElem_mem hk)).1
 have h2 : (H.out[i]).b ≤ (H.out[k]).b := by
  by_cases e : i = k
  ·subst e; exact Int.le_refl _
  ·exact List.pairwise_iff_getElem.1 h.srt i k hi hk (by omega)
 omega
theorem P11_no {pre : List Evt} {e : Evt} {b : Int} {val : List UInt8} {m : Nat} (hg : e.wish.group = 1) (hb : e.wish.block = b) (h : HC (histT planP (blkW b) (pre ++ [e])) val m) : ¬ P11 planP (pre ++ [e]) e := by
 rintro ⟨_, _, _, h4⟩
 have e1 : histP planP e.wish (pre ++ [e]) = (histT planP (blkW b) (pre ++ [e])).out ++ (histT planP (blkW b) (pre ++ [e])).forged := by
  unfold histP
  rw [histT_congr (o := e.wish) (o' := blkW b) hg hb]
 rw [e1] at h4
 exact lin_no h.lin h4
structure Wd (J : Int → Job) (ran : Int → Int → Bool) (cw : Int → Cal) (pre : List Evt) : Prop where
 nb : NB pre
 kp : Kp J ran cw (valOf pre)
theorem ranL_no : ∀ (es : List Evt) (ran : Int → Int → Bool) (s n : Int), ran s n = false → (∀ e ∈ es, ¬ (s = e.seq ∧ n = e.a)) → ranL ran es s n = false
 | [], _, _, _, h, _ => h
 | e :: t, ran, s, n, h, hn => ranL_no t (ranE ran e) s n (by rw [ranE, if_neg (hn e List.mem_cons_self)]; exact h) (fun x hx => hn x (List.mem_cons_of_mem _ hx))
def tickN : Nat → HSt → HSt
 | 0, H => H
 | n + 1, H => tickN n (tick H)
theorem HC.tickN : ∀ (n : Nat) {H : HSt} {val : List UInt8} {m : Nat}, HC H val m → HC (tickN n H) val m
 | 0, _, _, _, h => h
 | n + 1, _, _, _, h => HC.tickN n h.tick
theorem HO.tickN : ∀ (n : Nat) {H : HSt} {a : Int} {wr : Bool} {d val : List UInt8} {m : Nat}, HO H a wr d val m → HO (tickN n H) a wr d val m
 | 0, _, _, _, _, _, _, h => h
 | n + 1, _, _, _, _, _, _, h => HO.tickN n h.tick
def stB (x : Int) : Int := stK x % 2
def stW (x : Int) : Bool := decide (stK x / 2 % 2 = 0)
def wishO (i : Nat) (x : Int) (s : SSt) : Wsh := if stW x then wrW (31 + stN x) (s.cl (stN x) + 1) (stB x) (UInt8.ofNat (i + 1)) else rdW (31 + stN x) (s.cl (stN x) + 1) (stB x)
def ansO (x : Int) (s : SSt) : Ans := if stW x then ans0 else ⟨0, dat (s.bl (stB x)), 0, []⟩
def runsO (i : Nat) (x : Int) (s : SSt) : List Evt := fourM.map fun m => runA m i (wishO i x s) (ansO x s)
def midO (i : Nat) (x : Int) (s : SSt) : List Evt := s.out ++ [callE (wishO i x s)] ++ (runsO i x s).filter (nowQ (stK x)) ++ [doneE (wishO i x s) (ansO x s)]
def lateO (i : Nat) (x : Int) (s : SSt) : List Evt := s.late ++ (runsO i x s).filter (fun e => !nowQ (stK x) e)
def stepO (i : Nat) (x : Int) (s : SSt) : SSt :=
  ⟨if i % 4 = 3 then midO i x s ++ lateO i x s ++ fourM.map (markA i) else midO i x s, if i % 4 = 3 then [] else lateO i x s,
   fun b => if stW x ∧ b = stB x then UInt8.ofNat (i + 1) else s.bl b, fun n => if n = stN x then s.cl n + 1 else s.cl n⟩
structure Inv (i : Nat) (s : SSt) : Prop where
 ex : ∃ J ran cw, Wd J ran cw s.out ∧ (∀ n, n = 0 ∨ n = 1 → (cw (31 + n)).opn = false ∧ (cw (31 + n)).many = s.cl n) ∧ (∀ e ∈ s.late, GoodRun J e ∧ ran e.seq e.a = false ∧ e.seq ≤ i) ∧ s.late.Pairwise (fun x y => ¬ sameE x y) ∧ (∀ t n, (i : Int) < t → ran t n = false)
 hist : ∀ b, b = 0 ∨ b = 1 → HC (histT planP (blkW b) s.out) (dat (s.bl b)) i
 len : s.out.length + s.late.length ≤ 10 * i
theorem inv0 : Inv 0 sto0 := ⟨⟨fun _ => job0, fun _ _ => false, fun _ => cal0, ⟨fun j hj => absurd hj (Nat.not_lt_zero _), kp0 _⟩, fun _ _ => ⟨rfl, rfl⟩, fun _ h => (by cases h), List.Pairwise.nil, fun _ _ _ => rfl⟩, fun _ _ => hc0 0, Nat.zero_le _⟩
theorem Kp.upd {J : Int → Job} {ran : Int → Int → Bool} {cw : Int → Cal} {v : JVal} (h : Kp J ran cw v) {s : Int} {j : Job} (hr : ∀ n, ran s n = false) : Kp (fun t => if t = s then j else J t) ran cw v :=
 ⟨h.time, h.down, h.bat, h.mrk, fun t n => by
  rw [h.jobs]
  by_cases e : t = s
  ·rw [e, hr n]; rfl
  ·rw [if_neg e], h.sld, h.cal⟩
theorem stN_b (x : Int) : stN x = 0 ∨ stN x = 1 := by
 have h2 := Int.emod_nonneg x (by decide : (2 : Int) ≠ 0)
 have h3 := Int.emod_lt_of_pos x (by decide : (0 : Int) < 2)
 rw [stN, bringI, if_neg (by decide)]
 omega
theorem stB_b (x : Int) : stB x = 0 ∨ stB x = 1 := by
 unfold stB
 omega
theorem wish_f (i : Nat) (x : Int) (s : SSt) : (wishO i x s).client = 31 + stN x ∧ (wishO i x s).stamp = s.cl (stN x) + 1 ∧ (wishO i x s).group = 1 ∧ (wishO i x s).block = stB x ∧ (wishO i x s).kind = if stW x then 2 else 1 := by
 unfold wishO
 cases stW x
 ·exact ⟨rfl, rfl, rfl, rfl, rfl⟩
 ·exact ⟨rfl, rfl, rfl, rfl, rfl⟩
theorem mem_runs {i : Nat} {x : Int} {s : SSt} {e : Evt} (h : e ∈ runsO i x s) : ∃ m, 5 ≤ m ∧ m ≤ 8 ∧ e = runA m i (wishO i x s) (ansO x s) := by
 obtain ⟨m, hm, rfl⟩ := List.mem_map.1 h
 refine ⟨m, ?_, ?_, rfl⟩ <;> (simp only [fourM, List.mem_cons, List.not_mem_nil, or_false] at hm; omega)
theorem good_runs {i : Nat} {x : Int} {s : SSt} {e : Evt} {J : Int → Job} (hi : i < 12) (hJ : J (1 + (i : Int)) = ⟨wishO i x s, ansO x s⟩) (h : e ∈ runsO i x s) : GoodRun J e ∧ e.seq = 1 + (i : Int) := by
 obtain ⟨m, h1, h2, rfl⟩ := mem_runs h
 refine ⟨⟨⟨.inl rfl, rfl, ⟨h1, h2⟩, rfl, rfl, ?_⟩, rfl, ?_, hJ, ?_⟩, rfl⟩
 ·show 1 ≤ 1 + (i : Int) ∧ 1 + (i : Int) ≤ 12
  omega
 ·show dig1 (UInt8.ofNat i) = digS (1 + (i : Int))
  rw [digS, show (1 + (i : Int)).toNat - 1 = i from by omega]
 ·show (wishO i x s).client ≠ 33
  rw [(wish_f i x s).1]
  have := stN_b x
  omega
theorem runs_pw (i : Nat) (x : Int) (s : SSt) : (runsO i x s).Pairwise (fun x y => ¬ sameE x y) := by
 unfold runsO
 rw [List.pairwise_map]
 have h : fourM.Pairwise (fun a b => a ≠ b) := by decide
 exact h.imp (fun {a b} hab hs => hab hs.2)
theorem len_runs (i : Nat) (x : Int) (s : SSt) (q : Evt → Bool) : ((runsO i x s).filter q).length + ((runsO i x s).filter (fun e => !q e)).length = 4 := by
 have h : ∀ l : List Evt, (l.filter q).length + (l.filter (fun e => !q e)).length = l.length := by
  intro l
  induction l with
  | nil => rfl
  | cons e t ih =>
   cases hq : q e
   ·rw [List.filter_cons_of_neg (by rw [hq]; decide), List.filter_cons_of_pos (by rw [hq]; rfl), List.length_cons, List.length_cons]; omega
   ·rw [List.filter_cons_of_pos hq, List.filter_cons_of_neg (by rw [hq]; decide), List.length_cons, List.length_cons]; omega
 rw [h]; rfl
end Go.Proofs.Ytgheaedligkhoaa
namespace Go.Proofs.Ytgheaedligkhoaa
open Go.RowKit Go.Eng _root_.Go.Proofs.Try
set_option maxRecDepth 100000
variable {w0 w : World} {M0 Fz : Nat → Prop} {H : List It} {A : Option Addr} {c : Nat}
theorem stK_b (x : Int) : 0 ≤ stK x ∧ stK x < 4096 := by
 have h2 := Int.emod_nonneg (x.fdiv 2) (by decide : (4096 : Int) ≠ 0)
 have h3 := Int.emod_lt_of_pos (x.fdiv 2) (by decide : (0 : Int) < 4096)
 rw [stK, bringI, if_neg (by decide)]
 omega
end Go.Proofs.Ytgheaedligkhoaa
namespace Go.Proofs.Ytgheaedligkhoaa
open Go.RowKit Go.Eng _root_.Go.Proofs.Try Go.Eng _root_.Go.Proofs.Try
set_option maxRecDepth 100000
variable {w0 w : World} {M0 Fz : Nat → Prop} {H : List It} {A : Option Addr} {c : Nat}
def onQ (i : Nat) (W : Wsh) (an : Ans) (kk : Int) (q : Nat) : List Evt := ((fourM.take q).map fun m => runA m i W an).filter (nowQ kk)
def offQ (i : Nat) (W : Wsh) (an : Ans) (kk : Int) (q : Nat) : List Evt := ((fourM.take q).map fun m => runA m i W an).filter (fun e => !nowQ kk e)
theorem onQ_step {i : Nat} {W : Wsh} {an : Ans} {kk : Int} {q : Nat} (h : q < 4) : onQ i W an kk (q + 1) = onQ i W an kk q ++ if nowQ kk (runA (5 + q) i W an) then [runA (5 + q) i W an] else [] := by
 rw [onQ, fourM_step h, List.map_append, List.filter_append, List.map_singleton, List.filter_cons]
 rfl
theorem offQ_step {i : Nat} {W : Wsh} {an : Ans} {kk : Int} {q : Nat} (h : q < 4) : offQ i W an kk (q + 1) = offQ i W an kk q ++ if nowQ kk (runA (5 + q) i W an) then [] else [runA (5 + q) i W an] := by
 rw [offQ, fourM_step h, List.map_append, List.filter_append, List.map_singleton, List.filter_cons]
 congr 1
 cases nowQ kk (runA (5 + q) i W an) <;> rfl
theorem onQ_len (i : Nat) (W : Wsh) (an : Ans) (kk : Int) (q : Nat) : (onQ i W an kk q).length ≤ 4 := Nat.le_trans (List.length_filter_le _ _) (by rw [List.length_map]; exact Nat.le_trans (List.length_take_le' _ _) (Nat.le_refl 4))
theorem offQ_len (i : Nat) (W : Wsh) (an : Ans) (kk : Int) (q : Nat) : (offQ i W an kk q).length ≤ 4 := Nat.le_trans (List.length_filter_le _ _) (by rw [List.length_map]; exact Nat.le_trans (List.length_take_le' _ _) (Nat.le_refl 4))
theorem mkQ_step {i q : Nat} (h : q < 4) : mkQ i (q + 1) = mkQ i q ++ [markA i (5 + q)] := by
 rw [mkQ, fourM_step h, List.map_append, List.map_singleton]
 rfl
theorem mkQ_len (i q : Nat) : (mkQ i q).length ≤ 4 := by rw [mkQ, List.length_map]; exact Nat.le_trans (List.length_take_le' _ _) (Nat.le_refl 4)
end Go.Proofs.Ytgheaedligkhoaa
