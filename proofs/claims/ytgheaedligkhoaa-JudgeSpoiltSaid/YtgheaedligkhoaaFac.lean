/- What each of these functions computes, for every argument that its theorem names; a part of what the proof of JudgeSpoilt stands on. -/
import Derived.Test.YtgheaedligkhoaaFaa
import Derived.Test.YtgheaedligkhoaaAaa
import Derived.Test.YtgheaedligkhoaaAab
import Derived.Test.YtgheaedligkhoaaAac
import Derived.Test.YtgheaedligkhoaaAad
import Derived.Test.YtgheaedligkhoaaAae
import Derived.Test.YtgheaedligkhoaaAah
import Derived.Test.YtgheaedligkhoaaAam
import Derived.Test.YtgheaedligkhoaaAar
import Derived.Test.YtgheaedligkhoaaAas
import Derived.Test.YtgheaedligkhoaaAau
import Derived.Test.YtgheaedligkhoaaAav
import Derived.Test.YtgheaedligkhoaaAax
import Derived.Test.YtgheaedligkhoaaFab
namespace Go.Proofs.Ytgheaedligkhoaa
open Go.RowKit Go.Eng _root_.Go.Proofs.Try Go.Eng _root_.Go.Proofs.Try
set_option maxRecDepth 100000
variable {w0 w : World} {M0 Fz : Nat → Prop} {H : List It} {A : Option Addr} {c : Nat}
theorem hist_eq {p : Pln} {l : List Evt} {i : Nat} (hi : i < l.length) (h2 : (l.getD i evt0).kind = 2) (h8 : ∀ j, j < i → ¬ R8 (l.take j) (l.getD j evt0)) : histP p (l.getD i evt0).wish (l.take (i + 1)) = histS p l i := by
 have h := hv_all (p := p) (o := (l.getD i evt0).wish) (l := l) (k := i + 1) (by omega) (fun j hj => by
  by_cases e : j = i
  ·subst e; exact fun x => by have := x.1; omega
  ·exact h8 j (by omega))
 unfold histP histS
 rw [h.out, h.fg, forgS_step _ _ hi, forgF_no (by omega)]
 congr 1
 unfold opsS
 rw [List.range_succ, List.filterMap_append, List.filterMap_cons_none (show opK l _ (i + 1) i = none from if_neg (fun x => by have := x.1; omega)), List.filterMap_nil, List.append_nil]
 refine fm_congr (fun j hj => ?_)
 unfold opK
 rw [opU_opS]
 rfl
theorem R11_iff {p : Pln} {l : List Evt} {i : Nat} (hi : i < l.length) (h8 : ∀ j, j < i → ¬ R8 (l.take j) (l.getD j evt0)) : R11 p l i ↔ P11 p (l.take (i + 1)) (l.getD i evt0) := by
 unfold R11 P11
 refine and_congr_right (fun hw => ?_)
 rw [hist_eq hi hw.1 h8]
 constructor
 ·rintro ⟨h1, h2⟩
  refine ⟨⟨h1, rfl, rfl⟩, ?_, h2⟩
  unfold linO at h2
  by_cases hc : chkH (histS p l i) = 0
  ·exact ((chkH_zero _).1 hc).1
  ·rw [if_neg hc] at h2
   exact absurd (Prod.mk.inj h2).2 hc
 ·rintro ⟨h1, _, h2⟩
  exact ⟨h1.1, h2⟩
theorem plain_ok {p : Pln} {l : List Evt} {i : Nat} (hi : i < l.length) (hno : ∀ j, j < i → broken p l j = 0) : firstA (anJ p l i (valOf (l.take i)) (l.getD i evt0)) 0 10 = broken p l i := by
 obtain ⟨hV, hA⟩ := known (by omega) hno
 have h8 : ∀ j, j < i → ¬ R8 (l.take j) (l.getD j evt0) := fun j hj => (broken_no (hno j hj)).2.2.2.1
 generalize hv : valOf (l.take i) = v at hV
 have a0 : anJ p l i v (l.getD i evt0) 0 = if R1 p (l.take i) (l.getD i evt0) then 1 else 0 := iteC (V1_iff hV) rfl rfl
 have a1 : anJ p l i v (l.getD i evt0) 1 = if R2 (l.take i) (l.getD i evt0) then 2 else 0 := iteC (V2_iff hV) rfl rfl
 have a2 : anJ p l i v (l.getD i evt0) 2 = if R3 p (l.getD i evt0) then 3 else 0 := iteC Iff.rfl rfl rfl
 have a3 : anJ p l i v (l.getD i evt0) 3 = if R4 (l.take i) (l.getD i evt0) then 4 else 0 := iteC ((V4_iff hV).trans (R4_iff hA).symm) rfl rfl
 unfold broken
 rw [firstA_if a0 (by decide)]
 by_cases r1 : R1 p (l.take i) (l.getD i evt0)
 ·rw [if_pos r1, if_pos r1]
 rw [if_neg r1, if_neg r1, firstA_if a1 (by decide)]
 by_cases r2 : R2 (l.take i) (l.getD i evt0)
 ·rw [if_pos r2, if_pos r2]
 rw [if_neg r2, if_neg r2, firstA_if a2 (by decide)]
 by_cases r3 : R3 p (l.getD i evt0)
 ·rw [if_pos r3, if_pos r3]
 have hs := hV.step hi r2
 have a4 : anJ p l i v (l.getD i evt0) 4 = if R5 p (l.take (i + 1)) (l.getD i evt0) then 5 else 0 := iteC ((V5_iff hs).trans (R5_iff hi).symm) rfl rfl
 have a5 : anJ p l i v (l.getD i evt0) 5 = if R6 (l.take i) (l.getD i evt0) then 6 else 0 := iteC ((V6_iff hV).trans R6_iff.symm) rfl rfl
 have h7 : (l.getD i evt0).kind = 7 → 0 ≤ (l.getD i evt0).epoch := fun h7 => Decidable.byContradiction (fun hn => r3 ⟨.inr (.inr h7), .inr (.inr (.inl (by omega)))⟩)
 have a6 : anJ p l i v (l.getD i evt0) 6 = if R7 (l.take i) (l.getD i evt0) then 7 else 0 := iteC ((V7_iff hV).trans (R7_iff hA h7).symm) rfl rfl
 have a7 : anJ p l i v (l.getD i evt0) 7 = if R8 (l.take i) (l.getD i evt0) then 8 else 0 := iteC (V8_iff hV) rfl rfl
 have a8 : anJ p l i v (l.getD i evt0) 8 = if R9 (l.take i) (l.getD i evt0) then 9 else if R10 (l.take i) (l.getD i evt0) then 10 else 0 := iteC (V9_iff hV) rfl (iteC Iff.rfl rfl rfl)
 have a9 : anJ p l i v (l.getD i evt0) 9 = if R11 p l i then 11 else 0 := iteC (R11_iff hi h8).symm rfl rfl
 rw [if_neg r3, if_neg r3, firstA_if a3 (by decide), firstA_if a4 (by decide), firstA_if a5 (by decide), firstA_if a6 (by decide), firstA_if a7 (by decide)]
 have e8 : firstA (anJ p l i v (l.getD i evt0)) 8 2 = if R9 (l.take i) (l.getD i evt0) then 9 else if R10 (l.take i) (l.getD i evt0) then 10 else if R11 p l i then 11 else 0 := by
  rw [firstA, a8]
  by_cases r9 : R9 (l.take i) (l.getD i evt0)
  ·rw [if_pos r9, if_neg (by decide), if_pos r9]
  ·rw [if_neg r9, if_neg r9]
   by_cases r10 : R10 (l.take i) (l.getD i evt0)
   ·rw [if_pos r10, if_neg (by decide), if_pos r10]
   ·rw [if_neg r10, if_pos rfl, if_neg r10]
    exact firstA_if (n := 0) a9 (by decide)
 rw [e8]
theorem opS_cut {l : List Evt} {n i j : Nat} (hj : j < i) (h : i < n) : opS (l.take n) i j = opS l i j := by
 unfold opS
 rw [getD_take (l := l) (i := n) (j := j) (by omega), endS_cut (k := i - j) (j := j + 1) (by omega)]
 cases he : endS l (l.getD j evt0).a (j + 1) (i - j) with
 | none => rfl
 | some m =>
  have hm := endS_b l _ _ _ _ he
  dsimp only
  rw [getD_take (l := l) (i := n) (j := m) (by omega)]
theorem histS_cut {p : Pln} {l : List Evt} {n i : Nat} (h : i < n) : histS p (l.take n) i = histS p l i := by
 unfold histS
 rw [getD_take (l := l) (i := n) (j := i) h, take_take_le (by omega)]
 congr 1
 unfold opsS
 refine fm_congr (fun j hj => ?_)
 rw [getD_take (l := l) (i := n) (j := j) (by omega), opS_cut hj h]
theorem broken_cut {p : Pln} {l : List Evt} {n i : Nat} (h : i < n) : broken p (l.take n) i = broken p l i := by
 have e11 : R11 p (l.take n) i ↔ R11 p l i := by
  unfold R11
  rw [getD_take (l := l) (i := n) (j := i) h, histS_cut h]
 unfold broken
 simp only [getD_take (l := l) (i := n) (j := i) h, take_take_le (l := l) (i := i) (n := n) (by omega), take_take_le (l := l) (i := i + 1) (n := n) (by omega), e11]
theorem lbring_ok {w : World} {i n : Int} (hi : i64 i) (hn : i64 n) : Ret prog 17 #[iv i, iv n] w (fun v w' => v = iv (bringI i n) ∧ Ext w w') := by
 refine ret_of_wk func17 rfl ntmps17 leB_ ?_
 have hp := HP.begin_ w
 refine so ?_
 refine Cd ?_ ?_ <;> intro k1 <;> refine so ?_
 ·exact Pt ⟨_, rfl, by rw [bringI, if_pos k1], hp.chg⟩
 have hb := tmod_b hi (by omega : 0 < n)
 have ht := tmod_bring (i := i) (by omega : 0 < n)
 unfold i64 at hi hn
 refine wl_rem (by decide) rfl rfl (by omega) rfl ?_
 generalize i.tmod n = z at hb ht
 refine so ?_
 refine Cd ?_ ?_ <;> intro k2 <;> refine so ?_
 ·exact Pt ⟨_, rfl, by rw [bringI, if_neg k1, ht, if_pos k2], hp.chg⟩
 ·exact Pt ⟨_, rfl, by rw [bringI, if_neg k1, ht, if_neg k2], hp.chg⟩
structure Kp (J : Int → Job) (ran : Int → Int → Bool) (cw : Int → Cal) (v : JVal) : Prop where
 time : v.time = 0
 down : ∀ a, v.down a = false
 bat : ∀ s d, v.bat 1 0 s = some d → d = digS s
 mrk : ∀ s d, v.mrk 1 0 s = some d → d = digM s
 jobs : ∀ s n, v.jobs 1 0 s n = if ran s n then [J s] else []
 sld : ∀ g ep, v.sld g ep = []
 cal : ∀ a, calOf v a = cw a
theorem kp0 (J : Int → Job) : Kp J (fun _ _ => false) (fun _ => cal0) val0 := ⟨rfl, fun _ => rfl, fun _ _ h => (by cases h), fun _ _ h => (by cases h), fun _ _ => rfl, fun _ _ => rfl, fun _ => rfl⟩
theorem u2_node {v : JVal} {e : Evt} (h : e.kind = 3 ∨ e.kind = 4) : u2 v e = { v with down := fun n => if n = e.a then false else v.down n } := by
 unfold u2
 rw [if_neg (notC h), if_neg (show ¬ e.kind = 9 by omega), decide_eq_false (show ¬ e.kind = 8 by omega)]
theorem V1_node {J : Int → Job} {ran : Int → Int → Bool} {cw : Int → Cal} {v : JVal} {e : Evt} (hv : Kp J ran cw v) (h : NodeE e) : ¬ V1 planP v e := by
 have hk := h.kind
 rintro (h1 | h1 | h1 | h1 | h1)
 ·rw [hv.time, h.time] at h1; omega
 ·omega
 ·omega
 ·refine h1 ?_
  unfold whoE
  rw [if_neg (notC hk)]
  have : nodesP planP = 8 := by decide
  rw [this]
  have := h.a
  omega
 ·exact bad_no (by have := h.a; omega) h1
theorem V2_node {J : Int → Job} {ran : Int → Int → Bool} {cw : Int → Cal} {v : JVal} {e : Evt} (hv : Kp J ran cw v) (h : NodeE e) : ¬ V2 v e := by
 have hk := h.kind
 rintro ⟨_, h1⟩
 rw [hv.down, decide_eq_false (show ¬ e.kind = 9 by omega)] at h1
 exact h1 rfl
theorem R3_node {e : Evt} (h : NodeE e) : ¬ R3 planP e := by
 have hg := h.group
 have he := h.epoch
 have hs := h.seq
 have hc : planP.chunks = 1 := rfl
 rintro ⟨_, h1⟩
 omega
theorem st_run {v : JVal} {e : Evt} (hk : e.kind = 3) : stJ v e 4 = { v with down := fun n => if n = e.a then false else v.down n, bat := up3 v.bat e.group e.epoch e.seq e.dig } := by
 show u4 (u2 v e) e = _
 rw [u2_node (.inl hk)]
 exact if_pos hk
theorem st_run5 {v : JVal} {e : Evt} (hk : e.kind = 3) : stJ v e 5 = { v with down := fun n => if n = e.a then false else v.down n, bat := up3 v.bat e.group e.epoch e.seq e.dig, jobs := upj v e } := by
 show u5 (stJ v e 4) e = _
 rw [st_run hk]
 exact if_pos hk
theorem st_mark5 {v : JVal} {e : Evt} (hk : e.kind = 4) : stJ v e 5 = { v with down := fun n => if n = e.a then false else v.down n, mrk := up3 v.mrk e.group e.epoch e.seq e.dig } := by
 show u5 (u4 (u2 v e) e) e = _
 rw [u2_node (.inr hk), u4, if_neg (by omega), if_pos hk, u5, if_neg (by omega)]
theorem kp_mark {J : Int → Job} {ran : Int → Int → Bool} {cw : Int → Cal} {v : JVal} {e : Evt} (hv : Kp J ran cw v) (h : NodeE e) (hk : e.kind = 4) (hd : e.dig = digM e.seq) : Kp J ran cw (valF v e) := by
 have e1 : valF v e = { v with time := e.time, down := fun n => if n = e.a then false else v.down n, mrk := up3 v.mrk e.group e.epoch e.seq e.dig } := by
  unfold valF
  rw [(st_node h.kind).2.2.2, st_mark5 hk]
 rw [e1]
 refine ⟨h.time, fun a => ?_, hv.bat, fun s d hb => ?_, hv.jobs, hv.sld, fun a => hv.cal a⟩
 ·dsimp only
  split
  ·rfl
  ·exact hv.down a
 ·dsimp only [up3] at hb
  split at hb
  ·rename_i hc
   cases hb
   rw [hc.2.2]; exact hd
  ·exact hv.mrk s d hb
theorem V4_run {J : Int → Job} {ran : Int → Int → Bool} {cw : Int → Cal} {v : JVal} {e : Evt} (hv : Kp J ran cw v) (h : NodeE e) (hk : e.kind = 3) (hd : e.dig = digS e.seq) : ¬ V4 (stJ v e 3) e := by
 have e3 : (stJ v e 3).bat = v.bat := by show (u2 v e).bat = v.bat; rw [u2_node (.inl hk)]
 rintro (⟨_, h1⟩ | ⟨h1, _⟩)
 ·rw [e3, h.group, h.epoch] at h1
  cases hb : v.bat 1 0 e.seq with
  | none => rw [hb] at h1; cases h1
  | some d =>
   rw [hb, hv.bat _ _ hb, hd] at h1
   exact absurd rfl (of_decide_eq_true h1)
 ·omega
theorem V4_mark {J : Int → Job} {ran : Int → Int → Bool} {cw : Int → Cal} {v : JVal} {e : Evt} (hv : Kp J ran cw v) (h : NodeE e) (hk : e.kind = 4) (hd : e.dig = digM e.seq) : ¬ V4 (stJ v e 3) e := by
 have e3 : (stJ v e 3).mrk = v.mrk := by show (u2 v e).mrk = v.mrk; rw [u2_node (.inr hk)]
 rintro (⟨h1, _⟩ | ⟨_, h1⟩)
 ·omega
 ·rw [e3, h.group, h.epoch] at h1
  cases hb : v.mrk 1 0 e.seq with
  | none => rw [hb] at h1; cases h1
  | some d =>
   rw [hb, hv.mrk _ _ hb, hd] at h1
   exact absurd rfl (of_decide_eq_true h1)
theorem V5_run {J : Int → Job} {ran : Int → Int → Bool} {cw : Int → Cal} {v : JVal} {e : Evt} (hv : Kp J ran cw v) (h : NodeE e) (hk : e.kind = 3) (hj : J e.seq = ⟨e.wish, e.ans⟩) (hr : ran e.seq e.a = false) : ¬ V5 planP (stJ v e 4) e := by
 rintro ⟨_, h1⟩
 obtain ⟨n, _, hn⟩ := List.any_eq_true.1 h1
 have hu : ∀ m, upj (stJ v e 4) e e.group e.epoch e.seq m = if m = e.a then [J e.seq] else if ran e.seq m then [J e.seq] else [] := fun m => by
  have e4 : (stJ v e 4).jobs = v.jobs := by rw [st_run hk]
  unfold upj
  rw [e4, h.group, h.epoch, hv.jobs]
  by_cases hm : m = e.a
  ·rw [if_pos ⟨rfl, rfl, rfl, hm⟩, if_pos hm, hm, hr, hj]; rfl
  ·rw [if_neg (fun x => hm x.2.2.2), if_neg hm]
 have h2 := of_decide_eq_true hn
 rw [hu n, hu e.a, if_pos rfl] at h2
 by_cases hm : n = e.a
 ·rw [if_pos hm, hj] at h2
  exact h2.2 ⟨rfl, rfl⟩
 ·rw [if_neg hm] at h2
  cases hrn : ran e.seq n
  ·rw [hrn] at h2
   exact absurd (show 1 ≤ 0 from h2.1) (by decide)
  ·rw [hrn, if_pos rfl, hj] at h2
   exact h2.2 ⟨rfl, rfl⟩
theorem an_cli {J : Int → Job} {ran : Int → Int → Bool} {cw : Int → Cal} {v : JVal} {e : Evt} {l : List Evt} {i : Nat} (hv : Kp J ran cw v) (h : CliE e) : anJ planP l i v e 0 = 0 ∧ anJ planP l i v e 1 = 0 ∧ anJ planP l i v e 2 = 0 ∧ anJ planP l i v e 3 = 0 ∧ anJ planP l i v e 4 = 0 ∧ anJ planP l i v e 5 = 0 ∧ anJ planP l i v e 6 = 0 := by
 have hk := h.kind
 refine ⟨if_neg (fun x => ?_), if_neg (fun x => x.1 hk), if_neg (fun x => ?_), if_neg (fun x => ?_), if_neg (fun x => by have := x.1; omega), if_neg (fun x => ?_), if_neg (fun x => by have := x.1; omega)⟩
 ·rcases x with h1 | h1 | h1 | h1 | h1
  ·rw [hv.time, h.time] at h1; omega
  ·omega
  ·omega
  ·refine h1 ?_
   unfold whoE
   rw [if_pos (show clientE e from hk)]
   have : planP.clients = 2 := rfl
   have := h.a
   exact .inl (by omega)
  ·exact bad_no (by have := h.a; omega) h1
 ·have := x.1
  unfold numbE at this
  omega
 ·rcases x with x | x <;> (have := x.1; omega)
 ·have := x.1
  unfold numbE at this
  omega
theorem kp_call {J : Int → Job} {ran : Int → Int → Bool} {cw : Int → Cal} {v : JVal} {e : Evt} (hv : Kp J ran cw v) (h : CliE e) (hk : e.kind = 1) : Kp J ran (cwCall cw e) (valF v e) := by
 have e1 : valF v e = { v with time := e.time, calls := upc v.calls e.a ⟨e.wish, true, (calOf v e.a).many + 1⟩ } := by
  unfold valF
  have h8 : stJ v e 8 = { v with calls := upc v.calls e.a ⟨e.wish, true, (calOf v e.a).many + 1⟩ } := by
   show u8 (stJ v e 7) e = _
   rw [(st_cli h.kind).2.2.2.2]
   exact if_pos hk
  have h9 : stJ v e 10 = stJ v e 8 := if_neg (show ¬ e.kind = 2 by omega)
  rw [h9, h8]
 rw [e1]
 refine ⟨h.time, hv.down, hv.bat, hv.mrk, hv.jobs, hv.sld, fun a => ?_⟩
 unfold cwCall calOf upc
 dsimp only
 by_cases ha : a = e.a
 ·rw [if_pos ha, if_pos ha, ha]
  have := hv.cal e.a
  unfold calOf at this
  rw [this]; rfl
 ·rw [if_neg ha, if_neg ha]; exact hv.cal a
theorem kp_done {J : Int → Job} {ran : Int → Int → Bool} {cw : Int → Cal} {v : JVal} {e : Evt} (hv : Kp J ran cw v) (h : CliE e) (hk : e.kind = 2) : Kp J ran (cwDone cw e) (valF v e) := by
 have e1 : valF v e = { v with time := e.time, calls := upc v.calls e.a ⟨(calOf v e.a).wish, false, (calOf v e.a).many⟩ } := by
  unfold valF
  have h8 : stJ v e 8 = v := by show u8 (stJ v e 7) e = v; rw [(st_cli h.kind).2.2.2.2, u8, if_neg (by omega)]
  have h9 : stJ v e 10 = { v with calls := upc v.calls e.a ⟨(calOf v e.a).wish, false, (calOf v e.a).many⟩ } := by
   show u9 (stJ v e 8) e = _
   rw [h8]
   exact if_pos hk
  rw [h9]
 rw [e1]
 refine ⟨h.time, hv.down, hv.bat, hv.mrk, hv.jobs, hv.sld, fun a => ?_⟩
 unfold cwDone calOf upc
 dsimp only
 have := hv.cal e.a
 unfold calOf at this
 by_cases ha : a = e.a
 ·rw [if_pos ha, if_pos ha, ha, this]; rfl
 ·rw [if_neg ha, if_neg ha]; exact hv.cal a
theorem histT_congr {p : Pln} {o o' : Wsh} (h1 : o.group = o'.group) (h2 : o.block = o'.block) (l : List Evt) : histT p o l = histT p o' l := by
 unfold histT
 have : histF p o = histF p o' := by funext s x; exact histF_congr h1 h2 s x
 rw [this]
theorem lastV_snoc : ∀ (l : List HOp) (v : List UInt8) (x : HOp), lastV v (l ++ [x]) = if x.wr then x.val else lastV v l
 | [], _, _ => rfl
 | _ :: t, _v, x => lastV_snoc t _ x
theorem seqOK_snoc : ∀ (l : List HOp) (v : List UInt8) (x : HOp), seqOK v (l ++ [x]) = (seqOK v l && (x.wr || decide (x.val = lastV v l)))
 | [], v, x => by
  show ((x.wr || decide (x.val = v)) && true) = (true && (x.wr || decide (x.val = v)))
  rw [Bool.and_true, Bool.true_and]
 | y :: t, v, x => by
  rw [List.cons_append, seqOK, seqOK, seqOK_snoc t _ x, lastV, Bool.and_assoc]
structure HC (H : HSt) (val : List UInt8) (m : Nat) : Prop where
 fg : H.forged = []
 opn : ∀ a, H.opn a = none
 sq : seqOK zer16 H.out = true
 vl : lastV zer16 H.out = val
 be : ∀ x ∈ H.out, x.b ≤ x.e ∧ x.b ≤ H.n
 srt : H.out.Pairwise (fun x y => x.b ≤ y.b)
 len : H.out.length ≤ m
structure HO (H : HSt) (a : Int) (wr : Bool) (d val : List UInt8) (m : Nat) : Prop where
 fg : H.forged = []
 ex : ∃ o0 bb, H.out = o0 ++ [⟨wr, d, bb, 0⟩] ∧ (∀ x, H.opn x = if x = a then some o0.length else none) ∧ seqOK zer16 o0 = true ∧ lastV zer16 o0 = val ∧ (∀ x ∈ o0, x.b ≤ x.e ∧ x.b ≤ bb) ∧ o0.Pairwise (fun x y => x.b ≤ y.b) ∧ bb ≤ H.n ∧ o0.length < m
theorem hc0 (m : Nat) : HC hst0 zer16 m := ⟨rfl, fun _ => rfl, rfl, rfl, fun _ h => (by cases h), List.Pairwise.nil, Nat.zero_le _⟩
theorem HC.up {H : HSt} {val : List UInt8} {m k : Nat} (h : HC H val m) (hk : m ≤ k) : HC H val k := ⟨h.fg, h.opn, h.sq, h.vl, h.be, h.srt, Nat.le_trans h.len hk⟩
theorem HC.tick {H : HSt} {val : List UInt8} {m : Nat} (h : HC H val m) : HC (tick H) val m := ⟨h.fg, h.opn, h.sq, h.vl, fun x hx => ⟨(h.be x hx).1, by have := (h.be x hx).2; show x.b ≤ ((H.n + 1 : Nat) : Int); omega⟩, h.srt, h.len⟩
theorem HO.tick {H : HSt} {a : Int} {wr : Bool} {d val : List UInt8} {m : Nat} (h : HO H a wr d val m) : HO (tick H) a wr d val m := by
 obtain ⟨o0, bb, h1, h2, h3, h4, h5, h6, h7, h8⟩ := h.ex
 exact ⟨h.fg, o0, bb, h1, h2, h3, h4, h5, h6, by show bb ≤ ((H.n + 1 : Nat) : Int); omega, h8⟩
theorem HC.call {o : Wsh} {s : HSt} {e : Evt} {val : List UInt8} {m : Nat} (h : HC s val m) (hk : e.kind = 1) (ho : oursW e.wish o) : HO (histF planP o s e) e.a (decide (e.wish.kind = 2)) e.wish.data val (m + 1) := by
 have e1 : histF planP o s e = ⟨s.out ++ [hop1 e s.n], s.forged, fun a => if a = e.a then some s.out.length else s.opn a, s.seen, s.n + 1⟩ := if_pos ⟨hk, ho⟩
 rw [e1]
 refine ⟨h.fg, s.out, (s.n : Int) + 1, rfl, fun x => ?_, h.sq, h.vl, fun x hx => ⟨(h.be x hx).1, by have := (h.be x hx).2; omega⟩, h.srt, by show (s.n : Int) + 1 ≤ ((s.n + 1 : Nat) : Int); omega, by have := h.len; omega⟩
 dsimp only
 split
 ·rfl
 ·exact h.opn x
theorem HO.done {o : Wsh} {s : HSt} {e : Evt} {wr : Bool} {d val : List UInt8} {m : Nat} (h : HO s e.a wr d val m) (hk : e.kind = 2) (he : e.ans.err = 0) (hv : wr = false → e.ans.data = val) : HC (histF planP o s e) (if wr then d else val) m := by
 obtain ⟨o0, bb, h1, h2, h3, h4, h5, h6, h7, h8⟩ := h.ex
 have hop : s.opn e.a = some o0.length := by rw [h2, if_pos rfl]
 have e1 : histF planP o s e = ⟨s.out.modify o0.length (fun h => hopE h e s.n), s.forged, fun a => if a = e.a then none else s.opn a, s.seen, s.n + 1⟩ := by
  unfold histF
  rw [if_neg (by omega), if_pos hk, hop]
  dsimp only
  rw [if_pos he]
 have e2 : (o0 ++ [(⟨wr, d, bb, 0⟩ : HOp)]).modify o0.length (fun h => hopE h e s.n) = o0 ++ [⟨wr, if wr then d else e.ans.data, bb, (s.n : Int) + 1⟩] := mod_at (B := [])
 rw [e1, h1, e2]
 refine ⟨h.fg, fun a => ?_, ?_, ?_, fun x hx => ?_, ?_, by rw [List.length_append, List.length_singleton]; omega⟩
 ·dsimp only
  split
  ·rfl
  ·rename_i ha
   rw [h2, if_neg ha]
 ·rw [seqOK_snoc, h3, h4]
  cases wr
  ·rw [Bool.false_or, Bool.true_and]
   exact decide_eq_true (hv rfl)
  ·rfl
 ·rw [lastV_snoc, h4]
  cases wr
  ·rfl
  ·rfl
 ·rcases List.mem_append.1 hx with hx | hx
  ·have := h5 x hx
   refine ⟨this.1, ?_⟩
   show x.b ≤ ((s.n + 1 : Nat) : Int)
   omega
  ·rw [List.mem_singleton.1 hx]
   dsimp only
   omega
 ·refine List.pairwise_append.2 ⟨h6, List.pairwise_singleton _ _, fun x hx y hy => ?_⟩
  rw [List.mem_singleton.1 hy]
  exact (h5 x hx).2
theorem HC.lin {H : HSt} {val : List UInt8} {m : Nat} (h : HC H val m) : linB (H.out ++ H.forged) zer16 = true := by
 rw [h.fg, List.append_nil]
 refine seq_lin _ _ h.sq (fun i k hik hk hx => ?_)
 have hi : i < H.out.length := by omega
 rw [hop_get _ hk, hop_get _ hi] at hx
 have h1 := (h.be _ (List.getElem_mem hk)).1
 have h2 : (H.out[i]).b ≤ (H.out[k]).b := by
  by_cases e : i = k
  ·subst e; exact Int.le_refl _
  ·exact List.pairwise_iff_getElem.1 h.srt i k hi hk (by omega)
 omega
theorem lin_no {H : List HOp} (h : linB H zer16 = true) : linO H (List.replicate 16 0) ≠ (false, 0) := by
 unfold linO
 by_cases hc : chkH H = 0
 ·rw [if_pos hc]
  intro x
  have h2 : (G H zer16 0 (-1)).isSome = true := h
  have h3 : (G H (List.replicate 16 0) 0 (-1)).isSome = false := (Prod.mk.inj x).1
  rw [show (List.replicate 16 0 : List UInt8) = zer16 from rfl, h2] at h3
  cases h3
 ·rw [if_neg hc]
  exact fun x => hc (Prod.mk.inj x).2
theorem P11_no {pre : List Evt} {e : Evt} {b : Int} {val : List UInt8} {m : Nat} (hg : e.wish.group = 1) (hb : e.wish.block = b) (h : HC (histT planP (blkW b) (pre ++ [e])) val m) : ¬ P11 planP (pre ++ [e]) e := by
 rintro ⟨_, _, _, h4⟩
 have e1 : histP planP e.wish (pre ++ [e]) = (histT planP (blkW b) (pre ++ [e])).out ++ (histT planP (blkW b) (pre ++ [e])).forged := by
  unfold histP
  rw [histT_congr (o := e.wish) (o' := blkW b) hg hb]
 rw [e1] at h4
 exact lin_no h.lin h4
structure Wd (J : Int → Job) (ran : Int → Int → Bool) (cw : Int → Cal) (pre : List Evt) : Prop where
 nb : NB pre
 kp : Kp J ran cw (valOf pre)
structure GoodRun (J : Int → Job) (e : Evt) : Prop where
 node : NodeE e
 kind : e.kind = 3
 dig : e.dig = digS e.seq
 job : J e.seq = ⟨e.wish, e.ans⟩
 cli : e.wish.client ≠ 33
def ranL (ran : Int → Int → Bool) (es : List Evt) : Int → Int → Bool := es.foldl ranE ran
theorem ranL_no : ∀ (es : List Evt) (ran : Int → Int → Bool) (s n : Int), ran s n = false → (∀ e ∈ es, ¬ (s = e.seq ∧ n = e.a)) → ranL ran es s n = false
 | [], _, _, _, h, _ => h
 | e :: t, ran, s, n, h, hn => ranL_no t (ranE ran e) s n (by rw [ranE, if_neg (hn e List.mem_cons_self)]; exact h) (fun x hx => hn x (List.mem_cons_of_mem _ hx))
def nowQ (k : Int) (e : Evt) : Bool := bitK k e.a || decide (e.a = 5)
def stN (x : Int) : Int := bringI x 2
def stK (x : Int) : Int := bringI (x.fdiv 2) 4096
def stB (x : Int) : Int := stK x % 2
def stW (x : Int) : Bool := decide (stK x / 2 % 2 = 0)
def wishO (i : Nat) (x : Int) (s : SSt) : Wsh := if stW x then wrW (31 + stN x) (s.cl (stN x) + 1) (stB x) (UInt8.ofNat (i + 1)) else rdW (31 + stN x) (s.cl (stN x) + 1) (stB x)
def ansO (x : Int) (s : SSt) : Ans := if stW x then ans0 else ⟨0, dat (s.bl (stB x)), 0, []⟩
def sto0 : SSt := ⟨[], [], fun _ => 0, fun _ => 0⟩
structure Inv (i : Nat) (s : SSt) : Prop where
 ex : ∃ J ran cw, Wd J ran cw s.out ∧ (∀ n, n = 0 ∨ n = 1 → (cw (31 + n)).opn = false ∧ (cw (31 + n)).many = s.cl n) ∧ (∀ e ∈ s.late, GoodRun J e ∧ ran e.seq e.a = false ∧ e.seq ≤ i) ∧ s.late.Pairwise (fun x y => ¬ sameE x y) ∧ (∀ t n, (i : Int) < t → ran t n = false)
 hist : ∀ b, b = 0 ∨ b = 1 → HC (histT planP (blkW b) s.out) (dat (s.bl b)) i
 len : s.out.length + s.late.length ≤ 10 * i
theorem Kp.upd {J : Int → Job} {ran : Int → Int → Bool} {cw : Int → Cal} {v : JVal} (h : Kp J ran cw v) {s : Int} {j : Job} (hr : ∀ n, ran s n = false) : Kp (fun t => if t = s then j else J t) ran cw v :=
 ⟨h.time, h.down, h.bat, h.mrk, fun t n => by
  rw [h.jobs]
  by_cases e : t = s
  ·rw [e, hr n]; rfl
  ·rw [if_neg e], h.sld, h.cal⟩
theorem stN_b (x : Int) : stN x = 0 ∨ stN x = 1 := by
 have h2 := Int.emod_nonneg x (by decide : (2 : Int) ≠ 0)
 have h3 := Int.emod_lt_of_pos x (by decide : (0 : Int) < 2)
 rw [stN, bringI, if_neg (by decide)]
 omega
theorem stB_b (x : Int) : stB x = 0 ∨ stB x = 1 := by
 unfold stB
 omega
theorem good_marks {i : Nat} {e : Evt} (hi : i < 12) (h : e ∈ fourM.map (markA i)) : NodeE e ∧ e.kind = 4 ∧ e.dig = digM e.seq := by
 obtain ⟨m, hm, rfl⟩ := List.mem_map.1 h
 have hm2 : 5 ≤ m ∧ m ≤ 8 := by simp only [fourM, List.mem_cons, List.not_mem_nil, or_false] at hm; omega
 refine ⟨⟨.inr rfl, rfl, hm2, rfl, rfl, ?_⟩, rfl, ?_⟩
 ·show 1 ≤ 1 + (i : Int) ∧ 1 + (i : Int) ≤ 12
  omega
 ·show dig1 (UInt8.ofNat (100 + i)) = digM (1 + (i : Int))
  rw [digM, show (1 + (i : Int)).toNat + 99 = 100 + i from by omega]
theorem call_cli (w : Wsh) (h : 31 ≤ w.client ∧ w.client ≤ 32) : CliE (callE w) := ⟨.inl rfl, rfl, h⟩
theorem done_cli (w : Wsh) (a : Ans) (h : 31 ≤ w.client ∧ w.client ≤ 32) : CliE (doneE w a) := ⟨.inr rfl, rfl, h⟩
theorem GH.step {v : List UInt8} {p : Pln} {o : Wsh} {s : HSt} {e : Evt} (h : GH v s) (he : e.kind = 1 → e.wish.data ≠ v) : GH v (histF p o s e) := by
 have hup : ∀ x ∈ s.out, 1 ≤ x.b ∧ x.b ≤ ((s.n + 1 : Nat) : Int) ∧ (x.e = 0 ∨ x.b < x.e) ∧ (x.wr = true → x.val ≠ v) := fun x hx => by
  obtain ⟨h1, h2, h3, h4⟩ := h x hx
  exact ⟨h1, by omega, h3, h4⟩
 unfold histF
 split
 ·rename_i hc
  intro x hx
  rcases List.mem_append.1 hx with hx | hx
  ·exact hup x hx
  ·rw [List.mem_singleton.1 hx]
   refine ⟨by show 1 ≤ (s.n : Int) + 1; omega, by show (s.n : Int) + 1 ≤ ((s.n + 1 : Nat) : Int); omega, .inl rfl, fun _ => he hc.1⟩
 ·split
  ·split
   ·intro x hx
    dsimp only at hx ⊢
    split at hx
    ·rcases mem_mod _ _ _ hx with hx | ⟨y, hy, rfl⟩
     ·exact hup x hx
     ·obtain ⟨h1, h2, h3, h4⟩ := h y hy
      refine ⟨h1, by show y.b ≤ ((s.n + 1 : Nat) : Int); omega, .inr (by show y.b < (s.n : Int) + 1; omega), fun hw => ?_⟩
      have hw2 : y.wr = true := hw
      show (if y.wr then y.val else e.ans.data) ≠ v
      rw [hw2, if_pos rfl]
      exact h4 hw2
    ·exact hup x hx
   ·exact fun x hx => hup x hx
  ·split
   ·exact fun x hx => hup x hx
   ·exact fun x hx => hup x hx
theorem GH.all {v : List UInt8} {p : Pln} {o : Wsh} : ∀ (l : List Evt) (s : HSt), GH v s → (∀ e ∈ l, e.kind = 1 → e.wish.data ≠ v) → GH v (l.foldl (histF p o) s)
 | [], _, h, _ => h
 | e :: t, _s, h, he => GH.all t _ (h.step (he e List.mem_cons_self)) (fun x hx => he x (List.mem_cons_of_mem _ hx))
theorem HO.bad {o : Wsh} {s : HSt} {e : Evt} {d val : List UInt8} {m : Nat} (h : HO s e.a false d val m) (hk : e.kind = 2) (he : e.ans.err = 0) (hm : m ≤ 14) (hz : zer16 ≠ e.ans.data) (hgh : GH e.ans.data s) : ((histF planP o s e).out ++ (histF planP o s e).forged).length ≤ 14 ∧ linO ((histF planP o s e).out ++ (histF planP o s e).forged) (List.replicate 16 0) = (false, 0) := by
 obtain ⟨o0, bb, h1, h2, h3, h4, h5, h6, h7, h8⟩ := h.ex
 have hop : s.opn e.a = some o0.length := by rw [h2, if_pos rfl]
 have e1 : histF planP o s e = ⟨s.out.modify o0.length (fun h => hopE h e s.n), s.forged, fun a => if a = e.a then none else s.opn a, s.seen, s.n + 1⟩ := by
  unfold histF
  rw [if_neg (by omega), if_pos hk, hop]
  dsimp only
  rw [if_pos he]
 have e2 : (o0 ++ [(⟨false, d, bb, 0⟩ : HOp)]).modify o0.length (fun h => hopE h e s.n) = o0 ++ [⟨false, e.ans.data, bb, (s.n : Int) + 1⟩] := mod_at (B := [])
 have hbb := hgh ⟨false, d, bb, 0⟩ (by rw [h1]; simp)
 have hw : ∀ x ∈ o0, 1 ≤ x.b ∧ x.b ≤ s.n ∧ (x.e = 0 ∨ x.b < x.e) ∧ (x.wr = true → x.val ≠ e.ans.data) := fun x hx => hgh x (by rw [h1]; exact List.mem_append_left _ hx)
 rw [e1, h1, e2, h.fg, List.append_nil]
 have hl : o0.length < (o0 ++ [(⟨false, e.ans.data, bb, (s.n : Int) + 1⟩ : HOp)]).length := by simp
 have hg : (o0 ++ [(⟨false, e.ans.data, bb, (s.n : Int) + 1⟩ : HOp)])[o0.length] = ⟨false, e.ans.data, bb, (s.n : Int) + 1⟩ := by simp
 have hc : chkH (o0 ++ [(⟨false, e.ans.data, bb, (s.n : Int) + 1⟩ : HOp)]) = 0 := by
  rw [chkH_zero]
  refine ⟨by rw [List.length_append, List.length_singleton]; omega, fun x hx => ?_⟩
  unfold badOp
  refine decide_eq_false (fun hx2 => ?_)
  rcases List.mem_append.1 hx with hx | hx
  ·have := hw x hx
   omega
  ·rw [List.mem_singleton.1 hx] at hx2
   dsimp only at hx2 hbb
   omega
 have hn : linB (o0 ++ [(⟨false, e.ans.data, bb, (s.n : Int) + 1⟩ : HOp)]) zer16 = false := by
  refine Bool.eq_false_iff.2 (fun hx => ?_)
  obtain ⟨q, hq⟩ := (linB_iff _ _).1 hx
  rw [no_expl hl (by rw [hg]) (by rw [hg]) (by rw [hg]; show (0 : Int) < (s.n : Int) + 1; omega) (fun x hx hxw => ?_) q _ _ rfl hz] at hq
  ·cases hq
  ·rcases List.mem_append.1 hx with hx | hx
   ·exact (hw x hx).2.2.2 hxw
   ·rw [List.mem_singleton.1 hx] at hxw
    cases hxw
 refine ⟨((chkH_zero _).1 hc).1, ?_⟩
 unfold linO
 rw [if_pos hc]
 exact congrArg (fun b => (b, (0 : Int))) hn
theorem ste_mark {i : Nat} {e : Evt} (h : e ∈ fourM.map (markA i)) : StE e := by
 obtain ⟨m, _, rfl⟩ := List.mem_map.1 h
 exact ⟨show (1 : Int) ≤ 4 ∧ (4 : Int) ≤ 4 from by decide, fun _ => ⟨rfl, rfl, rfl⟩, dat_nil, fun h => absurd h (show ¬ (4 : Int) = 3 from by decide), fun h => absurd h (show ¬ (4 : Int) = 3 from by decide)⟩
def AllE (l : List Evt) : Prop := ∀ e ∈ l, StE e
theorem AllE.app {l m : List Evt} (h : AllE l) (k : AllE m) : AllE (l ++ m) := fun e he => (List.mem_append.1 he).elim (h e) (k e)
def twin (x y : Evt) : Prop := x.kind = 3 ∧ y.kind = 3 ∧ sameE x y
theorem twin_sym {x y : Evt} (h : ¬ twin x y) : ¬ twin y x := fun k => h ⟨k.2.1, k.1, k.2.2.1.symm, k.2.2.2.symm⟩
def NT (l : List Evt) : Prop := l.Pairwise (fun x y => ¬ twin x y)
theorem NT.perm {l m : List Evt} (h : NT l) (p : l.Perm m) : NT m := (p.pairwise_iff (R := fun x y => ¬ twin x y) (fun h => twin_sym h)).1 h
theorem NT.app {l m : List Evt} (h : NT l) (k : NT m) (hlm : ∀ x ∈ l, ∀ y ∈ m, ¬ twin x y) : NT (l ++ m) := List.pairwise_append.2 ⟨h, k, hlm⟩
theorem nine {l : List Evt} (h : AllE l) : ∀ x ∈ l, x.kind ≠ 9 := fun x hx => by
 have := (h x hx).kind
 omega
theorem spoil5 {pre : List Evt} {e e' x : Evt} (hA : AllE pre) (hk : e.kind = 3) (hn : NT (pre ++ [e])) (e1 : e'.kind = e.kind) (e2 : e'.a = e.a) (e3 : e'.seq = e.seq) (e4 : e'.group = e.group) (e5 : e'.epoch = e.epoch) (hg : e.group = 1 ∧ e.epoch = 0) (hb : e'.wish.block ≠ 0 ∧ e'.wish.block ≠ 1) (hx : x ∈ pre) (hxk : x.kind = 3) (hxs : x.seq = e.seq) (hxa : 1 ≤ x.a ∧ x.a ≤ 8) : R5 planP (pre ++ [e']) e' := by
 have hp := List.pairwise_append.1 hn
 have hno : ∀ y ∈ pre, ¬ (y.kind = 3 ∧ y.seq = e.seq ∧ y.a = e.a) := fun y hy k => hp.2.2 y hy e List.mem_cons_self ⟨k.1, hk, k.2.1, k.2.2⟩
 have hxn : x.a ≠ e'.a := fun k => hno x hx ⟨hxk, hxs, k.trans e2⟩
 have h9 : ∀ y ∈ pre ++ [e'], y.kind ≠ 9 := fun y hy => by
  rcases List.mem_append.1 hy with hy | hy
  ·exact nine hA y hy
  ·rw [List.mem_singleton.1 hy, e1, hk]; decide
 have own : runsE e' e'.a (pre ++ [e']) = [e'] := by
  have h0 : runsE e' e'.a pre = [] := by
   refine List.eq_nil_iff_forall_not_mem.2 (fun y hy => ?_)
   have := ((runsE_mem pre [] (nine hA) y).1 hy)
   rcases this with k | k
   ·cases k
   ·exact hno y k.1 ⟨k.2.2.1, k.2.2.2.2.trans e3, k.2.1.trans e2⟩
  have h1 : runsE e' e'.a (pre ++ [e']) = (if e'.a = e'.a then (if e'.kind = 9 then [] else if e'.kind = 3 ∧ thereE e' e' ∧ e'.seq = e'.seq then runsE e' e'.a pre ++ [e'] else runsE e' e'.a pre) else runsE e' e'.a pre) := by
   unfold runsE
   rw [List.foldl_append]
   rfl
  rw [h1, if_pos rfl, if_neg (by rw [e1, hk]; decide), if_pos ⟨e1.trans hk, ⟨rfl, rfl⟩, rfl⟩, h0]
  rfl
 have hxg := (hA x hx).node (.inl hxk)
 have hxm : x ∈ runsE e' x.a (pre ++ [e']) := (runsE_mem (pre ++ [e']) [] h9 x).2 (.inr ⟨List.mem_append_left _ hx, rfl, hxk, ⟨by rw [hxg.1, e4, hg.1], by rw [hxg.2.1, e5, hg.2]⟩, hxs.trans e3.symm⟩)
 have hpos : 0 < (runsE e' x.a (pre ++ [e'])).length := List.length_pos_of_mem hxm
 refine ⟨e1.trans hk, List.any_eq_true.2 ⟨x.a, ?_, ?_⟩⟩
 ·unfold namesP
  have : nodesP planP = 8 := by decide
  rw [this]
  refine List.mem_map.2 ⟨(x.a - 1).toNat, List.mem_range.2 (show _ < 8 by omega), by omega⟩
 ·unfold q5
  refine decide_eq_true ⟨hxn, by rw [own]; exact hpos, fun k => ?_⟩
  rw [own, show ([e'] : List Evt).length - 1 = 0 from rfl, List.getD_eq_getElem?_getD, List.getElem?_eq_getElem hpos] at k
  have hm0 := List.getElem_mem hpos
  generalize (runsE e' x.a (pre ++ [e']))[0] = y at k hm0
  have k1 : y.wish = e'.wish := k.1
  rcases (runsE_mem (pre ++ [e']) [] h9 y).1 hm0 with hm0 | hm0
  ·cases hm0
  ·rcases List.mem_append.1 hm0.1 with hy | hy
   ·have := (hA y hy).blk hm0.2.2.1
    rw [k1] at this
    omega
   ·rw [List.mem_singleton.1 hy] at hm0
    exact hxn hm0.2.1.symm
theorem broken_un {p : Pln} {pre : List Evt} {e : Evt} : broken p (pre ++ [e]) pre.length = (if R1 p pre e then 1 else if R2 pre e then 2 else if R3 p e then 3 else if R4 pre e then 4 else if R5 p (pre ++ [e]) e then 5 else if R6 pre e then 6 else if R7 pre e then 7 else if R8 pre e then 8 else if R9 pre e then 9 else if R10 pre e then 10 else if R11 p (pre ++ [e]) pre.length then 11 else 0) := by
 unfold broken
 rw [List.take_left' rfl, getD_mid (suf := []), List.take_of_length_le (by simp)]
theorem good_of {p : Pln} {pre : List Evt} {e : Evt} (h : broken p (pre ++ [e]) pre.length = 0) : Good p pre e := by
 rw [broken_un] at h
 by_cases h1 : R1 p pre e
 ·rw [if_pos h1] at h; cases h
 rw [if_neg h1] at h
 by_cases h2 : R2 pre e
 ·rw [if_pos h2] at h; cases h
 rw [if_neg h2] at h
 by_cases h3 : R3 p e
 ·rw [if_pos h3] at h; cases h
 rw [if_neg h3] at h
 by_cases h4 : R4 pre e
 ·rw [if_pos h4] at h; cases h
 rw [if_neg h4] at h
 by_cases h5 : R5 p (pre ++ [e]) e
 ·rw [if_pos h5] at h; cases h
 rw [if_neg h5] at h
 by_cases h6 : R6 pre e
 ·rw [if_pos h6] at h; cases h
 rw [if_neg h6] at h
 by_cases h7 : R7 pre e
 ·rw [if_pos h7] at h; cases h
 rw [if_neg h7] at h
 by_cases h8 : R8 pre e
 ·rw [if_pos h8] at h; cases h
 rw [if_neg h8] at h
 by_cases h9 : R9 pre e
 ·rw [if_pos h9] at h; cases h
 rw [if_neg h9] at h
 by_cases h10 : R10 pre e
 ·rw [if_pos h10] at h; cases h
 exact ⟨h1, h2, h3, h4, h5, h6, h7, h8, h9, h10⟩
theorem spoil4 {pre : List Evt} {e x : Evt} {d : Dig} (hg : Good planP pre e) (hA : AllE pre) (he : StE e) (hk : e.kind = 3 ∨ e.kind = 4) (hd : d.l.getD 31 0 ≠ 0) (hx : x ∈ pre) (hxk : x.kind = e.kind) (hxs : x.seq = e.seq) : broken planP (pre ++ [{ e with dig := d }]) pre.length = 4 := by
 have h4 : R4 pre { e with dig := d } := by
  have h1 := (hA x hx).node (by rw [hxk]; exact hk)
  have h2 := he.node hk
  refine ⟨hk, List.any_eq_true.2 ⟨x, hx, decide_eq_true ⟨hxk, ⟨h1.1.trans h2.1.symm, h1.2.1.trans h2.2.1.symm⟩, hxs, fun k => hd ?_⟩⟩⟩
  rw [show d = x.dig from k.symm]
  exact h1.2.2
 rw [broken_un, if_neg (show ¬ R1 planP pre { e with dig := d } from hg.r1), if_neg (show ¬ R2 pre { e with dig := d } from hg.r2), if_neg (show ¬ R3 planP { e with dig := d } from hg.r3), if_pos h4]
theorem spoil8 {pre : List Evt} {e : Evt} (hg : Good planP pre e) (hk : e.kind = 1) : broken planP (pre ++ [{ e with wish := { e.wish with stamp := e.wish.stamp + 1 } }]) pre.length = 8 := by
 have h8 : R8 pre { e with wish := { e.wish with stamp := e.wish.stamp + 1 } } := by
  refine ⟨hk, .inr (.inr (.inr (fun k => hg.r8 ⟨hk, .inr (.inr (.inr (fun k2 => ?_)))⟩)))⟩
  have k1 : e.wish.stamp + 1 = (callS e.a pre).many + 1 := k
  omega
 rw [broken_un, if_neg (show ¬ R1 planP pre { e with wish := { e.wish with stamp := e.wish.stamp + 1 } } from hg.r1), if_neg (show ¬ R2 pre { e with wish := { e.wish with stamp := e.wish.stamp + 1 } } from hg.r2), if_neg (show ¬ R3 planP { e with wish := { e.wish with stamp := e.wish.stamp + 1 } } from hg.r3), if_neg (show ¬ R4 pre { e with wish := { e.wish with stamp := e.wish.stamp + 1 } } from hg.r4), if_neg (fun h => by have h1 : e.kind = 3 := h.1; omega), if_neg (show ¬ R6 pre { e with wish := { e.wish with stamp := e.wish.stamp + 1 } } from hg.r6), if_neg (show ¬ R7 pre { e with wish := { e.wish with stamp := e.wish.stamp + 1 } } from hg.r7), if_pos h8]
def DD (pre : List Evt) (e : Evt) : Prop := e.ans.err = 0 ∧ e.wish.group = 1 ∧ ∃ d val m, m ≤ 14 ∧ HO (histT planP (blkW e.wish.block) pre) e.a (decide (e.wish.kind = 2)) d val m
def ID (L : List Evt) : Prop := ∀ pre e suf, L = pre ++ e :: suf → e.kind = 2 → DD pre e
theorem k2_marks {i : Nat} : ∀ e ∈ fourM.map (markA i), e.kind ≠ 2 := fun e he => by
 obtain ⟨m, _, rfl⟩ := List.mem_map.1 he
 show ¬ (4 : Int) = 2
 decide
theorem ahq_some {e : Evt} {p : List Evt} (h : p.any (ahq e) = true) : ∃ x ∈ p, x.kind = e.kind ∧ x.seq = e.seq := by
 obtain ⟨x, hx, hq⟩ := List.any_eq_true.1 h
 exact ⟨x, hx, of_decide_eq_true hq⟩
theorem dig31_at (d : Dig) : (dig31 d).l.getD 31 0 ≠ 0 := by
 have h := d.h
 show (d.l.set 31 1).getD 31 0 ≠ 0
 rw [List.getD_eq_getElem?_getD, List.getElem?_set_self (by omega)]
 decide
theorem digC_31 (d : Dig) : (digC d).set 31 (bv 1) = digC (dig31 d) := by
 rw [digC_map, digC_map, ← List.map_set]
 rfl
theorem set_dig31 {S : Nat → Prop} {w : World} {cs : List Value} {e : Evt} (h : evtR.rd S w cs e) : evtR.rd S w (cs.set 38 (bv 1)) { e with dig := dig31 e.dig } := by
 obtain ⟨hI, A0, c0, A1, c1, A2, c2, A3, c3, rfl, h4⟩ := h
 refine ⟨hI, A0, c0, A1, c1, A2, c2, A3, c3, ?_, h4⟩
 rw [List.set_append_right _ _ (show (7 : Nat) ≤ 38 by decide), List.set_append_left _ _ (by rw [digC_len]; show 38 - 7 < 32; decide), show (38 : Nat) - List.length _ = 31 from rfl, digC_31]
end Go.Proofs.Ytgheaedligkhoaa
namespace Go.Proofs.Ytgheaedligkhoaa
open Go.RowKit Go.Eng _root_.Go.Proofs.Try
set_option maxRecDepth 100000
variable {w0 w : World} {M0 Fz : Nat → Prop} {H : List It} {A : Option Addr} {c : Nat}
theorem SP.bytes_st (lo : Nat) (b : List Value) (f : Nat → Value) (zs : List Value) (eA : Nat) (he : 5 ≠ eA) : ∀ v w w' g, Chg (fun b => b = g) w w' → Blk w g eA zs → (SP.bytes lo b f).p v w → (SP.bytes lo b f).p v w' := by
 rintro v w w' g hc hb ⟨g2, hv, h1, h2⟩
 refine ⟨g2, hv, h1, h2.keep hc (fun x _ _ hx hxg => ?_)⟩
 obtain ⟨a, ha, rfl⟩ := hx
 cases ha
 exact OwnRow.ne h2 (by decide) hb he hxg.symm
theorem clC_get {f : Int → Int} {x : Int} (h : x = 0 ∨ x = 1) : (clC f)[x.toNat]? = some (iv (f x)) := by
 rcases h with rfl | rfl <;> rfl
theorem clC_set {f : Int → Int} {x v : Int} (h : x = 0 ∨ x = 1) : (clC f).set x.toNat (iv v) = clC (fun n => if n = x then v else f n) := by
 rcases h with rfl | rfl <;> rfl
theorem blC_get {f : Int → UInt8} {x : Int} (h : x = 0 ∨ x = 1) : (blC f)[x.toNat]? = some (bv (f x)) := by
 rcases h with rfl | rfl <;> rfl
theorem blC_set {f : Int → UInt8} {x : Int} {v : UInt8} (h : x = 0 ∨ x = 1) : (blC f).set x.toNat (bv v) = blC (fun n => if n = x then v else f n) := by
 rcases h with rfl | rfl <;> rfl
theorem lreadD_ok {w : World} {c t bl : Int} : Ret prog 22 #[iv c, iv t, iv bl] w (fun v w' => v = .agg (wsC (rdW c t bl) none 0 none 0 : List Value).toArray ∧ Ext w w') := by
 refine ret_of_wk func22 rfl ntmps22 leB_ ?_
 have hp := HP.begin_ w
 refine so ?_
 refine Alo hp (h := fun g1 w1 hp E1 => so ?_)
 refine wl_builtS (ps := [(4, .const (.int .i64 1)), (0, .tmp 7), (1, .tmp 8), (2, .const (.int .i64 1)), (5, .tmp 9)]) (by decide) bld42 rfl rfl (so ?_)
 refine wl_re (k := 10) (v := .agg (wsC (rdW c t bl) none 0 none 0).toArray) rfl rfl ?_
 refine Hs 0 hp (h := fun w3 hp C3 => so ?_)
 refine wk_postR (rs := [.cell 6 42]) (.inl rfl) results22 ⟨_, _, _, rfl, rfl, loadVar_agg ag42 (hp.blkAt (i := 0) rfl).at0 rfl, rfl⟩ ?_
 exact ⟨_, rfl, rfl, hp.chg⟩
theorem stK_b (x : Int) : 0 ≤ stK x ∧ stK x < 4096 := by
 have h2 := Int.emod_nonneg (x.fdiv 2) (by decide : (4096 : Int) ≠ 0)
 have h3 := Int.emod_lt_of_pos (x.fdiv 2) (by decide : (0 : Int) < 4096)
 rw [stK, bringI, if_neg (by decide)]
 omega
end Go.Proofs.Ytgheaedligkhoaa
namespace Go.Proofs.Ytgheaedligkhoaa
open Go.RowKit Go.Eng _root_.Go.Proofs.Try Go.Eng _root_.Go.Proofs.Try
set_option maxRecDepth 100000
variable {w0 w : World} {M0 Fz : Nat → Prop} {H : List It} {A : Option Addr} {c : Nat}
def onQ (i : Nat) (W : Wsh) (an : Ans) (kk : Int) (q : Nat) : List Evt := ((fourM.take q).map fun m => runA m i W an).filter (nowQ kk)
def offQ (i : Nat) (W : Wsh) (an : Ans) (kk : Int) (q : Nat) : List Evt := ((fourM.take q).map fun m => runA m i W an).filter (fun e => !nowQ kk e)
theorem fourM_step {q : Nat} (h : q < 4) : fourM.take (q + 1) = fourM.take q ++ [5 + (q : Int)] := by
 match q, h with
 | 0, _ => rfl
 | 1, _ => rfl
 | 2, _ => rfl
 | 3, _ => rfl
theorem onQ_step {i : Nat} {W : Wsh} {an : Ans} {kk : Int} {q : Nat} (h : q < 4) : onQ i W an kk (q + 1) = onQ i W an kk q ++ if nowQ kk (runA (5 + q) i W an) then [runA (5 + q) i W an] else [] := by
 rw [onQ, fourM_step h, List.map_append, List.filter_append, List.map_singleton, List.filter_cons]
 rfl
theorem offQ_step {i : Nat} {W : Wsh} {an : Ans} {kk : Int} {q : Nat} (h : q < 4) : offQ i W an kk (q + 1) = offQ i W an kk q ++ if nowQ kk (runA (5 + q) i W an) then [] else [runA (5 + q) i W an] := by
 rw [offQ, fourM_step h, List.map_append, List.filter_append, List.map_singleton, List.filter_cons]
 congr 1
 cases nowQ kk (runA (5 + q) i W an) <;> rfl
theorem onQ_len (i : Nat) (W : Wsh) (an : Ans) (kk : Int) (q : Nat) : (onQ i W an kk q).length ≤ 4 := Nat.le_trans (List.length_filter_le _ _) (by rw [List.length_map]; exact Nat.le_trans (List.length_take_le' _ _) (Nat.le_refl 4))
theorem offQ_len (i : Nat) (W : Wsh) (an : Ans) (kk : Int) (q : Nat) : (offQ i W an kk q).length ≤ 4 := Nat.le_trans (List.length_filter_le _ _) (by rw [List.length_map]; exact Nat.le_trans (List.length_take_le' _ _) (Nat.le_refl 4))
def mkQ (i q : Nat) : List Evt := (fourM.take q).map (markA i)
theorem mkQ_step {i q : Nat} (h : q < 4) : mkQ i (q + 1) = mkQ i q ++ [markA i (5 + q)] := by
 rw [mkQ, fourM_step h, List.map_append, List.map_singleton]
 rfl
theorem mkQ_len (i q : Nat) : (mkQ i q).length ≤ 4 := by rw [mkQ, List.length_map]; exact Nat.le_trans (List.length_take_le' _ _) (Nat.le_refl 4)
end Go.Proofs.Ytgheaedligkhoaa
