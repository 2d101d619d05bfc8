/- What each of these functions computes, for every argument that its theorem names; a part of what the proof of JudgeKnown stands on. -/
import Derived.Test.YtgheaedligkhoaaDaa
import Derived.Test.YtgheaedligkhoaaAaa
import Derived.Test.YtgheaedligkhoaaAab
import Derived.Test.YtgheaedligkhoaaAac
import Derived.Test.YtgheaedligkhoaaAad
import Derived.Test.YtgheaedligkhoaaAae
import Derived.Test.YtgheaedligkhoaaAaf
import Derived.Test.YtgheaedligkhoaaAag
import Derived.Test.YtgheaedligkhoaaAah
import Derived.Test.YtgheaedligkhoaaAam
import Derived.Test.YtgheaedligkhoaaAar
import Derived.Test.YtgheaedligkhoaaAas
import Derived.Test.YtgheaedligkhoaaAau
import Derived.Test.YtgheaedligkhoaaAav
import Derived.Test.YtgheaedligkhoaaAaw
import Derived.Test.YtgheaedligkhoaaAax
namespace Go.Proofs.Ytgheaedligkhoaa
open Go.RowKit Go.Eng _root_.Go.Proofs.Try Go.Eng _root_.Go.Proofs.Try
set_option maxRecDepth 100000
variable {w0 w : World} {M0 Fz : Nat → Prop} {H : List It} {A : Option Addr} {c : Nat}
theorem hv_all {p : Pln} {o : Wsh} {l : List Evt} : ∀ {k : Nat}, k ≤ l.length → (∀ j, j < k → ¬ R8 (l.take j) (l.getD j evt0)) → HV p o l k
 | 0, _, _ => HV.nil p o l
 | k + 1, hk, h8 => (hv_all (k := k) (by omega) (fun j hj => h8 j (by omega))).step (by omega) h8
theorem hist_eq {p : Pln} {l : List Evt} {i : Nat} (hi : i < l.length) (h2 : (l.getD i evt0).kind = 2) (h8 : ∀ j, j < i → ¬ R8 (l.take j) (l.getD j evt0)) : histP p (l.getD i evt0).wish (l.take (i + 1)) = histS p l i := by
 have h := hv_all (p := p) (o := (l.getD i evt0).wish) (l := l) (k := i + 1) (by omega) (fun j hj => by
  by_cases e : j = i
  ·subst e; exact fun x => by have := x.1; omega
  ·exact h8 j (by omega))
 unfold histP histS
 rw [h.out, h.fg, forgS_step _ _ hi, forgF_no (by omega)]
 congr 1
 unfold opsS
 rw [List.range_succ, List.filterMap_append, List.filterMap_cons_none (show opK l _ (i + 1) i = none from if_neg (fun x => by have := x.1; omega)), List.filterMap_nil, List.append_nil]
 refine fm_congr (fun j hj => ?_)
 unfold opK
 rw [opU_opS]
 rfl
theorem R11_iff {p : Pln} {l : List Evt} {i : Nat} (hi : i < l.length) (h8 : ∀ j, j < i → ¬ R8 (l.take j) (l.getD j evt0)) : R11 p l i ↔ P11 p (l.take (i + 1)) (l.getD i evt0) := by
 unfold R11 P11
 refine and_congr_right (fun hw => ?_)
 rw [hist_eq hi hw.1 h8]
 constructor
 ·rintro ⟨h1, h2⟩
  refine ⟨⟨h1, rfl, rfl⟩, ?_, h2⟩
  unfold linO at h2
  by_cases hc : chkH (histS p l i) = 0
  ·exact ((chkH_zero _).1 hc).1
  ·rw [if_neg hc] at h2
   exact absurd (Prod.mk.inj h2).2 hc
 ·rintro ⟨h1, _, h2⟩
  exact ⟨h1.1, h2⟩
theorem plain_ok {p : Pln} {l : List Evt} {i : Nat} (hi : i < l.length) (hno : ∀ j, j < i → broken p l j = 0) : firstA (anJ p l i (valOf (l.take i)) (l.getD i evt0)) 0 10 = broken p l i := by
 obtain ⟨hV, hA⟩ := known (by omega) hno
 have h8 : ∀ j, j < i → ¬ R8 (l.take j) (l.getD j evt0) := fun j hj => (broken_no (hno j hj)).2.2.2.1
 generalize hv : valOf (l.take i) = v at hV
 have a0 : anJ p l i v (l.getD i evt0) 0 = if R1 p (l.take i) (l.getD i evt0) then 1 else 0 := iteC (V1_iff hV) rfl rfl
 have a1 : anJ p l i v (l.getD i evt0) 1 = if R2 (l.take i) (l.getD i evt0) then 2 else 0 := iteC (V2_iff hV) rfl rfl
 have a2 : anJ p l i v (l.getD i evt0) 2 = if R3 p (l.getD i evt0) then 3 else 0 := iteC Iff.rfl rfl rfl
 have a3 : anJ p l i v (l.getD i evt0) 3 = if R4 (l.take i) (l.getD i evt0) then 4 else 0 := iteC ((V4_iff hV).trans (R4_iff hA).symm) rfl rfl
 unfold broken
 rw [firstA_if a0 (by decide)]
 by_cases r1 : R1 p (l.take i) (l.getD i evt0)
 ·rw [if_pos r1, if_pos r1]
 rw [if_neg r1, if_neg r1, firstA_if a1 (by decide)]
 by_cases r2 : R2 (l.take i) (l.getD i evt0)
 ·rw [if_pos r2, if_pos r2]
 rw [if_neg r2, if_neg r2, firstA_if a2 (by decide)]
 by_cases r3 : R3 p (l.getD i evt0)
 ·rw [if_pos r3, if_pos r3]
 have hs := hV.step hi r2
 have a4 : anJ p l i v (l.getD i evt0) 4 = if R5 p (l.take (i + 1)) (l.getD i evt0) then 5 else 0 := iteC ((V5_iff hs).trans (R5_iff hi).symm) rfl rfl
 have a5 : anJ p l i v (l.getD i evt0) 5 = if R6 (l.take i) (l.getD i evt0) then 6 else 0 := iteC ((V6_iff hV).trans R6_iff.symm) rfl rfl
 have h7 : (l.getD i evt0).kind = 7 → 0 ≤ (l.getD i evt0).epoch := fun h7 => Decidable.byContradiction (fun hn => r3 ⟨.inr (.inr h7), .inr (.inr (.inl (by omega)))⟩)
 have a6 : anJ p l i v (l.getD i evt0) 6 = if R7 (l.take i) (l.getD i evt0) then 7 else 0 := iteC ((V7_iff hV).trans (R7_iff hA h7).symm) rfl rfl
 have a7 : anJ p l i v (l.getD i evt0) 7 = if R8 (l.take i) (l.getD i evt0) then 8 else 0 := iteC (V8_iff hV) rfl rfl
 have a8 : anJ p l i v (l.getD i evt0) 8 = if R9 (l.take i) (l.getD i evt0) then 9 else if R10 (l.take i) (l.getD i evt0) then 10 else 0 := iteC (V9_iff hV) rfl (iteC Iff.rfl rfl rfl)
 have a9 : anJ p l i v (l.getD i evt0) 9 = if R11 p l i then 11 else 0 := iteC (R11_iff hi h8).symm rfl rfl
 rw [if_neg r3, if_neg r3, firstA_if a3 (by decide), firstA_if a4 (by decide), firstA_if a5 (by decide), firstA_if a6 (by decide), firstA_if a7 (by decide)]
 have e8 : firstA (anJ p l i v (l.getD i evt0)) 8 2 = if R9 (l.take i) (l.getD i evt0) then 9 else if R10 (l.take i) (l.getD i evt0) then 10 else if R11 p l i then 11 else 0 := by
  rw [firstA, a8]
  by_cases r9 : R9 (l.take i) (l.getD i evt0)
  ·rw [if_pos r9, if_neg (by decide), if_pos r9]
  ·rw [if_neg r9, if_neg r9]
   by_cases r10 : R10 (l.take i) (l.getD i evt0)
   ·rw [if_pos r10, if_neg (by decide), if_pos r10]
   ·rw [if_neg r10, if_pos rfl, if_neg r10]
    exact firstA_if (n := 0) a9 (by decide)
 rw [e8]
theorem pfind_ok {w : World} {S S2 : Nat → Prop} {p : Pln} {cs : List Value} {l : List Evt} {A : Option Addr} {c : Nat} (hpl : plnR.rd S2 w cs p) (hl : GS evtR S w A c l) : Ret prog 9 #[.agg cs.toArray, .slice A l.length c] w (fun x w' => x = find3 (findS p l) ∧ Ext w w') := jfind_ok hpl hl (fun _ hi h => plain_ok hi h)
def rdW (c t bl : Int) : Wsh := ⟨c, t, 1, 0, 1, bl, [], 0, 0, []⟩
theorem lread_ok {w : World} {S : Nat → Prop} {c t bl : Int} (h1 : i64 c) (h2 : i64 t) (h3 : i64 bl) : Ret prog 22 #[iv c, iv t, iv bl] w (fun v w' => ∃ cs : List Value, v = .agg cs.toArray ∧ wishR.rd S w' cs (rdW c t bl) ∧ Ext w w') := by
 refine ret_of_wk func22 rfl ntmps22 leB_ ?_
 have hp := HP.begin_ w
 refine so ?_
 refine Alo hp (h := fun g1 w1 hp E1 => so ?_)
 refine wl_builtS (ps := [(4, .const (.int .i64 1)), (0, .tmp 7), (1, .tmp 8), (2, .const (.int .i64 1)), (5, .tmp 9)]) (by decide) bld42 rfl rfl (so ?_)
 refine wl_re (k := 10) (v := .agg (wsC (rdW c t bl) none 0 none 0).toArray) rfl rfl ?_
 refine Hs 0 hp (h := fun w3 hp C3 => so ?_)
 refine wk_postR (rs := [.cell 6 42]) (.inl rfl) results22 ⟨_, _, _, rfl, rfl, loadVar_agg ag42 (hp.blkAt (i := 0) rfl).at0 rfl, rfl⟩ ?_
 exact ⟨_, rfl, _, rfl, ⟨⟨h1, h2, j1, j0, j1, h3, j0, j0⟩, none, 0, none, 0, rfl, GS.nil _ _ _ _ _, GS.nil _ _ _ _ _⟩, hp.chg⟩
theorem ansD_rd {S : Nat → Prop} {w : World} {A : Option Addr} {c : Nat} {b : List UInt8} (h : GS byteR S w A c b) : ansR.rd S w (anC ⟨0, b, 0, []⟩ A c none 0) ⟨0, b, 0, []⟩ := ⟨⟨j0, j0⟩, A, c, none, 0, rfl, h, GS.nil _ _ _ _ _⟩
theorem evt0_rd {S : Nat → Prop} {w : World} : evtR.rd S w (evC evt0 none 0 none 0 none 0 none 0) evt0 := ⟨⟨j0, j0, j0, j0, j0, j0, j0, j0, j0, j0, j0, j0, j0, j0, j0, j0, j0⟩, none, 0, none, 0, none, 0, none, 0, rfl, GS.nil _ _ _ _ _, GS.nil _ _ _ _ _, GS.nil _ _ _ _ _, GS.nil _ _ _ _ _⟩
theorem wsK_rd {S : Nat → Prop} {w : World} {c t k : Int} (h1 : i64 c) (h2 : i64 t) (h3 : i64 k) : wishR.rd S w (wsC ⟨c, t, 0, 0, k, 0, [], 0, 0, []⟩ none 0 none 0) ⟨c, t, 0, 0, k, 0, [], 0, 0, []⟩ := ⟨⟨h1, h2, j0, j0, h3, j0, j0, j0⟩, none, 0, none, 0, rfl, GS.nil _ _ _ _ _, GS.nil _ _ _ _ _⟩
theorem set_time {S : Nat → Prop} {w : World} {cs : List Value} {e : Evt} {x : Int} (hx : i64 x) (h : evtR.rd S w cs e) : evtR.rd S w (cs.set 0 (iv x)) { e with time := x } := by
 obtain ⟨hI, A0, c0, A1, c1, A2, c2, A3, c3, rfl, h4⟩ := h
 exact ⟨⟨hx, hI.2⟩, A0, c0, A1, c1, A2, c2, A3, c3, rfl, h4⟩
theorem set_kind {S : Nat → Prop} {w : World} {cs : List Value} {e : Evt} {x : Int} (hx : i64 x) (h : evtR.rd S w cs e) : evtR.rd S w (cs.set 1 (iv x)) { e with kind := x } := by
 obtain ⟨hI, A0, c0, A1, c1, A2, c2, A3, c3, rfl, h4⟩ := h
 exact ⟨⟨hI.1, hx, hI.2.2⟩, A0, c0, A1, c1, A2, c2, A3, c3, rfl, h4⟩
theorem set_a {S : Nat → Prop} {w : World} {cs : List Value} {e : Evt} {x : Int} (hx : i64 x) (h : evtR.rd S w cs e) : evtR.rd S w (cs.set 2 (iv x)) { e with a := x } := by
 obtain ⟨hI, A0, c0, A1, c1, A2, c2, A3, c3, rfl, h4⟩ := h
 exact ⟨⟨hI.1, hI.2.1, hx, hI.2.2.2⟩, A0, c0, A1, c1, A2, c2, A3, c3, rfl, h4⟩
theorem set_group {S : Nat → Prop} {w : World} {cs : List Value} {e : Evt} {x : Int} (hx : i64 x) (h : evtR.rd S w cs e) : evtR.rd S w (cs.set 4 (iv x)) { e with group := x } := by
 obtain ⟨hI, A0, c0, A1, c1, A2, c2, A3, c3, rfl, h4⟩ := h
 exact ⟨⟨hI.1, hI.2.1, hI.2.2.1, hI.2.2.2.1, hx, hI.2.2.2.2.2⟩, A0, c0, A1, c1, A2, c2, A3, c3, rfl, h4⟩
theorem set_err {S : Nat → Prop} {w : World} {cs : List Value} {e : Evt} {x : Int} (hx : i64 x) (h : evtR.rd S w cs e) : evtR.rd S w (cs.set 49 (iv x)) { e with ans := { e.ans with err := x } } := by
 obtain ⟨hI, A0, c0, A1, c1, A2, c2, A3, c3, rfl, h4⟩ := h
 obtain ⟨k0, k1, k2, k3, k4, k5, k6, k7, k8, k9, k10, k11, k12, k13, k14, _, k16⟩ := hI
 exact ⟨⟨k0, k1, k2, k3, k4, k5, k6, k7, k8, k9, k10, k11, k12, k13, k14, hx, k16⟩, A0, c0, A1, c1, A2, c2, A3, c3, rfl, h4⟩
theorem set_bad {S : Nat → Prop} {w : World} {cs : List Value} {x : Int} {p : Pln} (hx : i64 x) (h : plnR.rd S w cs p) : plnR.rd S w (cs.set 4 (iv x)) { p with bad := x } := by
 obtain ⟨hI, rfl⟩ := h
 exact ⟨⟨hI.1, hI.2.1, hI.2.2.1, hI.2.2.2.1, hx⟩, rfl⟩
theorem lfinds_ok {w : World} {S : Nat → Prop} {l : List Evt} {A : Option Addr} {c : Nat} {r a : Int} (hl : GS evtR S w A c l) : Ret prog 15 #[iv r, iv a, .slice A l.length c] w (fun v w' => v = .bool (decide (findS planP l = (r, a, 0))) ∧ Ext w w') := by
 refine ret_of_wk func15 rfl ntmps15 leB_ ?_
 refine so ?_
 refine Ce lplan_ok ?_
 rintro _ w1 ⟨rfl, E1⟩
 refine so ?_
 refine Ce (pfind_ok (planP_rd (S := fun _ => True)) (hl.ext E1)) ?_
 rintro _ w2 ⟨rfl, E2⟩
 obtain ⟨x, y, e⟩ := findS planP l
 refine so ?_
 refine Gs 19 ?_ ?_ <;> intro k1 <;> refine so ?_
 ·refine Gs 24 ?_ ?_ <;> intro k2 <;> refine so ?_
  ·refine Pt ⟨_, rfl, congrArg Value.bool (decide_eq_decide.2 ⟨fun h => ?_, fun h => ?_⟩), E1.trans E2⟩
   ·dsimp only at k1 k2 h
    rw [k1, k2, h]
   ·exact (Prod.mk.inj (Prod.mk.inj h).2).1
  ·exact Pt ⟨_, rfl, bool_f (fun h => k2 (Prod.mk.inj h).1), E1.trans E2⟩
 ·exact Pt ⟨_, rfl, bool_f (fun h => k1 (Prod.mk.inj (Prod.mk.inj h).2).2), E1.trans E2⟩
theorem clients_ok_f1 : findS planP [(callE (wrW 31 1 3 7)), (callE (rdW 31 2 3))] = (8, 1, 0) := by kernel_rfl
theorem clients_ok_f2 : findS planP [(callE (rdW 31 2 3))] = (8, 0, 0) := by kernel_rfl
theorem clients_ok_f3 : findS planP [(callE (⟨31, 1, 0, 0, 3, 0, [], 0, 0, []⟩ : Wsh))] = (8, 0, 0) := by kernel_rfl
theorem clients_ok_f4 : findS planP [({ (callE (wrW 31 1 3 7)) with a := 32 } : Evt)] = (8, 0, 0) := by kernel_rfl
theorem clients_ok_f5 : findS planP [(doneE (wrW 31 1 3 7) ans0)] = (9, 0, 0) := by kernel_rfl
theorem clients_ok_f6 : findS planP [(callE (wrW 31 1 3 7)), (doneE (wrW 31 1 3 8) ans0)] = (9, 1, 0) := by kernel_rfl
theorem clients_ok_f7 : findS planP [(callE (wrW 31 1 3 7)), (runE 5 1 1 (wrW 31 1 3 7)), (doneE (wrW 31 1 3 7) ans0), (doneE (wrW 31 1 3 7) ans0)] = (9, 3, 0) := by kernel_rfl
theorem clients_ok_f8 : findS planP [(callE (wrW 31 1 3 7)), (doneE (wrW 31 1 3 7) (⟨172, [], 0, []⟩ : Ans))] = (0, 0, 0) := by kernel_rfl
theorem clients_ok_f9 : findS planP [(callE (wrW 31 1 3 7)), (runE 5 1 1 (wrW 31 9 3 8)), (doneE (wrW 31 1 3 7) ans0)] = (10, 2, 0) := by kernel_rfl
theorem clients_ok_f10 : findS planP [(callE (wrW 31 1 3 7)), (runE 5 1 1 (wrW 31 9 4 7)), (doneE (wrW 31 1 3 7) ans0)] = (10, 2, 0) := by kernel_rfl
theorem clients_ok_f11 : findS planP [(callE (wrW 31 1 3 7)), (runE 5 1 1 (wrW 31 9 3 7)), (doneE (wrW 31 1 3 7) ans0)] = (0, 0, 0) := by kernel_rfl
theorem clients_ok_f12 : findS planP [(callE (wrW 31 1 3 7)), (runE 5 1 1 (wrW 32 1 3 7)), (doneE (wrW 31 1 3 7) ans0)] = (10, 2, 0) := by kernel_rfl
theorem clients_ok_f13 : findS planP [(callE (rdW 32 1 3)), (doneE (rdW 32 1 3) (⟨0, (dat 7), 0, []⟩ : Ans))] = (11, 1, 0) := by kernel_rfl
theorem clients_ok_f14 : findS planP [(callE (rdW 32 1 3)), (doneE (rdW 32 1 3) (⟨0, (dat 0), 0, []⟩ : Ans))] = (0, 0, 0) := by kernel_rfl
theorem clients_ok_f15 : findS planP [(callE (wrW 31 1 3 7)), (callE (rdW 32 1 3)), (doneE (rdW 32 1 3) (⟨0, (dat 7), 0, []⟩ : Ans))] = (0, 0, 0) := by kernel_rfl
theorem clients_ok_f16 : findS planP [(callE (wrW 31 1 3 7)), (runE 5 1 1 (wrW 31 1 3 7)), (doneE (wrW 31 1 3 7) ans0), (callE (rdW 32 1 3)), (doneE (rdW 32 1 3) (⟨0, (dat 0), 0, []⟩ : Ans))] = (11, 4, 0) := by kernel_rfl
theorem clients_ok_f17 : findS planP [(callE (wrW 31 1 3 7)), (doneE (wrW 31 1 3 7) (⟨172, [], 0, []⟩ : Ans)), (callE (rdW 32 1 3)), (doneE (rdW 32 1 3) (⟨0, (dat 7), 0, []⟩ : Ans))] = (0, 0, 0) := by kernel_rfl
theorem clients_ok_f18 : findS planP [(callE (rdW 32 1 3)), (doneE (rdW 32 1 3) ans0)] = (11, 1, 0) := by kernel_rfl
theorem clients_ok_f19 : findS planP [(runE 5 1 1 (wrW 33 1 3 7)), (callE (rdW 32 1 3)), (doneE (rdW 32 1 3) (⟨0, (dat 7), 0, []⟩ : Ans))] = (0, 0, 0) := by kernel_rfl
theorem clients_ok_f20 : findS ({ planP with bad := 4294967296 } : Pln) [(runE 5 1 1 (wrW 32 1 3 7)), (callE (rdW 31 1 3)), (doneE (rdW 31 1 3) (⟨0, (dat 7), 0, []⟩ : Ans))] = (0, 0, 0) := by kernel_rfl
theorem clients_ok_f21 : findS planP [(runE 5 1 1 (wrW 32 1 3 7)), (callE (rdW 31 1 3)), (doneE (rdW 31 1 3) (⟨0, (dat 7), 0, []⟩ : Ans))] = (11, 2, 0) := by kernel_rfl
theorem epochs_ok_f1 : findS planP [(nodeE 6 5 0 4 9), (runE 6 4 1 (wrW 31 1 3 7)), (nodeE 4 6 0 4 9), (nodeE 6 6 0 4 9)] = (0, 0, 0) := by kernel_rfl
theorem epochs_ok_f2 : findS planP [(nodeE 6 5 0 4 9), (nodeE 6 6 0 3 9)] = (6, 1, 0) := by kernel_rfl
theorem epochs_ok_f3 : findS planP [(nodeE 6 5 0 4 9), (nodeE 6 6 0 4 8)] = (6, 1, 0) := by kernel_rfl
theorem epochs_ok_f4 : findS planP [(nodeE 6 5 0 4 9), (nodeE 4 6 0 5 9)] = (6, 1, 0) := by kernel_rfl
theorem epochs_ok_f5 : findS planP [(nodeE 6 5 0 4 9), (nodeE 4 6 1 5 9), (nodeE 5 6 0 9 0)] = (0, 0, 0) := by kernel_rfl
theorem epochs_ok_f6 : findS planP [(nodeE 6 5 0 4 9), (nodeE 7 6 1 0 9)] = (0, 0, 0) := by kernel_rfl
theorem epochs_ok_f7 : findS planP [(nodeE 6 5 0 4 9), (nodeE 7 6 1 0 8)] = (7, 1, 0) := by kernel_rfl
theorem epochs_ok_f8 : findS planP [(nodeE 6 5 0 4 9), (nodeE 7 6 2 0 9)] = (7, 1, 0) := by kernel_rfl
theorem epochs_ok_f9 : findS planP [(nodeE 7 6 0 0 9), (nodeE 6 5 0 4 9), (nodeE 7 5 0 0 9)] = (0, 0, 0) := by kernel_rfl
theorem epochs_ok_f10 : findS planP [(nodeE 7 6 0 0 9), (nodeE 7 5 0 0 8)] = (7, 1, 0) := by kernel_rfl
theorem epochs_ok_f11 : findS planP [(nodeE 7 6 0 0 9), (nodeE 7 5 1 0 9)] = (7, 1, 0) := by kernel_rfl
def limP : List Pln := [⟨-1, 0, 0, 0, 0⟩, ⟨3, 0, 0, 0, 0⟩, ⟨0, -1, 0, 0, 0⟩, ⟨0, 3, 0, 0, 0⟩, ⟨0, 0, -1, 0, 0⟩, ⟨0, 0, 28, 0, 0⟩, ⟨0, 0, 0, -1, 0⟩, ⟨0, 0, 0, 4, 0⟩, ⟨2, 2, 8, 0, 0⟩, ⟨0, 0, 0, 0, -1⟩, ⟨0, 0, 4611686018427387904, 0, 0⟩]
theorem limP_no : ∀ j, j < 11 → ¬ PlnMay (limP.getD j pln0) := by
 intro j hj
 have : j = 0 ∨ j = 1 ∨ j = 2 ∨ j = 3 ∨ j = 4 ∨ j = 5 ∨ j = 6 ∨ j = 7 ∨ j = 8 ∨ j = 9 ∨ j = 10 := by omega
 rcases this with rfl | rfl | rfl | rfl | rfl | rfl | rfl | rfl | rfl | rfl | rfl <;> (unfold PlnMay; decide)
theorem limP_i : ∀ x ∈ limP, PlnI x := by
 intro x hx
 simp only [limP, List.mem_cons, List.not_mem_nil, or_false] at hx
 rcases hx with rfl | rfl | rfl | rfl | rfl | rfl | rfl | rfl | rfl | rfl | rfl <;> (unfold PlnI i64; decide)
theorem limits_a : findS planP (List.replicate 32769 evt0) = (0, 0, 5) := by
 unfold findS
 rw [if_neg (by decide), if_pos (by rw [List.length_replicate]; decide)]
theorem limits_b : findS planP (List.replicate 32768 evt0) = (1, 0, 0) := by kernel_rfl
theorem limits_c : findS ⟨2, 2, 7, 3, 4611686018427387906⟩ [] = (0, 0, 0) := by kernel_rfl
theorem limits_d : findS pln0 [] = (0, 0, 0) := by kernel_rfl
theorem mk_len (n g : Nat) : (Value.slice (some ⟨g, 0, none⟩) n n) = .slice (some ⟨g, 0, none⟩) (List.replicate n evt0).length n := by rw [List.length_replicate]
theorem mk_ev {n g lo : Nat} {w : World} (h : OwnRow 46 53 lo w (some ⟨g, 0, none⟩) n n (List.replicate n (Value.agg (evC evt0 none 0 none 0 none 0 none 0).toArray).cells.toList).flatten) : GS evtR (fun _ => True) w (some ⟨g, 0, none⟩) n (List.replicate n evt0) := by
 refine OwnRow.gsRF (r := evtR) (rows := List.replicate n (evC evt0 none 0 none 0 none 0 none 0)) (l := List.replicate n evt0) (by rw [List.length_replicate]; exact h) ⟨by rw [List.length_replicate, List.length_replicate], fun j hj => ⟨evC evt0 none 0 none 0 none 0 none 0, ?_, ?_⟩⟩ (fun _ _ _ => trivial)
 ·rw [List.length_replicate] at hj
  rw [List.getElem?_replicate, if_pos hj]
 ·rw [List.getElem_replicate]
  exact evt0_rd
theorem lim_find {w : World} {x : Pln} (hI : PlnI x) (_h : findS x [] = (0, 0, 2) ∨ findS x [] = (0, 0, 0)) : Ret prog 9 #[.agg (plnC x).toArray, .slice none 0 0] w (fun v w' => v = find3 (findS x []) ∧ Ext w w') := pfind_ok (S2 := fun _ => True) (p := x) (cs := plnC x) (l := []) (A := none) (c := 0) ⟨hI, rfl⟩ (GS.nil _ (fun _ => True) _ _ _)
theorem lcallD_ok {w : World} {S : Nat → Prop} {cs : List Value} {x : Wsh} (h : wishR.rd S w cs x) : ∃ A c B d, evtR.rd S w (evC (callE x) A c B d none 0 none 0) (callE x) ∧ ∀ w1, Ext w w1 → Ret prog 20 #[.agg cs.toArray] w1 (fun v w' => v = .agg (evC (callE x) A c B d none 0 none 0 : List Value).toArray ∧ Ext w1 w') := by
 obtain ⟨hI, A, c, B, d, rfl, h0, h1⟩ := h
 obtain ⟨i0, i1, i2, i3, i4, i5, i6, i7⟩ := hI
 refine ⟨A, c, B, d, ⟨⟨j0, j1, i0, j0, j0, j0, j0, i0, i1, i2, i3, i4, i5, i6, i7, j0, j0⟩, A, c, B, d, none, 0, none, 0, rfl, h0, h1, GS.nil _ _ _ _ _, GS.nil _ _ _ _ _⟩, fun w E => ?_⟩
 refine ret_of_wk func20 rfl ntmps20 leB_ ?_
 have hp := HP.begin_ w
 refine so ?_
 refine Bx hp (h := fun g1 w1 hp E1 => so ?_)
 refine Alo hp (h := fun g2 w2 hp E2 => so ?_)
 refine wl_builtS (ps := [(1, .const (.int .i64 1)), (2, .tmp 4), (8, .tmp 5)]) (by decide) bld46 rfl rfl (so ?_)
 refine wl_re (k := 6) (v := .agg (evC (callE x) A c B d none 0 none 0).toArray) rfl rfl ?_
 refine Hs 0 hp (h := fun w3 hp C3 => so ?_)
 refine wk_postR (rs := [.cell 2 46]) (.inl rfl) results20 ⟨_, _, _, rfl, rfl, loadVar_agg ag46 (hp.blkAt (i := 0) rfl).at0 rfl, rfl⟩ ?_
 exact ⟨_, rfl, rfl, hp.chg⟩
theorem judgeKnown_ok_f1 : findS planP [({ (callE (wrW 31 1 3 7)) with time := 5 } : Evt), (callE (wrW 32 1 3 8))] = (1, 1, 0) := by kernel_rfl
theorem judgeKnown_ok_f2 : findS planP [({ ({ (callE (wrW 31 1 3 7)) with time := 5 } : Evt) with time := (-1) } : Evt)] = (1, 0, 0) := by kernel_rfl
theorem judgeKnown_ok_f3 : findS planP [({ (callE (wrW 31 1 3 7)) with kind := 10 } : Evt)] = (1, 0, 0) := by kernel_rfl
theorem judgeKnown_ok_f4 : findS planP [evt0] = (1, 0, 0) := by kernel_rfl
theorem judgeKnown_ok_f5 : findS planP [(runE 0 1 1 (wrW 31 1 3 7))] = (1, 0, 0) := by kernel_rfl
theorem judgeKnown_ok_f6 : findS planP [(runE 9 1 1 (wrW 31 1 3 7))] = (1, 0, 0) := by kernel_rfl
theorem judgeKnown_ok_f7 : findS planP [(callE (wrW 33 1 3 7))] = (1, 0, 0) := by kernel_rfl
theorem judgeKnown_ok_f8 : findS planP [(callE (wrW 30 1 3 7))] = (1, 0, 0) := by kernel_rfl
theorem judgeKnown_ok_f9 : findS planP [(callE (⟨34, 1, 0, 0, 4, 0, [], 0, 0, []⟩ : Wsh))] = (0, 0, 0) := by kernel_rfl
theorem judgeKnown_ok_f10 : findS planP [(nodeE 9 5 0 0 0)] = (2, 0, 0) := by kernel_rfl
theorem judgeKnown_ok_f11 : findS planP [(nodeE 8 5 0 0 0), (nodeE 8 5 0 0 0)] = (2, 1, 0) := by kernel_rfl
theorem judgeKnown_ok_f12 : findS planP [(nodeE 8 5 0 0 0), (runE 5 1 1 (wrW 31 1 3 7))] = (2, 1, 0) := by kernel_rfl
theorem judgeKnown_ok_f13 : findS planP [(nodeE 8 5 0 0 0), (runE 6 1 1 (wrW 31 1 3 7)), (nodeE 9 5 0 0 0), (nodeE 8 5 0 0 0)] = (0, 0, 0) := by kernel_rfl
theorem judgeKnown_ok_f14 : findS planP [(nodeE 8 5 0 0 0), (nodeE 5 5 0 0 0)] = (2, 1, 0) := by kernel_rfl
theorem judgeKnown_ok_f15 : findS planP [({ (nodeE 5 5 0 0 0) with group := 2 } : Evt)] = (3, 0, 0) := by kernel_rfl
theorem judgeKnown_ok_f16 : findS planP [(nodeE 7 5 (-1) 0 0)] = (3, 0, 0) := by kernel_rfl
theorem judgeKnown_ok_f17 : findS planP [(runE 5 0 1 (wrW 31 1 3 7))] = (3, 0, 0) := by kernel_rfl
theorem judgeKnown_ok_f18 : findS planP [(nodeE 4 5 0 9007199254740992 1)] = (3, 0, 0) := by kernel_rfl
theorem judgeKnown_ok_f19 : findS planP [(nodeE 6 5 0 (-1) 1)] = (3, 0, 0) := by kernel_rfl
theorem judgeKnown_ok_f20 : findS planP [(nodeE 5 5 1048576 (-1) 0)] = (0, 0, 0) := by kernel_rfl
theorem judgeKnown_ok_f21 : findS planP [(nodeE 5 5 1048577 0 0)] = (3, 0, 0) := by kernel_rfl
theorem judgeKnown_ok_f22 : findS planP [(nodeE 4 6 0 4 1), (nodeE 4 5 0 4 2)] = (4, 1, 0) := by kernel_rfl
theorem judgeKnown_ok_f23 : findS planP [(nodeE 4 6 0 4 1), (nodeE 4 5 1 4 2), (nodeE 4 5 0 5 2), (runE 5 4 2 (wrW 31 1 3 7))] = (0, 0, 0) := by kernel_rfl
theorem judgeKnown_ok_f24 : findS planP [(runE 5 1 1 (wrW 31 1 3 7)), (runE 5 1 2 (wrW 31 1 3 7))] = (4, 1, 0) := by kernel_rfl
theorem judgeKnown_ok_f25 : findS planP [(runE 5 1 1 (wrW 31 1 3 7)), (runE 6 1 1 (wrW 32 1 3 8))] = (5, 1, 0) := by kernel_rfl
theorem judgeKnown_ok_f26 : findS planP [(runE 5 1 1 (wrW 31 1 3 7)), ({ (runE 6 1 1 (wrW 31 1 3 7)) with ans := { (runE 6 1 1 (wrW 31 1 3 7)).ans with err := 172 } } : Evt)] = (5, 1, 0) := by kernel_rfl
theorem judgeKnown_ok_f27 : findS planP [(runE 5 1 1 (wrW 31 1 3 7)), (runE 5 1 1 (wrW 32 1 3 8)), (runE 6 1 1 (wrW 31 1 3 7)), (runE 6 1 1 (wrW 32 1 3 8))] = (0, 0, 0) := by kernel_rfl
theorem judgeKnown_ok_f28 : findS planP [(runE 5 1 1 (wrW 31 1 3 7)), (runE 5 1 1 (wrW 32 1 3 8)), (runE 6 1 1 (wrW 31 1 3 7)), (runE 6 1 1 (wrW 31 1 3 7))] = (5, 3, 0) := by kernel_rfl
theorem judgeKnown_ok_f29 : findS planP [(runE 5 1 1 (wrW 31 1 3 7)), (nodeE 8 5 0 0 0), (nodeE 9 5 0 0 0), (runE 5 1 1 (wrW 31 1 3 7)), (runE 6 1 1 (wrW 31 1 3 7)), (runE 5 1 1 (wrW 32 1 3 8)), (runE 6 1 1 (wrW 32 1 3 8))] = (0, 0, 0) := by kernel_rfl
end Go.Proofs.Ytgheaedligkhoaa
