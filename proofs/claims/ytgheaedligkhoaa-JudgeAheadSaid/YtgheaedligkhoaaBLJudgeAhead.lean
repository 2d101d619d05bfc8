/- JudgeAhead is true: what the program answers is what the statement says, for every argument (no further condition). -/
import Derived.Test.YtgheaedligkhoaaBaa
import Derived.Test.YtgheaedligkhoaaAaa
import Derived.Test.YtgheaedligkhoaaAab
import Derived.Test.YtgheaedligkhoaaAac
import Derived.Test.YtgheaedligkhoaaAad
import Derived.Test.YtgheaedligkhoaaAae
import Derived.Test.YtgheaedligkhoaaAaf
import Derived.Test.YtgheaedligkhoaaAag
import Derived.Test.YtgheaedligkhoaaAah
import Derived.Test.YtgheaedligkhoaaAam
import Derived.Test.YtgheaedligkhoaaAar
import Derived.Test.YtgheaedligkhoaaAas
import Derived.Test.YtgheaedligkhoaaAau
import Derived.Test.YtgheaedligkhoaaAav
import Derived.Test.YtgheaedligkhoaaAaw
import Derived.Test.YtgheaedligkhoaaAax
namespace Go.Proofs.Ytgheaedligkhoaa
open Go.RowKit Go.Eng _root_.Go.Proofs.Try Go.Eng _root_.Go.Proofs.Try
set_option maxRecDepth 100000
variable {w0 w : World} {M0 Fz : Nat → Prop} {H : List It} {A : Option Addr} {c : Nat}
theorem hv_all {p : Pln} {o : Wsh} {l : List Evt} : ∀ {k : Nat}, k ≤ l.length → (∀ j, j < k → ¬ R8 (l.take j) (l.getD j evt0)) → HV p o l k
 | 0, _, _ => HV.nil p o l
 | k + 1, hk, h8 => (hv_all (k := k) (by omega) (fun j hj => h8 j (by omega))).step (by omega) h8
theorem hist_eq {p : Pln} {l : List Evt} {i : Nat} (hi : i < l.length) (h2 : (l.getD i evt0).kind = 2) (h8 : ∀ j, j < i → ¬ R8 (l.take j) (l.getD j evt0)) : histP p (l.getD i evt0).wish (l.take (i + 1)) = histS p l i := by
 have h := hv_all (p := p) (o := (l.getD i evt0).wish) (l := l) (k := i + 1) (by omega) (fun j hj => by
  by_cases e : j = i
  ·subst e; exact fun x => by have := x.1; omega
  ·exact h8 j (by omega))
 unfold histP histS
 rw [h.out, h.fg, forgS_step _ _ hi, forgF_no (by omega)]
 congr 1
 unfold opsS
 rw [List.range_succ, List.filterMap_append, List.filterMap_cons_none (show opK l _ (i + 1) i = none from if_neg (fun x => by have := x.1; omega)), List.filterMap_nil, List.append_nil]
 refine fm_congr (fun j hj => ?_)
 unfold opK
 rw [opU_opS]
 rfl
theorem R11_iff {p : Pln} {l : List Evt} {i : Nat} (hi : i < l.length) (h8 : ∀ j, j < i → ¬ R8 (l.take j) (l.getD j evt0)) : R11 p l i ↔ P11 p (l.take (i + 1)) (l.getD i evt0) := by
 unfold R11 P11
 refine and_congr_right (fun hw => ?_)
 rw [hist_eq hi hw.1 h8]
 constructor
 ·rintro ⟨h1, h2⟩
  refine ⟨⟨h1, rfl, rfl⟩, ?_, h2⟩
  unfold linO at h2
  by_cases hc : chkH (histS p l i) = 0
  ·exact ((chkH_zero _).1 hc).1
  ·rw [if_neg hc] at h2
   exact absurd (Prod.mk.inj h2).2 hc
 ·rintro ⟨h1, _, h2⟩
  exact ⟨h1.1, h2⟩
theorem plain_ok {p : Pln} {l : List Evt} {i : Nat} (hi : i < l.length) (hno : ∀ j, j < i → broken p l j = 0) : firstA (anJ p l i (valOf (l.take i)) (l.getD i evt0)) 0 10 = broken p l i := by
 obtain ⟨hV, hA⟩ := known (by omega) hno
 have h8 : ∀ j, j < i → ¬ R8 (l.take j) (l.getD j evt0) := fun j hj => (broken_no (hno j hj)).2.2.2.1
 generalize hv : valOf (l.take i) = v at hV
 have a0 : anJ p l i v (l.getD i evt0) 0 = if R1 p (l.take i) (l.getD i evt0) then 1 else 0 := iteC (V1_iff hV) rfl rfl
 have a1 : anJ p l i v (l.getD i evt0) 1 = if R2 (l.take i) (l.getD i evt0) then 2 else 0 := iteC (V2_iff hV) rfl rfl
 have a2 : anJ p l i v (l.getD i evt0) 2 = if R3 p (l.getD i evt0) then 3 else 0 := iteC Iff.rfl rfl rfl
 have a3 : anJ p l i v (l.getD i evt0) 3 = if R4 (l.take i) (l.getD i evt0) then 4 else 0 := iteC ((V4_iff hV).trans (R4_iff hA).symm) rfl rfl
 unfold broken
 rw [firstA_if a0 (by decide)]
 by_cases r1 : R1 p (l.take i) (l.getD i evt0)
 ·rw [if_pos r1, if_pos r1]
 rw [if_neg r1, if_neg r1, firstA_if a1 (by decide)]
 by_cases r2 : R2 (l.take i) (l.getD i evt0)
 ·rw [if_pos r2, if_pos r2]
 rw [if_neg r2, if_neg r2, firstA_if a2 (by decide)]
 by_cases r3 : R3 p (l.getD i evt0)
 ·rw [if_pos r3, if_pos r3]
 have hs := hV.step hi r2
 have a4 : anJ p l i v (l.getD i evt0) 4 = if R5 p (l.take (i + 1)) (l.getD i evt0) then 5 else 0 := iteC ((V5_iff hs).trans (R5_iff hi).symm) rfl rfl
 have a5 : anJ p l i v (l.getD i evt0) 5 = if R6 (l.take i) (l.getD i evt0) then 6 else 0 := iteC ((V6_iff hV).trans R6_iff.symm) rfl rfl
 have h7 : (l.getD i evt0).kind = 7 → 0 ≤ (l.getD i evt0).epoch := fun h7 => Decidable.byContradiction (fun hn => r3 ⟨.inr (.inr h7), .inr (.inr (.inl (by omega)))⟩)
 have a6 : anJ p l i v (l.getD i evt0) 6 = if R7 (l.take i) (l.getD i evt0) then 7 else 0 := iteC ((V7_iff hV).trans (R7_iff hA h7).symm) rfl rfl
 have a7 : anJ p l i v (l.getD i evt0) 7 = if R8 (l.take i) (l.getD i evt0) then 8 else 0 := iteC (V8_iff hV) rfl rfl
 have a8 : anJ p l i v (l.getD i evt0) 8 = if R9 (l.take i) (l.getD i evt0) then 9 else if R10 (l.take i) (l.getD i evt0) then 10 else 0 := iteC (V9_iff hV) rfl (iteC Iff.rfl rfl rfl)
 have a9 : anJ p l i v (l.getD i evt0) 9 = if R11 p l i then 11 else 0 := iteC (R11_iff hi h8).symm rfl rfl
 rw [if_neg r3, if_neg r3, firstA_if a3 (by decide), firstA_if a4 (by decide), firstA_if a5 (by decide), firstA_if a6 (by decide), firstA_if a7 (by decide)]
 have e8 : firstA (anJ p l i v (l.getD i evt0)) 8 2 = if R9 (l.take i) (l.getD i evt0) then 9 else if R10 (l.take i) (l.getD i evt0) then 10 else if R11 p l i then 11 else 0 := by
  rw [firstA, a8]
  by_cases r9 : R9 (l.take i) (l.getD i evt0)
  ·rw [if_pos r9, if_neg (by decide), if_pos r9]
  ·rw [if_neg r9, if_neg r9]
   by_cases r10 : R10 (l.take i) (l.getD i evt0)
   ·rw [if_pos r10, if_neg (by decide), if_pos r10]
   ·rw [if_neg r10, if_pos rfl, if_neg r10]
    exact firstA_if (n := 0) a9 (by decide)
 rw [e8]
theorem pfind_ok {w : World} {S S2 : Nat → Prop} {p : Pln} {cs : List Value} {l : List Evt} {A : Option Addr} {c : Nat} (hpl : plnR.rd S2 w cs p) (hl : GS evtR S w A c l) : Ret prog 9 #[.agg cs.toArray, .slice A l.length c] w (fun x w' => x = find3 (findS p l) ∧ Ext w w') := jfind_ok hpl hl (fun _ hi h => plain_ok hi h)
theorem lfinds_ok {w : World} {S : Nat → Prop} {l : List Evt} {A : Option Addr} {c : Nat} {r a : Int} (hl : GS evtR S w A c l) : Ret prog 15 #[iv r, iv a, .slice A l.length c] w (fun v w' => v = .bool (decide (findS planP l = (r, a, 0))) ∧ Ext w w') := by
 refine ret_of_wk func15 rfl ntmps15 leB_ ?_
 refine so ?_
 refine Ce lplan_ok ?_
 rintro _ w1 ⟨rfl, E1⟩
 refine so ?_
 refine Ce (pfind_ok (planP_rd (S := fun _ => True)) (hl.ext E1)) ?_
 rintro _ w2 ⟨rfl, E2⟩
 obtain ⟨x, y, e⟩ := findS planP l
 refine so ?_
 refine Gs 19 ?_ ?_ <;> intro k1 <;> refine so ?_
 ·refine Gs 24 ?_ ?_ <;> intro k2 <;> refine so ?_
  ·refine Pt ⟨_, rfl, congrArg Value.bool (decide_eq_decide.2 ⟨fun h => ?_, fun h => ?_⟩), E1.trans E2⟩
   ·dsimp only at k1 k2 h
    rw [k1, k2, h]
   ·exact (Prod.mk.inj (Prod.mk.inj h).2).1
  ·exact Pt ⟨_, rfl, bool_f (fun h => k2 (Prod.mk.inj h).1), E1.trans E2⟩
 ·exact Pt ⟨_, rfl, bool_f (fun h => k1 (Prod.mk.inj (Prod.mk.inj h).2).2), E1.trans E2⟩
theorem lfind_yes {w : World} {S : Nat → Prop} {l : List Evt} {A : Option Addr} {c : Nat} {r a : Int} (hl : GS evtR S w A c l) (h : findS planP l = (r, a, 0)) : Ret prog 15 #[iv r, iv a, .slice A l.length c] w (fun v w' => v = .bool true ∧ Ext w w') :=
 Ret.mono (lfinds_ok hl) (fun _ _ hv => ⟨by rw [hv.1, decide_eq_true h], hv.2⟩)
set_option maxHeartbeats 16000000 in
theorem works_ok {w : World} : Ret prog 11 #[] w (fun v w' => v = .bool true ∧ Ext w w') := by
 refine ret_of_wk func11 rfl ntmps11 leB_ ?_
 have hp := HP.begin_ w
 generalize hF0 : (fun b => b < w.heap.size) = F0 at hp
 refine so ?_
 refine Ce (lwrite_ok (c := 31) (t := 1) (bl := 3) (b := 7) (by unfold i64; omega) j1 j3) ?_
 rintro _ w2 ⟨cs2, rfl, rd2, E2⟩
 obtain ⟨F2, hp, s2, n2, _⟩ := hp.frz E2
 replace rd2 := wishR.mono (fun b hb h => n2 b h hb) rd2
 refine so ?_
 refine Alo hp (h := fun g3 w3 hp E3 => ?_)
 refine so ?_
 have rd4 := rdTo (F := F2) (w' := w3) (wishR.mono (fun _ _ h => h) rd2) mv
 have hl4 : cs2.length = 10 := wishR.len rd4
 refine Hs 0 hp (xs := cs2) (ds := cs2) (hc := ⟨rfl⟩) (hk := hl4) (hl := by rw [hl4]; exact leB_) (h1 := wishR.one rd4) (hq := putL_all (by rw [hl4]; rfl)) (h := fun w4 hp C4 => ?_)
 replace rd4 := rdTo (F := F2) (w' := w4) rd4 mv
 have z5 : Frz F0 F2 w w4 := mv
 refine so ?_
 refine Ce (lnode_ok (S := F2) (k := 6) (a := 5) (ep := 0) (s := 4) (b := 9) (by unfold i64; omega) (by unfold i64; omega) j0 (by unfold i64; omega)) ?_
 rintro _ w6 ⟨cs6, rfl, rd6, E6⟩
 replace hp := hp.ext E6
 refine so ?_
 refine Alo hp (h := fun g7 w7 hp E7 => ?_)
 refine so ?_
 have rd8 := rdTo (F := F2) (w' := w7) (evtR.mono (fun _ _ h => h) rd6) mv
 have hl8 : cs6.length = 53 := evtR.len rd8
 refine Hs 0 hp (xs := cs6) (ds := cs6) (hc := ⟨rfl⟩) (hk := hl8) (hl := by rw [hl8]; exact leB_) (h1 := evtR.one rd8) (hq := putL_all (by rw [hl8]; rfl)) (h := fun w8 hp C8 => ?_)
 replace rd8 := rdTo (F := F2) (w' := w8) rd8 mv
 have z9 : Frz F2 F2 w4 w8 := mv
 replace rd4 := rdTo rd4 z9
 obtain ⟨F10, hp, s10, hat10⟩ := HP.frzBlk hp
 replace rd4 := rdWd s10 rd4
 replace rd8 := rdWd s10 rd8
 obtain ⟨q10, hq10⟩ : ∃ q, q = cs6 := ⟨_, rfl⟩
 rw [← hq10] at hat10 rd8
 obtain ⟨F11, hp, s11, hat11⟩ := HP.frzBlk hp
 replace hat10 := hat10.wid s11
 replace rd8 := rdWd s11 rd8
 replace rd4 := rdWd s11 rd4
 obtain ⟨q11, hq11⟩ : ∃ q, q = cs2 := ⟨_, rfl⟩
 rw [← hq11] at hat11 rd4
 refine so ?_
 refine wdL [.eq (.agg q11.toArray), .rd evtR (fun _ => True) (callE (wrW 31 1 3 7)), .eq (.agg q11.toArray), .rd evtR (fun _ => True) (runE 5 1 1 (wrW 31 1 3 7)), .eq (.agg q11.toArray), .rd ansR (fun _ => True) ans0, .rd evtR (fun _ => True) (doneE (wrW 31 1 3 7) ans0), .gs evtR (fun _ => True) [(callE (wrW 31 1 3 7)), (runE 5 1 1 (wrW 31 1 3 7)), (doneE (wrW 31 1 3 7) ans0)], .eq (.bool true), .eq (.bool true), .eq (.agg q11.toArray), .rd evtR (fun _ => True) (callE (wrW 31 1 3 7)), .eq (.agg q11.toArray), .rd ansR (fun _ => True) ans0, .rd evtR (fun _ => True) (doneE (wrW 31 1 3 7) ans0), .gs evtR (fun _ => True) [(callE (wrW 31 1 3 7)), (doneE (wrW 31 1 3 7) ans0)], .eq (.bool true), .eq (.bool true), .eq (.bool true), .eq (.agg q11.toArray), .rd evtR (fun _ => True) (runE 5 1 1 (wrW 31 1 3 7)), .eq (.agg q11.toArray), .rd evtR (fun _ => True) (runE 6 1 2 (wrW 31 1 3 7)), .gs evtR (fun _ => True) [(runE 5 1 1 (wrW 31 1 3 7)), (runE 6 1 2 (wrW 31 1 3 7))], .eq (.bool true), .eq (.bool true), .eq (.bool true), .eq (.agg q10.toArray), .rd evtR (fun _ => True) (nodeE 7 9 1 0 9), .gs evtR (fun _ => True) [(nodeE 6 5 0 4 9), (nodeE 7 9 1 0 9)], .eq (.bool true), .eq (.bool true), .eq (.bool true), .eq (.agg q10.toArray), .eq (.agg q11.toArray), .rd evtR (fun _ => True) (runE 6 5 1 (wrW 31 1 3 7)), .gs evtR (fun _ => True) [(nodeE 6 5 0 4 9), (runE 6 5 1 (wrW 31 1 3 7))], .eq (.bool true), .eq (.bool true), .eq (.bool true)] ?_ ?_
 ·refine ⟨?_, ?_, ?_, ?_, ?_, ?_, ?_, ?_, ?_, ?_, ?_, ?_, ?_, ?_, ?_, ?_, ?_, ?_, ?_, ?_, ?_, ?_, ?_, ?_, ?_, ?_, ?_, ?_, ?_, ?_, ?_, ?_, ?_, ?_, ?_, ?_, ?_, ?_, ?_, ?_, trivial⟩ <;> intro F wF hER hk
  ·exact wl_loadA (by decide) ag42 (hk.pi 1) (hat11.ext hER).at_ (wishR.len rd4) qz
  ·have e5 := hk.pe 0 []
   refine Cl_ (xs := [.tmp 5]) (by kernel_rfl) (by simp only [evs, ev, e5]; first | done | rfl) (lcall_ok (wishR.mono (S' := fun _ => True) (fun _ _ _ => trivial) (keepE rd4 hER))) ?_
   rintro _ wc ⟨cc, rfl, rc, hEc⟩
   exact qz ⟨hEc, cc, rfl, evtR.mono (fun _ _ _ => trivial) rc⟩
  ·exact wl_loadA (by decide) ag42 (hk.pi 1) (hat11.ext hER).at_ (wishR.len rd4) qz
  ·have e7 := hk.pe 2 []
   refine Cl_ (xs := [.const (.int .i64 5), .const (.int .i64 1), .const (.int .u8 1), .tmp 7]) (by kernel_rfl) (by simp only [evs, ev, e7]; first | done | rfl) (lrun_ok (a := 5) (s := 1) (b := 1) (by unfold i64; omega) j1 (wishR.mono (S' := fun _ => True) (fun _ _ _ => trivial) (keepE rd4 hER))) ?_
   rintro _ wc ⟨cc, rfl, rc, hEc⟩
   exact qz ⟨hEc, cc, rfl, evtR.mono (fun _ _ _ => trivial) rc⟩
  ·exact wl_loadA (by decide) ag42 (hk.pi 1) (hat11.ext hER).at_ (wishR.len rd4) qz
  ·refine wl_builtS (ps := []) (by decide) bld44 rfl rfl ?_
   exact qz ⟨Chg.refl _ _, _, (rfl : _ = Value.agg (anC ans0 none 0 none 0).toArray), ans0_rd j0⟩
  ·have e9 := hk.pe 4 []
   obtain ⟨v10, e10, c10, rfl, r10⟩ := hk.pp 5 []
   refine Cl_ (xs := [.tmp 9, .tmp 10]) (by kernel_rfl) (by simp only [evs, ev, e9, e10]; first | done | rfl) (ldone_ok (wishR.mono (S' := fun _ => True) (fun _ _ _ => trivial) (keepE rd4 hER)) r10) ?_
   rintro _ wc ⟨cc, rfl, rc, hEc⟩
   exact qz ⟨hEc, cc, rfl, evtR.mono (fun _ _ _ => trivial) rc⟩
  ·obtain ⟨v6, e6, c6, rfl, r6⟩ := hk.pp 1 []
   obtain ⟨v8, e8, c8, rfl, r8⟩ := hk.pp 3 []
   obtain ⟨v11, e11, c11, rfl, r11⟩ := hk.pp 6 []
   refine wl_bsliceR (r := evtR) (S := fun _ => True) (xs := [.tmp 6, .tmp 8, .tmp 11]) (css := [c6, c8, c11]) (l := [(callE (wrW 31 1 3 7)), (runE 5 1 1 (wrW 31 1 3 7)), (doneE (wrW 31 1 3 7) ans0)]) (by decide) sl24 rfl (by simp only [evs, ev, e6, e8, e11, List.map_cons, List.map_nil]) (rfc r6 (rfc r8 (rfc r11 (RF.nil _ _ _)))) rfl (by simp) leB_ ?_
   rintro g wc _ gs hEc
   exact qz ⟨hEc, some ⟨g, 0, none⟩, _, rfl, gs.wid (fun _ _ => trivial)⟩
  ·obtain ⟨v12, e12, A12, c12, rfl, r12⟩ := hk.pp 7 []
   refine Cl_ (xs := [.const (.int .i64 0), .const (.int .i64 0), .tmp 12]) (by kernel_rfl) (by simp only [evs, ev, e12]; first | done | rfl) (lfind_yes r12 works_ok_f1) ?_
   rintro _ wc ⟨rfl, hEc⟩
   exact qz ⟨hEc, rfl⟩
  ·have ea := hk.pe 8 []
   exact dm ea
  ·refine wl_gyes rfl (hk.pe 9 []) ?_
   exact wl_loadA (by decide) ag42 (hk.pi 1) (hat11.ext hER).at_ (wishR.len rd4) qz
  ·refine wl_gyes rfl (hk.pe 9 []) ?_
   have e15 := hk.pe 10 []
   refine Cl_ (xs := [.tmp 15]) (by kernel_rfl) (by simp only [evs, ev, e15]; first | done | rfl) (lcall_ok (wishR.mono (S' := fun _ => True) (fun _ _ _ => trivial) (keepE rd4 hER))) ?_
   rintro _ wc ⟨cc, rfl, rc, hEc⟩
   exact qz ⟨hEc, cc, rfl, evtR.mono (fun _ _ _ => trivial) rc⟩
  ·refine wl_gyes rfl (hk.pe 9 []) ?_
   exact wl_loadA (by decide) ag42 (hk.pi 1) (hat11.ext hER).at_ (wishR.len rd4) qz
  ·refine wl_gyes rfl (hk.pe 9 []) ?_
   refine wl_builtS (ps := []) (by decide) bld44 rfl rfl ?_
   exact qz ⟨Chg.refl _ _, _, (rfl : _ = Value.agg (anC ans0 none 0 none 0).toArray), ans0_rd j0⟩
  ·refine wl_gyes rfl (hk.pe 9 []) ?_
   have e17 := hk.pe 12 []
   obtain ⟨v18, e18, c18, rfl, r18⟩ := hk.pp 13 []
   refine Cl_ (xs := [.tmp 17, .tmp 18]) (by kernel_rfl) (by simp only [evs, ev, e17, e18]; first | done | rfl) (ldone_ok (wishR.mono (S' := fun _ => True) (fun _ _ _ => trivial) (keepE rd4 hER)) r18) ?_
   rintro _ wc ⟨cc, rfl, rc, hEc⟩
   exact qz ⟨hEc, cc, rfl, evtR.mono (fun _ _ _ => trivial) rc⟩
  ·refine wl_gyes rfl (hk.pe 9 []) ?_
   obtain ⟨v16, e16, c16, rfl, r16⟩ := hk.pp 11 []
   obtain ⟨v19, e19, c19, rfl, r19⟩ := hk.pp 14 []
   refine wl_bsliceR (r := evtR) (S := fun _ => True) (xs := [.tmp 16, .tmp 19]) (css := [c16, c19]) (l := [(callE (wrW 31 1 3 7)), (doneE (wrW 31 1 3 7) ans0)]) (by decide) sl24 rfl (by simp only [evs, ev, e16, e19, List.map_cons, List.map_nil]) (rfc r16 (rfc r19 (RF.nil _ _ _))) rfl (by simp) leB_ ?_
   rintro g wc _ gs hEc
   exact qz ⟨hEc, some ⟨g, 0, none⟩, _, rfl, gs.wid (fun _ _ => trivial)⟩
  ·refine wl_gyes rfl (hk.pe 9 []) ?_
   obtain ⟨v20, e20, A20, c20, rfl, r20⟩ := hk.pp 15 []
   refine Cl_ (xs := [.const (.int .i64 10), .const (.int .i64 1), .tmp 20]) (by kernel_rfl) (by simp only [evs, ev, e20]; first | done | rfl) (lfind_yes r20 works_ok_f2) ?_
   rintro _ wc ⟨rfl, hEc⟩
   exact qz ⟨hEc, rfl⟩
  ·have ea := hk.pe 9 []
   have eb := hk.pe 16 []
   exact aPt (by decide) ea rfl eb qz
  ·have ea := hk.pe 17 []
   exact dm ea
  ·refine wl_gyes rfl (hk.pe 18 []) ?_
   exact wl_loadA (by decide) ag42 (hk.pi 1) (hat11.ext hER).at_ (wishR.len rd4) qz
  ·refine wl_gyes rfl (hk.pe 18 []) ?_
   have e24 := hk.pe 19 []
   refine Cl_ (xs := [.const (.int .i64 5), .const (.int .i64 1), .const (.int .u8 1), .tmp 24]) (by kernel_rfl) (by simp only [evs, ev, e24]; first | done | rfl) (lrun_ok (a := 5) (s := 1) (b := 1) (by unfold i64; omega) j1 (wishR.mono (S' := fun _ => True) (fun _ _ _ => trivial) (keepE rd4 hER))) ?_
   rintro _ wc ⟨cc, rfl, rc, hEc⟩
   exact qz ⟨hEc, cc, rfl, evtR.mono (fun _ _ _ => trivial) rc⟩
  ·refine wl_gyes rfl (hk.pe 18 []) ?_
   exact wl_loadA (by decide) ag42 (hk.pi 1) (hat11.ext hER).at_ (wishR.len rd4) qz
  ·refine wl_gyes rfl (hk.pe 18 []) ?_
   have e26 := hk.pe 21 []
   refine Cl_ (xs := [.const (.int .i64 6), .const (.int .i64 1), .const (.int .u8 2), .tmp 26]) (by kernel_rfl) (by simp only [evs, ev, e26]; first | done | rfl) (lrun_ok (a := 6) (s := 1) (b := 2) (by unfold i64; omega) j1 (wishR.mono (S' := fun _ => True) (fun _ _ _ => trivial) (keepE rd4 hER))) ?_
   rintro _ wc ⟨cc, rfl, rc, hEc⟩
   exact qz ⟨hEc, cc, rfl, evtR.mono (fun _ _ _ => trivial) rc⟩
  ·refine wl_gyes rfl (hk.pe 18 []) ?_
   obtain ⟨v25, e25, c25, rfl, r25⟩ := hk.pp 20 []
   obtain ⟨v27, e27, c27, rfl, r27⟩ := hk.pp 22 []
   refine wl_bsliceR (r := evtR) (S := fun _ => True) (xs := [.tmp 25, .tmp 27]) (css := [c25, c27]) (l := [(runE 5 1 1 (wrW 31 1 3 7)), (runE 6 1 2 (wrW 31 1 3 7))]) (by decide) sl24 rfl (by simp only [evs, ev, e25, e27, List.map_cons, List.map_nil]) (rfc r25 (rfc r27 (RF.nil _ _ _))) rfl (by simp) leB_ ?_
   rintro g wc _ gs hEc
   exact qz ⟨hEc, some ⟨g, 0, none⟩, _, rfl, gs.wid (fun _ _ => trivial)⟩
  ·refine wl_gyes rfl (hk.pe 18 []) ?_
   obtain ⟨v28, e28, A28, c28, rfl, r28⟩ := hk.pp 23 []
   refine Cl_ (xs := [.const (.int .i64 4), .const (.int .i64 1), .tmp 28]) (by kernel_rfl) (by simp only [evs, ev, e28]; first | done | rfl) (lfind_yes r28 works_ok_f3) ?_
   rintro _ wc ⟨rfl, hEc⟩
   exact qz ⟨hEc, rfl⟩
  ·have ea := hk.pe 18 []
   have eb := hk.pe 24 []
   exact aPt (by decide) ea rfl eb qz
  ·have ea := hk.pe 25 []
   exact dm ea
  ·refine wl_gyes rfl (hk.pe 26 []) ?_
   exact wl_loadA (by decide) ag46 (hk.pi 2) (hat10.ext hER).at_ (evtR.len rd8) qz
  ·refine wl_gyes rfl (hk.pe 26 []) ?_
   refine Cl_ (xs := [.const (.int .i64 7), .const (.int .i64 9), .const (.int .i64 1), .const (.int .i64 0), .const (.int .u8 9)]) (by kernel_rfl) rfl (lnode_ok (S := fun _ => True) (k := 7) (a := 9) (ep := 1) (s := 0) (b := 9) (by unfold i64; omega) (by unfold i64; omega) j1 j0) ?_
   rintro _ wc ⟨cc, rfl, rc, hEc⟩
   exact qz ⟨hEc, cc, rfl, evtR.mono (fun _ _ _ => trivial) rc⟩
  ·refine wl_gyes rfl (hk.pe 26 []) ?_
   have e32 := hk.pe 27 []
   obtain ⟨v33, e33, c33, rfl, r33⟩ := hk.pp 28 []
   refine wl_bsliceR (r := evtR) (S := fun _ => True) (xs := [.tmp 32, .tmp 33]) (css := [q10, c33]) (l := [(nodeE 6 5 0 4 9), (nodeE 7 9 1 0 9)]) (by decide) sl24 rfl (by simp only [evs, ev, e32, e33, List.map_cons, List.map_nil]) (rfc (evtR.mono (fun _ _ _ => trivial) (keepE rd8 hER)) (rfc r33 (RF.nil _ _ _))) rfl (by simp) leB_ ?_
   rintro g wc _ gs hEc
   exact qz ⟨hEc, some ⟨g, 0, none⟩, _, rfl, gs.wid (fun _ _ => trivial)⟩
  ·refine wl_gyes rfl (hk.pe 26 []) ?_
   obtain ⟨v34, e34, A34, c34, rfl, r34⟩ := hk.pp 29 []
   refine Cl_ (xs := [.const (.int .i64 1), .const (.int .i64 1), .tmp 34]) (by kernel_rfl) (by simp only [evs, ev, e34]; first | done | rfl) (lfind_yes r34 works_ok_f4) ?_
   rintro _ wc ⟨rfl, hEc⟩
   exact qz ⟨hEc, rfl⟩
  ·have ea := hk.pe 26 []
   have eb := hk.pe 30 []
   exact aPt (by decide) ea rfl eb qz
  ·have ea := hk.pe 31 []
   exact dm ea
  ·refine wl_gyes rfl (hk.pe 32 []) ?_
   exact wl_loadA (by decide) ag46 (hk.pi 2) (hat10.ext hER).at_ (evtR.len rd8) qz
  ·refine wl_gyes rfl (hk.pe 32 []) ?_
   exact wl_loadA (by decide) ag42 (hk.pi 1) (hat11.ext hER).at_ (wishR.len rd4) qz
  ·refine wl_gyes rfl (hk.pe 32 []) ?_
   have e39 := hk.pe 34 []
   refine Cl_ (xs := [.const (.int .i64 6), .const (.int .i64 5), .const (.int .u8 1), .tmp 39]) (by kernel_rfl) (by simp only [evs, ev, e39]; first | done | rfl) (lrun_ok (a := 6) (s := 5) (b := 1) (by unfold i64; omega) (by unfold i64; omega) (wishR.mono (S' := fun _ => True) (fun _ _ _ => trivial) (keepE rd4 hER))) ?_
   rintro _ wc ⟨cc, rfl, rc, hEc⟩
   exact qz ⟨hEc, cc, rfl, evtR.mono (fun _ _ _ => trivial) rc⟩
  ·refine wl_gyes rfl (hk.pe 32 []) ?_
   have e38 := hk.pe 33 []
   obtain ⟨v40, e40, c40, rfl, r40⟩ := hk.pp 35 []
   refine wl_bsliceR (r := evtR) (S := fun _ => True) (xs := [.tmp 38, .tmp 40]) (css := [q10, c40]) (l := [(nodeE 6 5 0 4 9), (runE 6 5 1 (wrW 31 1 3 7))]) (by decide) sl24 rfl (by simp only [evs, ev, e38, e40, List.map_cons, List.map_nil]) (rfc (evtR.mono (fun _ _ _ => trivial) (keepE rd8 hER)) (rfc r40 (RF.nil _ _ _))) rfl (by simp) leB_ ?_
   rintro g wc _ gs hEc
   exact qz ⟨hEc, some ⟨g, 0, none⟩, _, rfl, gs.wid (fun _ _ => trivial)⟩
  ·refine wl_gyes rfl (hk.pe 32 []) ?_
   obtain ⟨v41, e41, A41, c41, rfl, r41⟩ := hk.pp 36 []
   refine Cl_ (xs := [.const (.int .i64 6), .const (.int .i64 1), .tmp 41]) (by kernel_rfl) (by simp only [evs, ev, e41]; first | done | rfl) (lfind_yes r41 works_ok_f5) ?_
   rintro _ wc ⟨rfl, hEc⟩
   exact qz ⟨hEc, rfl⟩
  ·have ea := hk.pe 32 []
   have eb := hk.pe 37 []
   exact aPt (by decide) ea rfl eb qz
  ·have ea := hk.pe 38 []
   exact wl_assign (by decide) ea qz
 intro F w12 E13 hini hdo
 have e0 := dq hdo 39
 refine wk_drop [(2, pt g7 0), (1, pt g3 0), (0, .bool true)] ⟨di hini 2, di hini 1, e0, trivial⟩ ?_
 clear hini hdo e0
 replace hp := hp.ext E13
 replace hat10 := hat10.ext E13
 replace rd8 := keepE rd8 E13
 replace hat11 := hat11.ext E13
 replace rd4 := keepE rd4 E13
 refine so ?_
 exact Pt ⟨_, rfl, rfl, hp.chg⟩
theorem take_take_le {l : List Evt} {i n : Nat} (h : i ≤ n) : (l.take n).take i = l.take i := by rw [List.take_take, Nat.min_eq_left h]
theorem endS_cut {l : List Evt} {n : Nat} {a : Int} : ∀ {k j : Nat}, j + k ≤ n → endS (l.take n) a j k = endS l a j k
 | 0, _, _ => rfl
 | k + 1, j, h => by
  rw [endS, endS, getD_take (l := l) (i := n) (j := j) (by omega), endS_cut (k := k) (j := j + 1) (by omega)]
theorem opS_cut {l : List Evt} {n i j : Nat} (hj : j < i) (h : i < n) : opS (l.take n) i j = opS l i j := by
 unfold opS
 rw [getD_take (l := l) (i := n) (j := j) (by omega), endS_cut (k := i - j) (j := j + 1) (by omega)]
 cases he : endS l (l.getD j evt0).a (j + 1) (i - j) with
 | none => rfl
 | some m =>
  have hm := endS_b l _ _ _ _ he
  dsimp only
  rw [getD_take (l := l) (i := n) (j := m) (by omega)]
theorem histS_cut {p : Pln} {l : List Evt} {n i : Nat} (h : i < n) : histS p (l.take n) i = histS p l i := by
 unfold histS
 rw [getD_take (l := l) (i := n) (j := i) h, take_take_le (by omega)]
 congr 1
 unfold opsS
 refine fm_congr (fun j hj => ?_)
 rw [getD_take (l := l) (i := n) (j := j) (by omega), opS_cut hj h]
theorem broken_cut {p : Pln} {l : List Evt} {n i : Nat} (h : i < n) : broken p (l.take n) i = broken p l i := by
 have e11 : R11 p (l.take n) i ↔ R11 p l i := by
  unfold R11
  rw [getD_take (l := l) (i := n) (j := i) h, histS_cut h]
 unfold broken
 simp only [getD_take (l := l) (i := n) (j := i) h, take_take_le (l := l) (i := i) (n := n) (by omega), take_take_le (l := l) (i := i + 1) (n := n) (by omega), e11]
theorem firstB_of {p : Pln} {l : List Evt} : ∀ {n j : Nat}, ((firstB p l j n).1 = 0 ∧ (firstB p l j n).2 = 0 ∧ ∀ i, j ≤ i → i < j + n → broken p l i = 0) ∨ (∃ k, j ≤ k ∧ k < j + n ∧ broken p l k ≠ 0 ∧ firstB p l j n = (broken p l k, (k : Int)) ∧ ∀ i, j ≤ i → i < k → broken p l i = 0)
 | 0, j => .inl ⟨rfl, rfl, fun i h1 h2 => by omega⟩
 | n + 1, j => by
  rw [firstB]
  by_cases h : broken p l j = 0
  ·rw [if_pos h]
   rcases firstB_of (p := p) (l := l) (n := n) (j := j + 1) with ⟨h1, h2, h3⟩ | ⟨k, h1, h2, h3, h4, h5⟩
   ·refine .inl ⟨h1, h2, fun i hi1 hi2 => ?_⟩
    by_cases e : i = j
    ·rw [e]; exact h
    ·exact h3 i (by omega) (by omega)
   ·refine .inr ⟨k, by omega, by omega, h3, h4, fun i hi1 hi2 => ?_⟩
    by_cases e : i = j
    ·rw [e]; exact h
    ·exact h5 i (by omega) (by omega)
  ·rw [if_neg h]
   exact .inr ⟨j, Nat.le_refl _, by omega, h, rfl, fun i h1 h2 => by omega⟩
theorem broken_nn (p : Pln) (l : List Evt) (i : Nat) : 0 ≤ broken p l i := by
 unfold broken
 repeat' split
 all_goals omega
theorem findS_of {p : Pln} {l : List Evt} (hM : PlnMay p) (hl : l.length ≤ 32768) : findS p l = ((firstB p l 0 l.length).1, (firstB p l 0 l.length).2, 0) := by rw [findS, if_neg (fun h => h hM), if_neg (by omega)]
theorem find_ahead {p : Pln} {l : List Evt} {n : Nat} (hn : n ≤ l.length) (hl : l.length ≤ 32768) :
  (findS p l).2.2 = (findS p (l.take n)).2.2 ∧ (((findS p l).2.2 = 0 ∧ 0 < (findS p l).1 ∧ (findS p l).2.1 < (n : Int)) → (findS p (l.take n)).1 = (findS p l).1 ∧ (findS p (l.take n)).2.1 = (findS p l).2.1) ∧
  (¬ ((findS p l).2.2 = 0 ∧ 0 < (findS p l).1 ∧ (findS p l).2.1 < (n : Int)) → (findS p (l.take n)).1 = 0 ∧ (findS p (l.take n)).2.1 = 0) := by
 have hln : (l.take n).length = n := by rw [List.length_take]; omega
 by_cases hM : PlnMay p
 ·rw [findS_of hM hl, findS_of hM (by omega), hln]
  dsimp only
  have hc : ∀ i, i < n → broken p (l.take n) i = broken p l i := fun i hi => broken_cut hi
  refine ⟨rfl, ?_, ?_⟩
  ·rintro ⟨_, h1, h2⟩
   rcases firstB_of (p := p) (l := l) (n := l.length) (j := 0) with ⟨a1, a2, a3⟩ | ⟨k, a1, a2, a3, a4, a5⟩
   ·omega
   ·rw [a4] at h1 h2 ⊢
    dsimp only at h1 h2
    have hkn : k < n := by omega
    rw [firstB_at (p := p) (l := l.take n) (n := n) (j := 0) (k := k) (fun i _ hi => by rw [hc i (by omega)]; exact a5 i (by omega) (by omega)) hkn (by rw [Nat.zero_add, hc k hkn]; exact a3), Nat.zero_add, hc k hkn]
    exact ⟨rfl, rfl⟩
  ·intro h
   have hz : ∀ i, i < n → broken p l i = 0 := fun i hi => by
    rcases firstB_of (p := p) (l := l) (n := l.length) (j := 0) with ⟨a1, a2, a3⟩ | ⟨k, a1, a2, a3, a4, a5⟩
    ·exact a3 i (by omega) (by omega)
    ·rw [a4] at h
     have := broken_nn p l k
     have hkn : ¬ k < n := fun hk => h ⟨rfl, by dsimp only; omega, by dsimp only; omega⟩
     exact a5 i (by omega) (by omega)
   rw [firstB_no (p := p) (l := l.take n) (n := n) (j := 0) (fun i _ hi => by rw [hc i (by omega)]; exact hz i (by omega))]
   exact ⟨rfl, rfl⟩
 ·have e1 : findS p l = (0, 0, 2) := if_pos hM
  have e2 : findS p (l.take n) = (0, 0, 2) := if_pos hM
  rw [e1, e2]
  exact ⟨rfl, fun h => absurd h.1 (by decide), fun _ => ⟨rfl, rfl⟩⟩
def bringI (i n : Int) : Int := if n ≤ 0 then 0 else i % n
theorem tmod_bring {i n : Int} (h : 0 < n) : i % n = if i.tmod n < 0 then i.tmod n + n else i.tmod n := by
 have h1 := Int.tmod_eq_emod (a := i) (b := n)
 have h2 := Int.emod_nonneg i (by omega : n ≠ 0)
 have h3 := Int.emod_lt_of_pos i h
 rw [h1]
 by_cases h4 : 0 ≤ i ∨ n ∣ i
 ·rw [if_pos h4, if_neg (by omega)]; omega
 ·rw [if_neg h4, if_pos (by omega)]; omega
theorem tmod_b {i n : Int} (hi : i64 i) (h : 0 < n) : -9223372036854775808 ≤ i.tmod n ∧ i.tmod n < n ∧ -n < i.tmod n := by
 have h1 := Int.tmod_eq_emod (a := i) (b := n)
 have h2 := Int.emod_nonneg i (by omega : n ≠ 0)
 have h3 := Int.emod_lt_of_pos i h
 unfold i64 at hi
 have h5 : n ∣ i ∨ i % n ≠ 0 := by
  by_cases e : i % n = 0
  ·exact .inl (Int.dvd_of_emod_eq_zero e)
  ·exact .inr e
 rw [h1]
 by_cases h4 : 0 ≤ i ∨ n ∣ i
 ·rw [if_pos h4]; omega
 ·rw [if_neg h4]
  have h6 : i % n ≠ 0 := h5.resolve_left (fun h => h4 (.inr h))
  have h7 : n * (i / n) + i % n = i := Int.mul_ediv_add_emod i n
  have h8 : i / n ≤ -1 := by
   have : i / n < 0 := Int.ediv_neg_of_neg_of_pos (by omega) h
   omega
  have h9 : n * (i / n) ≤ n * (-1) := Int.mul_le_mul_of_nonneg_left h8 (by omega)
  omega
theorem lbring_ok {w : World} {i n : Int} (hi : i64 i) (hn : i64 n) : Ret prog 17 #[iv i, iv n] w (fun v w' => v = iv (bringI i n) ∧ Ext w w') := by
 refine ret_of_wk func17 rfl ntmps17 leB_ ?_
 have hp := HP.begin_ w
 refine so ?_
 refine Cd ?_ ?_ <;> intro k1 <;> refine so ?_
 ·exact Pt ⟨_, rfl, by rw [bringI, if_pos k1], hp.chg⟩
 have hb := tmod_b hi (by omega : 0 < n)
 have ht := tmod_bring (i := i) (by omega : 0 < n)
 unfold i64 at hi hn
 refine wl_rem (by decide) rfl rfl (by omega) rfl ?_
 generalize i.tmod n = z at hb ht
 refine so ?_
 refine Cd ?_ ?_ <;> intro k2 <;> refine so ?_
 ·exact Pt ⟨_, rfl, by rw [bringI, if_neg k1, ht, if_pos k2], hp.chg⟩
 ·exact Pt ⟨_, rfl, by rw [bringI, if_neg k1, ht, if_neg k2], hp.chg⟩
set_option maxHeartbeats 8000000 in
theorem judgeAhead_ok {w : World} {S S2 : Nat → Prop} {p : Pln} {cs : List Value} {l : List Evt} {A : Option Addr} {c : Nat} {at_ : Int} (hpl : plnR.rd S2 w cs p) (hl : GS evtR S w A c l) (ha : i64 at_) : Ret prog 6 #[.agg cs.toArray, .slice A l.length c, iv at_] w (fun v w' => v = .bool true ∧ Ext w w') := by
 have hpl0 := hpl
 obtain ⟨hP, rfl⟩ := hpl
 refine ret_of_wk func6 rfl ntmps6 leB_ ?_
 have hp := HP.begin_ w
 generalize hF0 : (fun b => b < w.heap.size) = F0 at hp
 refine so ?_
 refine Bx hp (h := fun g2 w1 hp E1 => so ?_)
 refine Ce works_ok ?_
 rintro _ w2 ⟨rfl, E2⟩
 replace hp := hp.ext E2
 have E12 := E1.trans E2
 refine so ?_
 refine aF (so ?_)
 refine Cd ?_ ?_ <;> intro kL <;> refine so ?_
 ·exact Pt ⟨_, rfl, rfl, hp.chg⟩
 refine Ce (pfind_ok (plnR.keep E12 (fun _ _ _ x => x) hpl0) (hl.ext E12)) ?_
 rintro _ w3 ⟨rfl, E3⟩
 replace hp := hp.ext E3
 have E13 := E12.trans E3
 refine so ?_
 refine Ce (lbring_ok (n := (l.length : Int) + 1) ha (by unfold i64; omega)) ?_
 rintro _ w4 ⟨rfl, E4⟩
 replace hp := hp.ext E4
 have E14 := E13.trans E4
 obtain ⟨n, hn, hnl⟩ : ∃ n : Nat, bringI at_ ((l.length : Int) + 1) = (n : Int) ∧ n ≤ l.length := by
  have h2 := Int.emod_nonneg at_ (by omega : ((l.length : Int) + 1) ≠ 0)
  have h3 := Int.emod_lt_of_pos at_ (by omega : 0 < (l.length : Int) + 1)
  rw [bringI, if_neg (by omega)]
  exact ⟨(at_ % ((l.length : Int) + 1)).toNat, by omega, by omega⟩
 rw [hn]
 obtain ⟨h1, h2, h3⟩ := find_ahead (p := p) hnl (by omega)
 have hll : GS evtR S w4 A c (l.take n) := GS.take (hl.ext E14) n
 have hlen : (l.take n).length = n := by rw [List.length_take]; omega
 generalize hla : l.take n = la at h1 h2 h3 hll hlen
 generalize findS p l = a at h1 h2 h3
 have hl4 : GS evtR S w4 A c l := hl.ext E14
 have hq4 : plnR.rd S2 w4 (plnC p) p := plnR.keep E14 (fun _ _ _ x => x) hpl0
 refine so ?_
 refine wdP 12 hp (fun wD hp hED => by
  refine pm ?_
  apply PL.op
  ·rfl
  ·exact wl_to (r := evtR) (by decide) sl24 rfl rfl (hl4.ext hED) n rfl hnl (fun _ => wl_nil qp)
  refine pm ?_
  rw [hla]
  exact PLe (pfind_ok (keepE hq4 hED) (hll.ext hED)) (h := pl)) fun w5 hp E5 => so ?_
 generalize findS p la = b at h1 h2 h3
 refine Cd ?_ ?_ <;> intro k1
 ·exact absurd h1 k1
 refine so ?_
 refine Gs 44 ?_ ?_ <;> intro k2 <;> refine so ?_
 ·refine Gs 48 ?_ ?_ <;> intro k3 <;> refine so ?_
  ·refine Cd ?_ ?_ <;> intro k4 <;> refine so ?_
   ·obtain ⟨hb1, hb2⟩ := h2 ⟨k2, k3, k4⟩
    refine Gs 56 ?_ ?_ <;> intro q1
    rotate_left
    ·exact absurd hb1 q1
    refine so ?_
    exact Pt ⟨_, rfl, congrArg Value.bool (decide_eq_true hb2), hp.chg⟩
   ·obtain ⟨hb1, hb2⟩ := h3 (fun h => k4 h.2.2)
    refine Gs 63 ?_ ?_ <;> intro q1
    rotate_left
    ·exact absurd hb1 q1
    refine so ?_
    exact Pt ⟨_, rfl, congrArg Value.bool (decide_eq_true hb2), hp.chg⟩
  ·refine aF (so ?_)
   obtain ⟨hb1, hb2⟩ := h3 (fun h => k3 h.2.1)
   refine Gs 63 ?_ ?_ <;> intro q1
   rotate_left
   ·exact absurd hb1 q1
   refine so ?_
   exact Pt ⟨_, rfl, congrArg Value.bool (decide_eq_true hb2), hp.chg⟩
 ·refine aF (so ?_)
  obtain ⟨hb1, hb2⟩ := h3 (fun h => k2 h.1)
  refine Gs 63 ?_ ?_ <;> intro q1
  rotate_left
  ·exact absurd hb1 q1
  refine so ?_
  exact Pt ⟨_, rfl, congrArg Value.bool (decide_eq_true hb2), hp.chg⟩
end Go.Proofs.Ytgheaedligkhoaa
namespace Go.Proofs.Ytgheaedligkhoaa
open Go.ChangeShapes Go.WideShapes Go.ChangeAt Go.RowKit Go.Eng Go.Eng _root_.Go.Proofs.Try
set_option maxRecDepth 100000
variable {w0 w : World} {M0 Fz : Nat → Prop} {H : List It} {A : Option Addr} {c : Nat}
set_option maxRecDepth 100000 in
theorem judgeAhead_lifted (os : Os) (started : os.Started) (H : Type) (enc : TypeId × Value → H) :
    ReturnsInHanded {} Try.checked os 6 .any (Rows.judgeAheadSpec.pre6 enc Try.prog Try.f6 Rows.judgeAheadRow.domain false) (Rows.judgeAheadSpec.post enc Try.prog Try.f6 false true false false) := by
  refine law_lifted (C := Try.checked) Try.own started (by kernel_rfl) Try.func6
    (ChangeSpec.witness6 (enc := enc) (C := Try.checked) false ⟨#[], #[.agg #[.int .i64 0, .int .i64 0, .int .i64 0, .int .i64 0, .int .i64 0], .slice none 0 0, .int .i64 0], []⟩ 8 (by kernel_rfl) (by kernel_rfl) (by kernel_rfl) (by kernel_rfl))
    Try.laidOut (by kernel_rfl) rfl rfl Try.underlying4 ?_ ?_
  · intro ds hq
    obtain ⟨d0, t0, e0, q0⟩ := spec_len (show ds.length = 3 from hq)
    obtain ⟨d1, t1, e1, q1⟩ := spec_len (show t0.length = 2 from q0)
    obtain ⟨d2, t2, e2, q2⟩ := spec_len (show t1.length = 1 from q1)
    have en := List.eq_nil_of_length_eq_zero (show t2.length = 0 from q2)
    subst en
    subst e2
    subst e1
    subst e0
    rfl
  · intro W base args ds h
    obtain ⟨l⟩ := args
    rw [Try.params6] at h
    obtain ⟨v0, l0, d0, ds0, rfl, h0, h⟩ := args_cons h
    obtain ⟨v1, l1, d1, ds1, rfl, h1, h⟩ := args_cons h
    obtain ⟨v2, l2, d2, ds2, rfl, h2, h⟩ := args_cons h
    obtain rfl := args_nil h
    clear h
    obtain ⟨cs0, x0, rfl, hp0, hg0⟩ := arg_struct Try.underlying23 reads_Pln h0
    obtain ⟨A1, c1, l1, rfl, he1, hg1, hb1⟩ := arg_slice Try.underlying24 (reads_slice (size := 53) (bytes := 264) Try.underlying24 rfl (by decide) (by kernel_rfl) (by kernel_rfl) (by decide) reads_Evt) h1
    obtain ⟨n2, rfl, lo2, hi2⟩ := arg_int Try.underlying3 h2
    exact judgeAhead_ok hp0 he1 ⟨lo2, hi2⟩
theorem judgeAhead_holds : Rows.JudgeAheadSaid :=
 OpenClaim.holds_of_wide 6 Try.f6 rfl rfl rfl rfl rfl rfl rfl ⟨rfl, rfl, rfl, rfl, rfl⟩ rfl rfl rfl rfl rfl (by kernel_rfl) Try.func6 (by kernel_rfl)
  (of_decide_eq_true (by kernel_rfl)) (by unfold Func.isWrapper; first | (rw [if_pos (by decide +kernel)]; kernel_rfl) | (rw [if_neg (by decide +kernel)]; exact ⟨rfl, rfl⟩))
  (fun os started H enc _ => judgeAhead_lifted os started H enc)
end Go.Proofs.Ytgheaedligkhoaa
