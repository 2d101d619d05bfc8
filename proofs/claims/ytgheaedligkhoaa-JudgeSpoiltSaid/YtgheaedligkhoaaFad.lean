/- What each of these functions computes, for every argument that its theorem names; a part of what the proof of JudgeSpoilt stands on. -/
import Derived.Test.YtgheaedligkhoaaFaa
import Derived.Test.YtgheaedligkhoaaAaa
import Derived.Test.YtgheaedligkhoaaAab
import Derived.Test.YtgheaedligkhoaaAac
import Derived.Test.YtgheaedligkhoaaAad
import Derived.Test.YtgheaedligkhoaaAae
import Derived.Test.YtgheaedligkhoaaAaf
import Derived.Test.YtgheaedligkhoaaAag
import Derived.Test.YtgheaedligkhoaaAah
import Derived.Test.YtgheaedligkhoaaAam
import Derived.Test.YtgheaedligkhoaaAar
import Derived.Test.YtgheaedligkhoaaAas
import Derived.Test.YtgheaedligkhoaaAau
import Derived.Test.YtgheaedligkhoaaAav
import Derived.Test.YtgheaedligkhoaaAaw
import Derived.Test.YtgheaedligkhoaaFab
import Derived.Test.YtgheaedligkhoaaFac
namespace Go.Proofs.Ytgheaedligkhoaa
open Go.RowKit Go.Eng _root_.Go.Proofs.Try Go.Eng _root_.Go.Proofs.Try
set_option maxRecDepth 100000
variable {w0 w : World} {M0 Fz : Nat → Prop} {H : List It} {A : Option Addr} {c : Nat}
theorem pfind_ok {w : World} {S S2 : Nat → Prop} {p : Pln} {cs : List Value} {l : List Evt} {A : Option Addr} {c : Nat} (hpl : plnR.rd S2 w cs p) (hl : GS evtR S w A c l) : Ret prog 9 #[.agg cs.toArray, .slice A l.length c] w (fun x w' => x = find3 (findS p l) ∧ Ext w w') := jfind_ok hpl hl (fun _ hi h => plain_ok hi h)
theorem lfinds_ok {w : World} {S : Nat → Prop} {l : List Evt} {A : Option Addr} {c : Nat} {r a : Int} (hl : GS evtR S w A c l) : Ret prog 15 #[iv r, iv a, .slice A l.length c] w (fun v w' => v = .bool (decide (findS planP l = (r, a, 0))) ∧ Ext w w') := by
 refine ret_of_wk func15 rfl ntmps15 leB_ ?_
 refine so ?_
 refine Ce lplan_ok ?_
 rintro _ w1 ⟨rfl, E1⟩
 refine so ?_
 refine Ce (pfind_ok (planP_rd (S := fun _ => True)) (hl.ext E1)) ?_
 rintro _ w2 ⟨rfl, E2⟩
 obtain ⟨x, y, e⟩ := findS planP l
 refine so ?_
 refine Gs 19 ?_ ?_ <;> intro k1 <;> refine so ?_
 ·refine Gs 24 ?_ ?_ <;> intro k2 <;> refine so ?_
  ·refine Pt ⟨_, rfl, congrArg Value.bool (decide_eq_decide.2 ⟨fun h => ?_, fun h => ?_⟩), E1.trans E2⟩
   ·dsimp only at k1 k2 h
    rw [k1, k2, h]
   ·exact (Prod.mk.inj (Prod.mk.inj h).2).1
  ·exact Pt ⟨_, rfl, bool_f (fun h => k2 (Prod.mk.inj h).1), E1.trans E2⟩
 ·exact Pt ⟨_, rfl, bool_f (fun h => k1 (Prod.mk.inj (Prod.mk.inj h).2).2), E1.trans E2⟩
theorem lfind_yes {w : World} {S : Nat → Prop} {l : List Evt} {A : Option Addr} {c : Nat} {r a : Int} (hl : GS evtR S w A c l) (h : findS planP l = (r, a, 0)) : Ret prog 15 #[iv r, iv a, .slice A l.length c] w (fun v w' => v = .bool true ∧ Ext w w') :=
 Ret.mono (lfinds_ok hl) (fun _ _ hv => ⟨by rw [hv.1, decide_eq_true h], hv.2⟩)
set_option maxHeartbeats 16000000 in
theorem works_ok {w : World} : Ret prog 11 #[] w (fun v w' => v = .bool true ∧ Ext w w') := by
 refine ret_of_wk func11 rfl ntmps11 leB_ ?_
 have hp := HP.begin_ w
 generalize hF0 : (fun b => b < w.heap.size) = F0 at hp
 refine so ?_
 refine Ce (lwrite_ok (c := 31) (t := 1) (bl := 3) (b := 7) (by unfold i64; omega) j1 j3) ?_
 rintro _ w2 ⟨cs2, rfl, rd2, E2⟩
 obtain ⟨F2, hp, s2, n2, _⟩ := hp.frz E2
 replace rd2 := wishR.mono (fun b hb h => n2 b h hb) rd2
 refine so ?_
 refine Alo hp (h := fun g3 w3 hp E3 => ?_)
 refine so ?_
 have rd4 := rdTo (F := F2) (w' := w3) (wishR.mono (fun _ _ h => h) rd2) mv
 have hl4 : cs2.length = 10 := wishR.len rd4
 refine Hs 0 hp (xs := cs2) (ds := cs2) (hc := ⟨rfl⟩) (hk := hl4) (hl := by rw [hl4]; exact leB_) (h1 := wishR.one rd4) (hq := putL_all (by rw [hl4]; rfl)) (h := fun w4 hp C4 => ?_)
 replace rd4 := rdTo (F := F2) (w' := w4) rd4 mv
 have z5 : Frz F0 F2 w w4 := mv
 refine so ?_
 refine Ce (lnode_ok (S := F2) (k := 6) (a := 5) (ep := 0) (s := 4) (b := 9) (by unfold i64; omega) (by unfold i64; omega) j0 (by unfold i64; omega)) ?_
 rintro _ w6 ⟨cs6, rfl, rd6, E6⟩
 replace hp := hp.ext E6
 refine so ?_
 refine Alo hp (h := fun g7 w7 hp E7 => ?_)
 refine so ?_
 have rd8 := rdTo (F := F2) (w' := w7) (evtR.mono (fun _ _ h => h) rd6) mv
 have hl8 : cs6.length = 53 := evtR.len rd8
 refine Hs 0 hp (xs := cs6) (ds := cs6) (hc := ⟨rfl⟩) (hk := hl8) (hl := by rw [hl8]; exact leB_) (h1 := evtR.one rd8) (hq := putL_all (by rw [hl8]; rfl)) (h := fun w8 hp C8 => ?_)
 replace rd8 := rdTo (F := F2) (w' := w8) rd8 mv
 have z9 : Frz F2 F2 w4 w8 := mv
 replace rd4 := rdTo rd4 z9
 obtain ⟨F10, hp, s10, hat10⟩ := HP.frzBlk hp
 replace rd4 := rdWd s10 rd4
 replace rd8 := rdWd s10 rd8
 obtain ⟨q10, hq10⟩ : ∃ q, q = cs6 := ⟨_, rfl⟩
 rw [← hq10] at hat10 rd8
 obtain ⟨F11, hp, s11, hat11⟩ := HP.frzBlk hp
 replace hat10 := hat10.wid s11
 replace rd8 := rdWd s11 rd8
 replace rd4 := rdWd s11 rd4
 obtain ⟨q11, hq11⟩ : ∃ q, q = cs2 := ⟨_, rfl⟩
 rw [← hq11] at hat11 rd4
 refine so ?_
 refine wdL [.eq (.agg q11.toArray), .rd evtR (fun _ => True) (callE (wrW 31 1 3 7)), .eq (.agg q11.toArray), .rd evtR (fun _ => True) (runE 5 1 1 (wrW 31 1 3 7)), .eq (.agg q11.toArray), .rd ansR (fun _ => True) ans0, .rd evtR (fun _ => True) (doneE (wrW 31 1 3 7) ans0), .gs evtR (fun _ => True) [(callE (wrW 31 1 3 7)), (runE 5 1 1 (wrW 31 1 3 7)), (doneE (wrW 31 1 3 7) ans0)], .eq (.bool true), .eq (.bool true), .eq (.agg q11.toArray), .rd evtR (fun _ => True) (callE (wrW 31 1 3 7)), .eq (.agg q11.toArray), .rd ansR (fun _ => True) ans0, .rd evtR (fun _ => True) (doneE (wrW 31 1 3 7) ans0), .gs evtR (fun _ => True) [(callE (wrW 31 1 3 7)), (doneE (wrW 31 1 3 7) ans0)], .eq (.bool true), .eq (.bool true), .eq (.bool true), .eq (.agg q11.toArray), .rd evtR (fun _ => True) (runE 5 1 1 (wrW 31 1 3 7)), .eq (.agg q11.toArray), .rd evtR (fun _ => True) (runE 6 1 2 (wrW 31 1 3 7)), .gs evtR (fun _ => True) [(runE 5 1 1 (wrW 31 1 3 7)), (runE 6 1 2 (wrW 31 1 3 7))], .eq (.bool true), .eq (.bool true), .eq (.bool true), .eq (.agg q10.toArray), .rd evtR (fun _ => True) (nodeE 7 9 1 0 9), .gs evtR (fun _ => True) [(nodeE 6 5 0 4 9), (nodeE 7 9 1 0 9)], .eq (.bool true), .eq (.bool true), .eq (.bool true), .eq (.agg q10.toArray), .eq (.agg q11.toArray), .rd evtR (fun _ => True) (runE 6 5 1 (wrW 31 1 3 7)), .gs evtR (fun _ => True) [(nodeE 6 5 0 4 9), (runE 6 5 1 (wrW 31 1 3 7))], .eq (.bool true), .eq (.bool true), .eq (.bool true)] ?_ ?_
 ·refine ⟨?_, ?_, ?_, ?_, ?_, ?_, ?_, ?_, ?_, ?_, ?_, ?_, ?_, ?_, ?_, ?_, ?_, ?_, ?_, ?_, ?_, ?_, ?_, ?_, ?_, ?_, ?_, ?_, ?_, ?_, ?_, ?_, ?_, ?_, ?_, ?_, ?_, ?_, ?_, ?_, trivial⟩ <;> intro F wF hER hk
  ·exact wl_loadA (by decide) ag42 (hk.pi 1) (hat11.ext hER).at_ (wishR.len rd4) qz
  ·have e5 := hk.pe 0 []
   refine Cl_ (xs := [.tmp 5]) (by kernel_rfl) (by simp only [evs, ev, e5]; first | done | rfl) (lcall_ok (wishR.mono (S' := fun _ => True) (fun _ _ _ => trivial) (keepE rd4 hER))) ?_
   rintro _ wc ⟨cc, rfl, rc, hEc⟩
   exact qz ⟨hEc, cc, rfl, evtR.mono (fun _ _ _ => trivial) rc⟩
  ·exact wl_loadA (by decide) ag42 (hk.pi 1) (hat11.ext hER).at_ (wishR.len rd4) qz
  ·have e7 := hk.pe 2 []
   refine Cl_ (xs := [.const (.int .i64 5), .const (.int .i64 1), .const (.int .u8 1), .tmp 7]) (by kernel_rfl) (by simp only [evs, ev, e7]; first | done | rfl) (lrun_ok (a := 5) (s := 1) (b := 1) (by unfold i64; omega) j1 (wishR.mono (S' := fun _ => True) (fun _ _ _ => trivial) (keepE rd4 hER))) ?_
   rintro _ wc ⟨cc, rfl, rc, hEc⟩
   exact qz ⟨hEc, cc, rfl, evtR.mono (fun _ _ _ => trivial) rc⟩
  ·exact wl_loadA (by decide) ag42 (hk.pi 1) (hat11.ext hER).at_ (wishR.len rd4) qz
  ·refine wl_builtS (ps := []) (by decide) bld44 rfl rfl ?_
   exact qz ⟨Chg.refl _ _, _, (rfl : _ = Value.agg (anC ans0 none 0 none 0).toArray), ans0_rd j0⟩
  ·have e9 := hk.pe 4 []
   obtain ⟨v10, e10, c10, rfl, r10⟩ := hk.pp 5 []
   refine Cl_ (xs := [.tmp 9, .tmp 10]) (by kernel_rfl) (by simp only [evs, ev, e9, e10]; first | done | rfl) (ldone_ok (wishR.mono (S' := fun _ => True) (fun _ _ _ => trivial) (keepE rd4 hER)) r10) ?_
   rintro _ wc ⟨cc, rfl, rc, hEc⟩
   exact qz ⟨hEc, cc, rfl, evtR.mono (fun _ _ _ => trivial) rc⟩
  ·obtain ⟨v6, e6, c6, rfl, r6⟩ := hk.pp 1 []
   obtain ⟨v8, e8, c8, rfl, r8⟩ := hk.pp 3 []
   obtain ⟨v11, e11, c11, rfl, r11⟩ := hk.pp 6 []
   refine wl_bsliceR (r := evtR) (S := fun _ => True) (xs := [.tmp 6, .tmp 8, .tmp 11]) (css := [c6, c8, c11]) (l := [(callE (wrW 31 1 3 7)), (runE 5 1 1 (wrW 31 1 3 7)), (doneE (wrW 31 1 3 7) ans0)]) (by decide) sl24 rfl (by simp only [evs, ev, e6, e8, e11, List.map_cons, List.map_nil]) (rfc r6 (rfc r8 (rfc r11 (RF.nil _ _ _)))) rfl (by simp) leB_ ?_
   rintro g wc _ gs hEc
   exact qz ⟨hEc, some ⟨g, 0, none⟩, _, rfl, gs.wid (fun _ _ => trivial)⟩
  ·obtain ⟨v12, e12, A12, c12, rfl, r12⟩ := hk.pp 7 []
   refine Cl_ (xs := [.const (.int .i64 0), .const (.int .i64 0), .tmp 12]) (by kernel_rfl) (by simp only [evs, ev, e12]; first | done | rfl) (lfind_yes r12 works_ok_f1) ?_
   rintro _ wc ⟨rfl, hEc⟩
   exact qz ⟨hEc, rfl⟩
  ·have ea := hk.pe 8 []
   exact dm ea
  ·refine wl_gyes rfl (hk.pe 9 []) ?_
   exact wl_loadA (by decide) ag42 (hk.pi 1) (hat11.ext hER).at_ (wishR.len rd4) qz
  ·refine wl_gyes rfl (hk.pe 9 []) ?_
   have e15 := hk.pe 10 []
   refine Cl_ (xs := [.tmp 15]) (by kernel_rfl) (by simp only [evs, ev, e15]; first | done | rfl) (lcall_ok (wishR.mono (S' := fun _ => True) (fun _ _ _ => trivial) (keepE rd4 hER))) ?_
   rintro _ wc ⟨cc, rfl, rc, hEc⟩
   exact qz ⟨hEc, cc, rfl, evtR.mono (fun _ _ _ => trivial) rc⟩
  ·refine wl_gyes rfl (hk.pe 9 []) ?_
   exact wl_loadA (by decide) ag42 (hk.pi 1) (hat11.ext hER).at_ (wishR.len rd4) qz
  ·refine wl_gyes rfl (hk.pe 9 []) ?_
   refine wl_builtS (ps := []) (by decide) bld44 rfl rfl ?_
   exact qz ⟨Chg.refl _ _, _, (rfl : _ = Value.agg (anC ans0 none 0 none 0).toArray), ans0_rd j0⟩
  ·refine wl_gyes rfl (hk.pe 9 []) ?_
   have e17 := hk.pe 12 []
   obtain ⟨v18, e18, c18, rfl, r18⟩ := hk.pp 13 []
   refine Cl_ (xs := [.tmp 17, .tmp 18]) (by kernel_rfl) (by simp only [evs, ev, e17, e18]; first | done | rfl) (ldone_ok (wishR.mono (S' := fun _ => True) (fun _ _ _ => trivial) (keepE rd4 hER)) r18) ?_
   rintro _ wc ⟨cc, rfl, rc, hEc⟩
   exact qz ⟨hEc, cc, rfl, evtR.mono (fun _ _ _ => trivial) rc⟩
  ·refine wl_gyes rfl (hk.pe 9 []) ?_
   obtain ⟨v16, e16, c16, rfl, r16⟩ := hk.pp 11 []
   obtain ⟨v19, e19, c19, rfl, r19⟩ := hk.pp 14 []
   refine wl_bsliceR (r := evtR) (S := fun _ => True) (xs := [.tmp 16, .tmp 19]) (css := [c16, c19]) (l := [(callE (wrW 31 1 3 7)), (doneE (wrW 31 1 3 7) ans0)]) (by decide) sl24 rfl (by simp only [evs, ev, e16, e19, List.map_cons, List.map_nil]) (rfc r16 (rfc r19 (RF.nil _ _ _))) rfl (by simp) leB_ ?_
   rintro g wc _ gs hEc
   exact qz ⟨hEc, some ⟨g, 0, none⟩, _, rfl, gs.wid (fun _ _ => trivial)⟩
  ·refine wl_gyes rfl (hk.pe 9 []) ?_
   obtain ⟨v20, e20, A20, c20, rfl, r20⟩ := hk.pp 15 []
   refine Cl_ (xs := [.const (.int .i64 10), .const (.int .i64 1), .tmp 20]) (by kernel_rfl) (by simp only [evs, ev, e20]; first | done | rfl) (lfind_yes r20 works_ok_f2) ?_
   rintro _ wc ⟨rfl, hEc⟩
   exact qz ⟨hEc, rfl⟩
  ·have ea := hk.pe 9 []
   have eb := hk.pe 16 []
   exact aPt (by decide) ea rfl eb qz
  ·have ea := hk.pe 17 []
   exact dm ea
  ·refine wl_gyes rfl (hk.pe 18 []) ?_
   exact wl_loadA (by decide) ag42 (hk.pi 1) (hat11.ext hER).at_ (wishR.len rd4) qz
  ·refine wl_gyes rfl (hk.pe 18 []) ?_
   have e24 := hk.pe 19 []
   refine Cl_ (xs := [.const (.int .i64 5), .const (.int .i64 1), .const (.int .u8 1), .tmp 24]) (by kernel_rfl) (by simp only [evs, ev, e24]; first | done | rfl) (lrun_ok (a := 5) (s := 1) (b := 1) (by unfold i64; omega) j1 (wishR.mono (S' := fun _ => True) (fun _ _ _ => trivial) (keepE rd4 hER))) ?_
   rintro _ wc ⟨cc, rfl, rc, hEc⟩
   exact qz ⟨hEc, cc, rfl, evtR.mono (fun _ _ _ => trivial) rc⟩
  ·refine wl_gyes rfl (hk.pe 18 []) ?_
   exact wl_loadA (by decide) ag42 (hk.pi 1) (hat11.ext hER).at_ (wishR.len rd4) qz
  ·refine wl_gyes rfl (hk.pe 18 []) ?_
   have e26 := hk.pe 21 []
   refine Cl_ (xs := [.const (.int .i64 6), .const (.int .i64 1), .const (.int .u8 2), .tmp 26]) (by kernel_rfl) (by simp only [evs, ev, e26]; first | done | rfl) (lrun_ok (a := 6) (s := 1) (b := 2) (by unfold i64; omega) j1 (wishR.mono (S' := fun _ => True) (fun _ _ _ => trivial) (keepE rd4 hER))) ?_
   rintro _ wc ⟨cc, rfl, rc, hEc⟩
   exact qz ⟨hEc, cc, rfl, evtR.mono (fun _ _ _ => trivial) rc⟩
  ·refine wl_gyes rfl (hk.pe 18 []) ?_
   obtain ⟨v25, e25, c25, rfl, r25⟩ := hk.pp 20 []
   obtain ⟨v27, e27, c27, rfl, r27⟩ := hk.pp 22 []
   refine wl_bsliceR (r := evtR) (S := fun _ => True) (xs := [.tmp 25, .tmp 27]) (css := [c25, c27]) (l := [(runE 5 1 1 (wrW 31 1 3 7)), (runE 6 1 2 (wrW 31 1 3 7))]) (by decide) sl24 rfl (by simp only [evs, ev, e25, e27, List.map_cons, List.map_nil]) (rfc r25 (rfc r27 (RF.nil _ _ _))) rfl (by simp) leB_ ?_
   rintro g wc _ gs hEc
   exact qz ⟨hEc, some ⟨g, 0, none⟩, _, rfl, gs.wid (fun _ _ => trivial)⟩
  ·refine wl_gyes rfl (hk.pe 18 []) ?_
   obtain ⟨v28, e28, A28, c28, rfl, r28⟩ := hk.pp 23 []
   refine Cl_ (xs := [.const (.int .i64 4), .const (.int .i64 1), .tmp 28]) (by kernel_rfl) (by simp only [evs, ev, e28]; first | done | rfl) (lfind_yes r28 works_ok_f3) ?_
   rintro _ wc ⟨rfl, hEc⟩
   exact qz ⟨hEc, rfl⟩
  ·have ea := hk.pe 18 []
   have eb := hk.pe 24 []
   exact aPt (by decide) ea rfl eb qz
  ·have ea := hk.pe 25 []
   exact dm ea
  ·refine wl_gyes rfl (hk.pe 26 []) ?_
   exact wl_loadA (by decide) ag46 (hk.pi 2) (hat10.ext hER).at_ (evtR.len rd8) qz
  ·refine wl_gyes rfl (hk.pe 26 []) ?_
   refine Cl_ (xs := [.const (.int .i64 7), .const (.int .i64 9), .const (.int .i64 1), .const (.int .i64 0), .const (.int .u8 9)]) (by kernel_rfl) rfl (lnode_ok (S := fun _ => True) (k := 7) (a := 9) (ep := 1) (s := 0) (b := 9) (by unfold i64; omega) (by unfold i64; omega) j1 j0) ?_
   rintro _ wc ⟨cc, rfl, rc, hEc⟩
   exact qz ⟨hEc, cc, rfl, evtR.mono (fun _ _ _ => trivial) rc⟩
  ·refine wl_gyes rfl (hk.pe 26 []) ?_
   have e32 := hk.pe 27 []
   obtain ⟨v33, e33, c33, rfl, r33⟩ := hk.pp 28 []
   refine wl_bsliceR (r := evtR) (S := fun _ => True) (xs := [.tmp 32, .tmp 33]) (css := [q10, c33]) (l := [(nodeE 6 5 0 4 9), (nodeE 7 9 1 0 9)]) (by decide) sl24 rfl (by simp only [evs, ev, e32, e33, List.map_cons, List.map_nil]) (rfc (evtR.mono (fun _ _ _ => trivial) (keepE rd8 hER)) (rfc r33 (RF.nil _ _ _))) rfl (by simp) leB_ ?_
   rintro g wc _ gs hEc
   exact qz ⟨hEc, some ⟨g, 0, none⟩, _, rfl, gs.wid (fun _ _ => trivial)⟩
  ·refine wl_gyes rfl (hk.pe 26 []) ?_
   obtain ⟨v34, e34, A34, c34, rfl, r34⟩ := hk.pp 29 []
   refine Cl_ (xs := [.const (.int .i64 1), .const (.int .i64 1), .tmp 34]) (by kernel_rfl) (by simp only [evs, ev, e34]; first | done | rfl) (lfind_yes r34 works_ok_f4) ?_
   rintro _ wc ⟨rfl, hEc⟩
   exact qz ⟨hEc, rfl⟩
  ·have ea := hk.pe 26 []
   have eb := hk.pe 30 []
   exact aPt (by decide) ea rfl eb qz
  ·have ea := hk.pe 31 []
   exact dm ea
  ·refine wl_gyes rfl (hk.pe 32 []) ?_
   exact wl_loadA (by decide) ag46 (hk.pi 2) (hat10.ext hER).at_ (evtR.len rd8) qz
  ·refine wl_gyes rfl (hk.pe 32 []) ?_
   exact wl_loadA (by decide) ag42 (hk.pi 1) (hat11.ext hER).at_ (wishR.len rd4) qz
  ·refine wl_gyes rfl (hk.pe 32 []) ?_
   have e39 := hk.pe 34 []
   refine Cl_ (xs := [.const (.int .i64 6), .const (.int .i64 5), .const (.int .u8 1), .tmp 39]) (by kernel_rfl) (by simp only [evs, ev, e39]; first | done | rfl) (lrun_ok (a := 6) (s := 5) (b := 1) (by unfold i64; omega) (by unfold i64; omega) (wishR.mono (S' := fun _ => True) (fun _ _ _ => trivial) (keepE rd4 hER))) ?_
   rintro _ wc ⟨cc, rfl, rc, hEc⟩
   exact qz ⟨hEc, cc, rfl, evtR.mono (fun _ _ _ => trivial) rc⟩
  ·refine wl_gyes rfl (hk.pe 32 []) ?_
   have e38 := hk.pe 33 []
   obtain ⟨v40, e40, c40, rfl, r40⟩ := hk.pp 35 []
   refine wl_bsliceR (r := evtR) (S := fun _ => True) (xs := [.tmp 38, .tmp 40]) (css := [q10, c40]) (l := [(nodeE 6 5 0 4 9), (runE 6 5 1 (wrW 31 1 3 7))]) (by decide) sl24 rfl (by simp only [evs, ev, e38, e40, List.map_cons, List.map_nil]) (rfc (evtR.mono (fun _ _ _ => trivial) (keepE rd8 hER)) (rfc r40 (RF.nil _ _ _))) rfl (by simp) leB_ ?_
   rintro g wc _ gs hEc
   exact qz ⟨hEc, some ⟨g, 0, none⟩, _, rfl, gs.wid (fun _ _ => trivial)⟩
  ·refine wl_gyes rfl (hk.pe 32 []) ?_
   obtain ⟨v41, e41, A41, c41, rfl, r41⟩ := hk.pp 36 []
   refine Cl_ (xs := [.const (.int .i64 6), .const (.int .i64 1), .tmp 41]) (by kernel_rfl) (by simp only [evs, ev, e41]; first | done | rfl) (lfind_yes r41 works_ok_f5) ?_
   rintro _ wc ⟨rfl, hEc⟩
   exact qz ⟨hEc, rfl⟩
  ·have ea := hk.pe 32 []
   have eb := hk.pe 37 []
   exact aPt (by decide) ea rfl eb qz
  ·have ea := hk.pe 38 []
   exact wl_assign (by decide) ea qz
 intro F w12 E13 hini hdo
 have e0 := dq hdo 39
 refine wk_drop [(2, pt g7 0), (1, pt g3 0), (0, .bool true)] ⟨di hini 2, di hini 1, e0, trivial⟩ ?_
 clear hini hdo e0
 replace hp := hp.ext E13
 replace hat10 := hat10.ext E13
 replace rd8 := keepE rd8 E13
 replace hat11 := hat11.ext E13
 replace rd4 := keepE rd4 E13
 refine so ?_
 exact Pt ⟨_, rfl, rfl, hp.chg⟩
theorem broken_app {p : Pln} {pre suf : List Evt} {j : Nat} (h : j < pre.length) : broken p (pre ++ suf) j = broken p pre j := by
 have := broken_cut (p := p) (l := pre ++ suf) (n := pre.length) (i := j) h
 rw [List.take_left' rfl] at this
 exact this.symm
theorem NB.push {pre : List Evt} {e : Evt} (h : NB pre) (hb : broken planP (pre ++ [e]) pre.length = 0) : NB (pre ++ [e]) := fun j hj => by
 by_cases e1 : j < pre.length
 ·rw [broken_app e1]; exact h j e1
 ·rw [List.length_append, List.length_singleton] at hj
  obtain rfl : j = pre.length := by omega
  exact hb
theorem find_at {pre suf : List Evt} {e : Evt} {r : Int} (h : NB pre) (hl : (pre ++ e :: suf).length ≤ 32768) (hb : broken planP (pre ++ [e]) pre.length = r) (hr : r ≠ 0) : findS planP (pre ++ e :: suf) = (r, (pre.length : Int), 0) := by
 have hk : pre.length < (pre ++ e :: suf).length := by simp
 have e1 : broken planP (pre ++ e :: suf) pre.length = r := by
  rw [show pre ++ e :: suf = (pre ++ [e]) ++ suf from by simp, broken_app (by simp), hb]
 rw [findS_of (by decide) hl, firstB_at (p := planP) (l := pre ++ e :: suf) (n := (pre ++ e :: suf).length) (j := 0) (k := pre.length) (fun i _ hi => by rw [broken_app (by omega)]; exact h i (by omega)) hk (by rw [Nat.zero_add, e1]; exact hr), Nat.zero_add, e1]
theorem broken_is {pre : List Evt} {e : Evt} {r : Int} (h : NB pre) (ha : firstA (anJ planP (pre ++ [e]) pre.length (valOf pre) e) 0 10 = r) : broken planP (pre ++ [e]) pre.length = r := by
 have h2 := plain_ok (p := planP) (l := pre ++ [e]) (i := pre.length) (by simp) (fun j hj => by rw [broken_app hj]; exact h j hj)
 rw [List.take_left' rfl, getD_mid (suf := []), ha] at h2
 exact h2.symm
theorem kp_run {J : Int → Job} {ran : Int → Int → Bool} {cw : Int → Cal} {v : JVal} {e : Evt} (hv : Kp J ran cw v) (h : NodeE e) (hk : e.kind = 3) (hd : e.dig = digS e.seq) (hj : J e.seq = ⟨e.wish, e.ans⟩) (hr : ran e.seq e.a = false) :
  Kp J (fun s n => if s = e.seq ∧ n = e.a then true else ran s n) cw (valF v e) := by
 have e1 : valF v e = { v with time := e.time, down := fun n => if n = e.a then false else v.down n, bat := up3 v.bat e.group e.epoch e.seq e.dig, jobs := upj v e } := by
  unfold valF
  rw [(st_node h.kind).2.2.2, st_run5 hk]
 rw [e1]
 refine ⟨h.time, fun a => ?_, fun s d hb => ?_, hv.mrk, fun s n => ?_, hv.sld, fun a => hv.cal a⟩
 ·dsimp only
  split
  ·rfl
  ·exact hv.down a
 ·dsimp only [up3] at hb
  split at hb
  ·rename_i hc
   cases hb
   rw [hc.2.2]; exact hd
  ·exact hv.bat s d hb
 ·dsimp only [upj]
  by_cases hc : s = e.seq ∧ n = e.a
  ·rw [if_pos ⟨h.group.symm, h.epoch.symm, hc.1, hc.2⟩, if_pos hc, hv.jobs, hc.1, hc.2, hr, hj]
   rfl
  ·rw [if_neg (fun x => hc ⟨x.2.2.1, x.2.2.2⟩), if_neg hc]
   exact hv.jobs s n
theorem an_node {J : Int → Job} {ran : Int → Int → Bool} {cw : Int → Cal} {v : JVal} {e : Evt} {l : List Evt} {i : Nat} (hv : Kp J ran cw v) (h : NodeE e) : anJ planP l i v e 0 = 0 ∧ anJ planP l i v e 1 = 0 ∧ anJ planP l i v e 2 = 0 ∧ anJ planP l i v e 5 = 0 ∧ anJ planP l i v e 6 = 0 ∧ anJ planP l i v e 7 = 0 ∧ anJ planP l i v e 8 = 0 ∧ anJ planP l i v e 9 = 0 := by
 have hk := h.kind
 have hs5 : (stJ v e 5).sld = v.sld := by
  rcases hk with hk | hk
  ·rw [st_run5 hk]
  ·rw [st_mark5 hk]
 refine ⟨if_neg (V1_node hv h), if_neg (V2_node hv h), if_neg (R3_node h), if_neg (fun x => ?_), if_neg (fun x => by have := x.1; omega), if_neg (fun x => by have := x.1; omega), ?_, if_neg (fun x => by have := x.1.1; omega)⟩
 ·have := x.2
  rw [hs5, hv.sld] at this
  cases this
 ·exact (if_neg (fun x => by have := x.1; omega)).trans (if_neg (fun x => by have := x.1.1; omega))
theorem nb_run {J : Int → Job} {ran : Int → Int → Bool} {cw : Int → Cal} {pre : List Evt} {e : Evt} (hn : NB pre) (hv : Kp J ran cw (valOf pre)) (h : NodeE e) (hk : e.kind = 3) (hd : e.dig = digS e.seq) (hj : J e.seq = ⟨e.wish, e.ans⟩) (hr : ran e.seq e.a = false) : NB (pre ++ [e]) := by
 obtain ⟨a0, a1, a2, a5, a6, a7, a8, a9⟩ := an_node (l := pre ++ [e]) (i := pre.length) hv h
 exact hn.push (broken_is hn (ten0 a0 a1 a2 (if_neg (V4_run hv h hk hd)) (if_neg (V5_run hv h hk hj hr)) a5 a6 a7 a8 a9))
theorem nb_mark {J : Int → Job} {ran : Int → Int → Bool} {cw : Int → Cal} {pre : List Evt} {e : Evt} (hn : NB pre) (hv : Kp J ran cw (valOf pre)) (h : NodeE e) (hk : e.kind = 4) (hd : e.dig = digM e.seq) : NB (pre ++ [e]) := by
 obtain ⟨a0, a1, a2, a5, a6, a7, a8, a9⟩ := an_node (l := pre ++ [e]) (i := pre.length) hv h
 exact hn.push (broken_is hn (ten0 a0 a1 a2 (if_neg (V4_mark hv h hk hd)) (if_neg (fun x => by have := x.1; omega)) a5 a6 a7 a8 a9))
theorem nb_call {J : Int → Job} {ran : Int → Int → Bool} {cw : Int → Cal} {pre : List Evt} {e : Evt} (hn : NB pre) (hv : Kp J ran cw (valOf pre)) (h : CliE e) (hk : e.kind = 1) (ho : (cw e.a).opn = false) (hw : askK e.wish) (hc : e.wish.client = e.a) (hs : e.wish.stamp = (cw e.a).many + 1) : NB (pre ++ [e]) := by
 obtain ⟨a0, a1, a2, a3, a4, a5, a6⟩ := an_cli (l := pre ++ [e]) (i := pre.length) hv h
 refine hn.push (broken_is hn (ten0 a0 a1 a2 a3 a4 a5 a6 (if_neg (fun x => ?_)) ((if_neg (fun x => by have := x.1; omega)).trans (if_neg (fun x => by have := x.1.1; omega))) (if_neg (fun x => by have := x.1.1; omega))))
 obtain ⟨_, x⟩ := x
 rw [(st_cli h.kind).2.2.2.2, hv.cal, ho] at x
 rcases x with x | x | x | x
 ·cases x
 ·exact x hw
 ·exact x hc
 ·exact x hs
theorem nb_done {J : Int → Job} {ran : Int → Int → Bool} {cw : Int → Cal} {pre : List Evt} {e : Evt} (hn : NB pre) (hv : Kp J ran cw (valOf pre)) (h : CliE e) (hk : e.kind = 2) (ho : (cw e.a).opn = true) (hw : (cw e.a).wish = e.wish) (h10 : e.wish.kind = 2 → pre.any (q10 e) = true) (h11 : ¬ P11 planP (pre ++ [e]) e) : NB (pre ++ [e]) := by
 obtain ⟨a0, a1, a2, a3, a4, a5, a6⟩ := an_cli (l := pre ++ [e]) (i := pre.length) hv h
 have h8 : stJ (valOf pre) e 8 = valOf pre := by show u8 (stJ (valOf pre) e 7) e = _; rw [(st_cli h.kind).2.2.2.2, u8, if_neg (by omega)]
 refine hn.push (broken_is hn (ten0 a0 a1 a2 a3 a4 a5 a6 (if_neg (fun x => by have := x.1; omega)) ((if_neg (fun x => ?_)).trans (if_neg (fun x => ?_))) (if_neg (fun x => h11 ?_))))
 ·obtain ⟨_, x⟩ := x
  rw [h8, hv.cal, ho, hw] at x
  rcases x with x | x
  ·cases x
  ·exact x rfl
 ·rw [List.take_left' rfl] at x
  have := h10 x.2.1
  rw [x.2.2] at this
  cases this
 ·rwa [List.take_of_length_le (by simp)] at x
theorem hist_node {o : Wsh} {s : HSt} {e : Evt} (hk : e.kind = 3 ∨ e.kind = 4) (hc : e.wish.client ≠ 33) : histF planP o s e = tick s := by
 unfold histF
 rw [if_neg (by omega), if_neg (by omega), if_neg (fun x => bad_no hc x.1.2.2.2)]
 rfl
theorem hist_other {o : Wsh} {s : HSt} {e : Evt} (hk : e.kind = 1) (hc : ¬ oursW e.wish o) : histF planP o s e = tick s := by
 unfold histF
 rw [if_neg (fun x => hc x.2), if_neg (by omega), if_neg (fun x => by have := x.1.1; omega)]
 rfl
theorem HC.done {o : Wsh} {s : HSt} {e : Evt} {val : List UInt8} {m : Nat} (h : HC s val m) (hk : e.kind = 2) : HC (histF planP o s e) val m := by
 have e1 : histF planP o s e = ⟨s.out, s.forged, fun a => if a = e.a then none else s.opn a, s.seen, s.n + 1⟩ := by
  unfold histF
  rw [if_neg (by omega), if_pos hk, h.opn]
 rw [e1]
 have ht := h.tick
 refine ⟨h.fg, fun a => ?_, h.sq, h.vl, ht.be, h.srt, h.len⟩
 dsimp only
 split
 ·rfl
 ·exact h.opn a
def tickN : Nat → HSt → HSt
 | 0, H => H
 | n + 1, H => tickN n (tick H)
theorem HC.tickN : ∀ (n : Nat) {H : HSt} {val : List UInt8} {m : Nat}, HC H val m → HC (tickN n H) val m
 | 0, _, _, _, h => h
 | n + 1, _, _, _, h => HC.tickN n h.tick
theorem HO.tickN : ∀ (n : Nat) {H : HSt} {a : Int} {wr : Bool} {d val : List UInt8} {m : Nat}, HO H a wr d val m → HO (tickN n H) a wr d val m
 | 0, _, _, _, _, _, _, h => h
 | n + 1, _, _, _, _, _, _, h => HO.tickN n h.tick
theorem Wd.run {J : Int → Job} {ran : Int → Int → Bool} {cw : Int → Cal} {pre : List Evt} {e : Evt} (h : Wd J ran cw pre) (g : GoodRun J e) (hr : ran e.seq e.a = false) : Wd J (ranE ran e) cw (pre ++ [e]) :=
 ⟨nb_run h.nb h.kp g.node g.kind g.dig g.job hr, by rw [valOf_push]; exact kp_run h.kp g.node g.kind g.dig g.job hr⟩
theorem Wd.runs {J : Int → Job} {cw : Int → Cal} : ∀ (es : List Evt) {ran : Int → Int → Bool} {pre : List Evt}, Wd J ran cw pre → (∀ e ∈ es, GoodRun J e ∧ ran e.seq e.a = false) → es.Pairwise (fun x y => ¬ sameE x y) → Wd J (ranL ran es) cw (pre ++ es)
 | [], ran, pre, h, _, _ => by rw [List.append_nil]; exact h
 | e :: t, ran, pre, h, g, hp => by
  rw [show pre ++ e :: t = (pre ++ [e]) ++ t from by simp]
  have hp2 := List.pairwise_cons.1 hp
  refine Wd.runs t (h.run (g e List.mem_cons_self).1 (g e List.mem_cons_self).2) (fun x hx => ⟨(g x (List.mem_cons_of_mem _ hx)).1, ?_⟩) hp2.2
  rw [ranE, if_neg (fun y => hp2.1 x hx ⟨y.1.symm, y.2.symm⟩)]
  exact (g x (List.mem_cons_of_mem _ hx)).2
theorem hist_nodes {o : Wsh} : ∀ (es : List Evt) (pre : List Evt), (∀ e ∈ es, (e.kind = 3 ∨ e.kind = 4) ∧ e.wish.client ≠ 33) → histT planP o (pre ++ es) = tickN es.length (histT planP o pre)
 | [], pre, _ => by rw [List.append_nil]; rfl
 | e :: t, pre, h => by
  rw [show pre ++ e :: t = (pre ++ [e]) ++ t from by simp, hist_nodes t (pre ++ [e]) (fun x hx => h x (List.mem_cons_of_mem _ hx)), histT_push, hist_node (h e List.mem_cons_self).1 (h e List.mem_cons_self).2]
  rfl
theorem Wd.marks {J : Int → Job} {ran : Int → Int → Bool} {cw : Int → Cal} : ∀ (es : List Evt) {pre : List Evt}, Wd J ran cw pre → (∀ e ∈ es, NodeE e ∧ e.kind = 4 ∧ e.dig = digM e.seq) → Wd J ran cw (pre ++ es)
 | [], pre, h, _ => by rw [List.append_nil]; exact h
 | e :: t, pre, h, g => by
  rw [show pre ++ e :: t = (pre ++ [e]) ++ t from by simp]
  obtain ⟨g1, g2, g3⟩ := g e List.mem_cons_self
  exact Wd.marks t (pre := pre ++ [e]) ⟨nb_mark h.nb h.kp g1 g2 g3, by rw [valOf_push]; exact kp_mark h.kp g1 g2 g3⟩ (fun x hx => g x (List.mem_cons_of_mem _ hx))
def runsO (i : Nat) (x : Int) (s : SSt) : List Evt := fourM.map fun m => runA m i (wishO i x s) (ansO x s)
def midO (i : Nat) (x : Int) (s : SSt) : List Evt := s.out ++ [callE (wishO i x s)] ++ (runsO i x s).filter (nowQ (stK x)) ++ [doneE (wishO i x s) (ansO x s)]
def lateO (i : Nat) (x : Int) (s : SSt) : List Evt := s.late ++ (runsO i x s).filter (fun e => !nowQ (stK x) e)
def stepO (i : Nat) (x : Int) (s : SSt) : SSt :=
  ⟨if i % 4 = 3 then midO i x s ++ lateO i x s ++ fourM.map (markA i) else midO i x s, if i % 4 = 3 then [] else lateO i x s,
   fun b => if stW x ∧ b = stB x then UInt8.ofNat (i + 1) else s.bl b, fun n => if n = stN x then s.cl n + 1 else s.cl n⟩
def storyT (l : List Int) : Nat → SSt
 | 0 => sto0
 | i + 1 => stepO i (l.getD i 0) (storyT l i)
def storyS (l : List Int) : List Evt := (storyT l (min l.length 12)).out ++ (storyT l (min l.length 12)).late
theorem inv0 : Inv 0 sto0 := ⟨⟨fun _ => job0, fun _ _ => false, fun _ => cal0, ⟨fun j hj => absurd hj (Nat.not_lt_zero _), kp0 _⟩, fun _ _ => ⟨rfl, rfl⟩, fun _ h => (by cases h), List.Pairwise.nil, fun _ _ _ => rfl⟩, fun _ _ => hc0 0, Nat.zero_le _⟩
theorem wish_f (i : Nat) (x : Int) (s : SSt) : (wishO i x s).client = 31 + stN x ∧ (wishO i x s).stamp = s.cl (stN x) + 1 ∧ (wishO i x s).group = 1 ∧ (wishO i x s).block = stB x ∧ (wishO i x s).kind = if stW x then 2 else 1 := by
 unfold wishO
 cases stW x
 ·exact ⟨rfl, rfl, rfl, rfl, rfl⟩
 ·exact ⟨rfl, rfl, rfl, rfl, rfl⟩
theorem mem_runs {i : Nat} {x : Int} {s : SSt} {e : Evt} (h : e ∈ runsO i x s) : ∃ m, 5 ≤ m ∧ m ≤ 8 ∧ e = runA m i (wishO i x s) (ansO x s) := by
 obtain ⟨m, hm, rfl⟩ := List.mem_map.1 h
 refine ⟨m, ?_, ?_, rfl⟩ <;> (simp only [fourM, List.mem_cons, List.not_mem_nil, or_false] at hm; omega)
theorem good_runs {i : Nat} {x : Int} {s : SSt} {e : Evt} {J : Int → Job} (hi : i < 12) (hJ : J (1 + (i : Int)) = ⟨wishO i x s, ansO x s⟩) (h : e ∈ runsO i x s) : GoodRun J e ∧ e.seq = 1 + (i : Int) := by
 obtain ⟨m, h1, h2, rfl⟩ := mem_runs h
 refine ⟨⟨⟨.inl rfl, rfl, ⟨h1, h2⟩, rfl, rfl, ?_⟩, rfl, ?_, hJ, ?_⟩, rfl⟩
 ·show 1 ≤ 1 + (i : Int) ∧ 1 + (i : Int) ≤ 12
  omega
 ·show dig1 (UInt8.ofNat i) = digS (1 + (i : Int))
  rw [digS, show (1 + (i : Int)).toNat - 1 = i from by omega]
 ·show (wishO i x s).client ≠ 33
  rw [(wish_f i x s).1]
  have := stN_b x
  omega
theorem runs_pw (i : Nat) (x : Int) (s : SSt) : (runsO i x s).Pairwise (fun x y => ¬ sameE x y) := by
 unfold runsO
 rw [List.pairwise_map]
 have h : fourM.Pairwise (fun a b => a ≠ b) := by decide
 exact h.imp (fun {a b} hab hs => hab hs.2)
theorem len_runs (i : Nat) (x : Int) (s : SSt) (q : Evt → Bool) : ((runsO i x s).filter q).length + ((runsO i x s).filter (fun e => !q e)).length = 4 := by
 have h : ∀ l : List Evt, (l.filter q).length + (l.filter (fun e => !q e)).length = l.length := by
  intro l
  induction l with
  | nil => rfl
  | cons e t ih =>
   cases hq : q e
   ·rw [List.filter_cons_of_neg (by rw [hq]; decide), List.filter_cons_of_pos (by rw [hq]; rfl), List.length_cons, List.length_cons]; omega
   ·rw [List.filter_cons_of_pos hq, List.filter_cons_of_neg (by rw [hq]; decide), List.length_cons, List.length_cons]; omega
 rw [h]; rfl
structure Mid (i : Nat) (x : Int) (s : SSt) : Prop where
 ex : ∃ J ran cw, Wd J ran cw (midO i x s) ∧ (∀ n, n = 0 ∨ n = 1 → (cw (31 + n)).opn = false ∧ (cw (31 + n)).many = (stepO i x s).cl n) ∧ (∀ e ∈ lateO i x s, GoodRun J e ∧ ran e.seq e.a = false ∧ e.seq ≤ ((i + 1 : Nat) : Int)) ∧ (lateO i x s).Pairwise (fun x y => ¬ sameE x y) ∧ (∀ t n, ((i + 1 : Nat) : Int) < t → ran t n = false)
 hist : ∀ b, b = 0 ∨ b = 1 → HC (histT planP (blkW b) (midO i x s)) (dat ((stepO i x s).bl b)) (i + 1)
set_option maxHeartbeats 4000000 in
theorem mid_step {i : Nat} {x : Int} {s : SSt} (hi : i < 12) (h : Inv i s) : Mid i x s := by
 obtain ⟨⟨J0, ran, cw, hW, hcw, hlate, hpl, hfr⟩, hH, hlen⟩ := h
 obtain ⟨f1, f2, f3, f4, f5⟩ := wish_f i x s
 have hn := stN_b x
 have hcl : 31 ≤ (wishO i x s).client ∧ (wishO i x s).client ≤ 32 := by omega
 obtain ⟨hc1, hc2⟩ := hcw (stN x) hn
 obtain ⟨J, hJ⟩ : ∃ J : Int → Job, J = fun t => if t = 1 + (i : Int) then ⟨wishO i x s, ansO x s⟩ else J0 t := ⟨_, rfl⟩
 have hJi : J (1 + (i : Int)) = ⟨wishO i x s, ansO x s⟩ := by rw [hJ]; exact if_pos rfl
 have hWJ : Wd J ran cw s.out := ⟨hW.nb, by rw [hJ]; exact hW.kp.upd (fun m => hfr _ _ (by omega))⟩
 have hlJ : ∀ e ∈ s.late, GoodRun J e ∧ ran e.seq e.a = false ∧ e.seq ≤ i := fun e he => by
  obtain ⟨g, h1, h2⟩ := hlate e he
  refine ⟨⟨g.node, g.kind, g.dig, ?_, g.cli⟩, h1, h2⟩
  rw [hJ]
  dsimp only
  rw [if_neg (by omega)]
  exact g.job
 
 have k1 : askK (wishO i x s) := by
  unfold askK
  rw [f5]
  cases stW x
  ·exact .inl rfl
  ·exact .inr (.inl rfl)
 have W1 : Wd J ran (cwCall cw (callE (wishO i x s))) (s.out ++ [callE (wishO i x s)]) := by
  refine ⟨nb_call hWJ.nb hWJ.kp (call_cli _ hcl) rfl ?_ k1 rfl ?_, by rw [valOf_push]; exact kp_call hWJ.kp (call_cli _ hcl) rfl⟩
  ·show (cw (wishO i x s).client).opn = false
   rw [f1]; exact hc1
  ·show (wishO i x s).stamp = (cw (wishO i x s).client).many + 1
   rw [f1, f2, hc2]
 
 have hon : ∀ e ∈ (runsO i x s).filter (nowQ (stK x)), GoodRun J e ∧ ran e.seq e.a = false := fun e he => by
  obtain ⟨g, hs⟩ := good_runs (J := J) hi hJi (List.mem_filter.1 he).1
  exact ⟨g, hfr _ _ (by omega)⟩
 have W2 := Wd.runs _ W1 hon ((runs_pw i x s).filter _)
 
 have hcwi : cwCall cw (callE (wishO i x s)) (wishO i x s).client = ⟨wishO i x s, true, (cw (wishO i x s).client).many + 1⟩ := if_pos rfl
 have h5 : runA 5 i (wishO i x s) (ansO x s) ∈ (runsO i x s).filter (nowQ (stK x)) := by
  refine List.mem_filter.2 ⟨List.mem_map.2 ⟨5, by decide, rfl⟩, ?_⟩
  show (bitK (stK x) 5 || decide ((5 : Int) = 5)) = true
  rw [decide_eq_true rfl, Bool.or_true]
 have hh : ∀ b, b = 0 ∨ b = 1 → HC (histT planP (blkW b) (midO i x s)) (dat ((stepO i x s).bl b)) (i + 1) := fun b hb => by
  have hb0 := hH b hb
  unfold midO
  rw [histT_push, hist_nodes _ _ (fun e he => ⟨.inl (hon e he).1.kind, (hon e he).1.cli⟩), histT_push]
  by_cases e : stB x = b
  ·have ho : oursW (callE (wishO i x s)).wish (blkW b) := ⟨by have := k1; unfold askK at this; show (wishO i x s).kind = 1 ∨ (wishO i x s).kind = 2; rw [f5]; cases stW x; exact .inl rfl; exact .inr rfl, f3, by show (wishO i x s).block = b; rw [f4, e]⟩
   have h1 := (HC.call (e := callE (wishO i x s)) hb0 rfl ho).tickN ((runsO i x s).filter (nowQ (stK x))).length
   have h2 := HO.done (o := blkW b) (e := doneE (wishO i x s) (ansO x s)) h1 rfl (by show (ansO x s).err = 0; unfold ansO; cases stW x <;> rfl) (fun hw => ?_)
   ·refine (show HC _ _ _ from ?_)
    have e3 : (if decide ((callE (wishO i x s)).wish.kind = 2) then (callE (wishO i x s)).wish.data else dat (s.bl b)) = dat ((stepO i x s).bl b) := by
     show (if decide ((wishO i x s).kind = 2) then (wishO i x s).data else dat (s.bl b)) = dat (if stW x ∧ b = stB x then UInt8.ofNat (i + 1) else s.bl b)
     rw [f5]
     cases hw : stW x
     ·rw [if_neg (by decide), if_neg (fun y => by cases y.1)]
     ·rw [if_pos (by decide), if_pos ⟨rfl, e.symm⟩]
      unfold wishO
      rw [hw, if_pos rfl]
      rfl
    rw [← e3]
    exact h2
   ·show (ansO x s).data = dat (s.bl b)
    have hw2 : stW x = false := by
     cases hw3 : stW x
     ·rfl
     ·have hw4 : decide ((wishO i x s).kind = 2) = false := hw
      rw [f5, hw3] at hw4
      cases hw4
    unfold ansO
    rw [hw2, if_neg (by decide), e]
  ·have ho : ¬ oursW (callE (wishO i x s)).wish (blkW b) := fun y => e (by have := y.2.2; rw [show (callE (wishO i x s)).wish.block = stB x from f4] at this; exact this)
   rw [hist_other rfl ho]
   have h1 := HC.done (o := blkW b) (e := doneE (wishO i x s) (ansO x s)) (hb0.tick.tickN ((runsO i x s).filter (nowQ (stK x))).length) rfl
   have e3 : (stepO i x s).bl b = s.bl b := if_neg (fun y => e y.2.symm)
   rw [e3]
   exact h1.up (Nat.le_succ _)
 have hmid : Wd J (ranL ran ((runsO i x s).filter (nowQ (stK x)))) (cwDone (cwCall cw (callE (wishO i x s))) (doneE (wishO i x s) (ansO x s))) (midO i x s) := by
  refine ⟨nb_done W2.nb W2.kp (done_cli _ _ hcl) rfl ?_ ?_ (fun hk => ?_) (P11_no (b := stB x) (val := dat ((stepO i x s).bl (stB x))) (m := i + 1) f3 f4 (hh _ (stB_b x))), by unfold midO; rw [valOf_push]; exact kp_done W2.kp (done_cli _ _ hcl) rfl⟩
  ·show (cwCall cw (callE (wishO i x s)) (wishO i x s).client).opn = true
   rw [hcwi]
  ·show (cwCall cw (callE (wishO i x s)) (wishO i x s).client).wish = wishO i x s
   rw [hcwi]
  ·rw [List.any_eq_true]
   exact ⟨_, List.mem_append_right _ h5, decide_eq_true ⟨rfl, hk, rfl, rfl, rfl, rfl⟩⟩
 refine ⟨⟨J, _, _, hmid, fun n hn2 => ?_, fun e he => ?_, ?_, fun t n ht => ?_⟩, hh⟩
 ·have hd : cwDone (cwCall cw (callE (wishO i x s))) (doneE (wishO i x s) (ansO x s)) (31 + n) = if 31 + n = (wishO i x s).client then ⟨(cwCall cw (callE (wishO i x s)) (31 + n)).wish, false, (cwCall cw (callE (wishO i x s)) (31 + n)).many⟩ else cwCall cw (callE (wishO i x s)) (31 + n) := rfl
  have hc : cwCall cw (callE (wishO i x s)) (31 + n) = if 31 + n = (wishO i x s).client then ⟨wishO i x s, true, (cw (31 + n)).many + 1⟩ else cw (31 + n) := rfl
  have hcn := hcw n hn2
  have hs : (stepO i x s).cl n = if n = stN x then s.cl n + 1 else s.cl n := rfl
  rw [hd, hc, hs, f1]
  by_cases e : n = stN x
  ·rw [if_pos (by omega), if_pos (by omega), if_pos e, hcn.2]
   exact ⟨rfl, rfl⟩
  ·rw [if_neg (by omega), if_neg (by omega), if_neg e]
   exact hcn
 ·rcases List.mem_append.1 he with he | he
  ·obtain ⟨g, h1, h2⟩ := hlJ e he
   refine ⟨g, ranL_no _ _ _ _ h1 (fun y hy hs => ?_), by omega⟩
   have := (good_runs (J := J) hi hJi (List.mem_filter.1 hy).1).2
   omega
  ·obtain ⟨hm, hq⟩ := List.mem_filter.1 he
   obtain ⟨g, hs⟩ := good_runs (J := J) hi hJi hm
   refine ⟨g, ranL_no _ _ _ _ (hfr _ _ (by omega)) (fun y hy hs2 => ?_), by omega⟩
   have h2 := (List.mem_filter.1 hy).2
   unfold nowQ at h2 hq
   rw [← hs2.2] at h2
   rw [h2] at hq
   cases hq
 ·refine List.pairwise_append.2 ⟨hpl, (runs_pw i x s).filter _, fun a ha b hb hs => ?_⟩
  have h1 := (hlJ a ha).2.2
  have h2 := (good_runs (J := J) hi hJi (List.mem_filter.1 hb).1).2
  have := hs.1
  omega
 ·refine ranL_no _ _ _ _ (hfr _ _ (by omega)) (fun y hy hs => ?_)
  have := (good_runs (J := J) hi hJi (List.mem_filter.1 hy).1).2
  omega
set_option maxHeartbeats 4000000 in
theorem inv_step {i : Nat} {x : Int} {s : SSt} (hi : i < 12) (h : Inv i s) : Inv (i + 1) (stepO i x s) := by
 have hm := mid_step (x := x) hi h
 have hlen := h.len
 have hl4 := len_runs i x s (nowQ (stK x))
 have hmo : (midO i x s).length = s.out.length + ((runsO i x s).filter (nowQ (stK x))).length + 2 := by
  unfold midO
  simp only [List.length_append, List.length_singleton]
  omega
 have hlo : (lateO i x s).length = s.late.length + ((runsO i x s).filter (fun e => !nowQ (stK x) e)).length := by unfold lateO; rw [List.length_append]
 obtain ⟨⟨J, ran, cw, hW, hcw, hlate, hpl, hfr⟩, hH⟩ := hm
 by_cases h4 : i % 4 = 3
 ·have eo : (stepO i x s).out = midO i x s ++ lateO i x s ++ fourM.map (markA i) := if_pos h4
  have el : (stepO i x s).late = [] := if_pos h4
  have W1 := Wd.runs _ hW (fun e he => ⟨(hlate e he).1, (hlate e he).2.1⟩) hpl
  have W2 := Wd.marks (fourM.map (markA i)) W1 (fun e he => good_marks hi he)
  refine ⟨⟨J, _, cw, by rw [eo]; exact W2, hcw, by rw [el]; exact fun e he => (by cases he), by rw [el]; exact List.Pairwise.nil, fun t n ht => ranL_no _ _ _ _ (hfr t n ht) (fun e he hs => ?_)⟩, fun b hb => ?_, ?_⟩
  ·have := (hlate e he).2.2
   omega
  ·rw [eo, hist_nodes _ _ (fun e he => ⟨.inr (good_marks hi he).2.1, ?_⟩), hist_nodes _ _ (fun e he => ⟨.inl (hlate e he).1.kind, (hlate e he).1.cli⟩)]
   ·exact ((hH b hb).tickN _).tickN _
   ·obtain ⟨m, _, rfl⟩ := List.mem_map.1 he
    show (0 : Int) ≠ 33
    decide
  ·rw [eo, el, List.length_append, List.length_append, hmo, hlo]
   show _ + 4 + 0 ≤ _
   omega
 ·have eo : (stepO i x s).out = midO i x s := if_neg h4
  have el : (stepO i x s).late = lateO i x s := if_neg h4
  refine ⟨⟨J, ran, cw, by rw [eo]; exact hW, hcw, by rw [el]; exact hlate, by rw [el]; exact hpl, hfr⟩, fun b hb => by rw [eo]; exact hH b hb, ?_⟩
  rw [eo, el, hmo, hlo]
  omega
theorem inv_all (l : List Int) : ∀ i, i ≤ 12 → Inv i (storyT l i)
 | 0, _ => inv0
 | i + 1, h => inv_step (by omega) (inv_all l i (by omega))
theorem inv_end {i : Nat} {s : SSt} (h : Inv i s) : NB (s.out ++ s.late) := by
 obtain ⟨J, ran, cw, hW, _, hlate, hpl, _⟩ := h.ex
 exact (Wd.runs _ hW (fun e he => ⟨(hlate e he).1, (hlate e he).2.1⟩) hpl).nb
theorem wishO_d {i : Nat} {x : Int} {s : SSt} (hi : i < 12) : (wishO i x s).data ≠ dat 200 := by
 unfold wishO
 cases stW x
 ·exact dat_nil
 ·exact dat_ne (ofNat_ne (by omega))
theorem ste_call {i : Nat} {x : Int} {s : SSt} (hi : i < 12) : StE (callE (wishO i x s)) := ⟨show (1 : Int) ≤ 1 ∧ (1 : Int) ≤ 4 from by decide, fun h => absurd h (show ¬ ((1 : Int) = 3 ∨ (1 : Int) = 4) from by decide), wishO_d hi, fun h => absurd h (show ¬ (1 : Int) = 3 from by decide), fun h => absurd h (show ¬ (1 : Int) = 3 from by decide)⟩
theorem ste_done {i : Nat} {x : Int} {s : SSt} {a : Ans} (hi : i < 12) : StE (doneE (wishO i x s) a) := ⟨show (1 : Int) ≤ 2 ∧ (2 : Int) ≤ 4 from by decide, fun h => absurd h (show ¬ ((2 : Int) = 3 ∨ (2 : Int) = 4) from by decide), wishO_d hi, fun h => absurd h (show ¬ (2 : Int) = 3 from by decide), fun h => absurd h (show ¬ (2 : Int) = 3 from by decide)⟩
theorem ste_run {i : Nat} {x : Int} {s : SSt} {e : Evt} (hi : i < 12) (h : e ∈ runsO i x s) : StE e := by
 obtain ⟨m, h5, h8, rfl⟩ := mem_runs h
 exact ⟨show (1 : Int) ≤ 3 ∧ (3 : Int) ≤ 4 from by decide, fun _ => ⟨rfl, rfl, rfl⟩, wishO_d hi, fun _ => by rw [show (runA m i (wishO i x s) (ansO x s)).wish.block = stB x from (wish_f i x s).2.2.2.1]; exact stB_b x, fun _ => ⟨show (1 : Int) ≤ m by omega, h8⟩⟩
theorem ste_mid {i : Nat} {x : Int} {s : SSt} (hi : i < 12) (h1 : AllE s.out) : AllE (midO i x s) := by
 unfold midO
 refine ((h1.app ?_).app ?_).app ?_
 ·intro e he; rw [List.mem_singleton.1 he]; exact ste_call hi
 ·intro e he; exact ste_run hi (List.mem_filter.1 he).1
 ·intro e he; rw [List.mem_singleton.1 he]; exact ste_done hi
theorem ste_late {i : Nat} {x : Int} {s : SSt} (hi : i < 12) (h1 : AllE s.late) : AllE (lateO i x s) := by
 unfold lateO
 exact h1.app (fun e he => ste_run hi (List.mem_filter.1 he).1)
theorem ste_all (l : List Int) : ∀ i, i ≤ 12 → AllE (storyT l i).out ∧ AllE (storyT l i).late
 | 0, _ => ⟨fun _ h => (by cases h), fun _ h => (by cases h)⟩
 | i + 1, h => by
  obtain ⟨h1, h2⟩ := ste_all l i (by omega)
  have m1 := ste_mid (i := i) (x := l.getD i 0) (by omega) h1
  have m2 := ste_late (i := i) (x := l.getD i 0) (by omega) h2
  show AllE (stepO i (l.getD i 0) (storyT l i)).out ∧ AllE (stepO i (l.getD i 0) (storyT l i)).late
  unfold stepO
  dsimp only
  split
  ·exact ⟨(m1.app m2).app (fun e he => ste_mark he), fun _ h => (by cases h)⟩
  ·exact ⟨m1, m2⟩
theorem ste_story (l : List Int) : AllE (storyS l) := by
 obtain ⟨h1, h2⟩ := ste_all l (min l.length 12) (Nat.min_le_right _ _)
 exact h1.app h2
theorem NT.no {l m : List Evt} (h : NT l) (hm : ∀ x ∈ m, x.kind ≠ 3) : NT (l ++ m) := by
 refine h.app ?_ (fun x _ y hy k => hm y hy k.2.1)
 exact List.pairwise_of_forall_mem_list (fun x hx y _ k => hm x hx k.1)
theorem mid_perm (i : Nat) (x : Int) (s : SSt) : (midO i x s ++ lateO i x s).Perm (((s.out ++ s.late) ++ runsO i x s) ++ ([callE (wishO i x s)] ++ [doneE (wishO i x s) (ansO x s)])) := by
 unfold midO lateO
 refine (perm6 _ _ _ _ _ _).trans ?_
 refine List.Perm.append_right _ (List.Perm.append_left _ ?_)
 exact List.filter_append_perm _ _
theorem nt_step {i : Nat} {x : Int} {s : SSt} (h : NT (s.out ++ s.late) ∧ SeqB i (s.out ++ s.late)) : NT (midO i x s ++ lateO i x s) ∧ SeqB (i + 1) (midO i x s ++ lateO i x s) := by
 have hp := mid_perm i x s
 have hseq : ∀ e ∈ runsO i x s, e.seq = 1 + (i : Int) := fun e he => by
  obtain ⟨m, _, _, rfl⟩ := mem_runs he
  rfl
 have h2 : ∀ e ∈ [callE (wishO i x s)] ++ [doneE (wishO i x s) (ansO x s)], e.kind ≠ 3 := fun e he => by
  rcases List.mem_append.1 he with he | he <;> rw [List.mem_singleton.1 he]
  ·show ¬ (1 : Int) = 3
   decide
  ·show ¬ (2 : Int) = 3
   decide
 refine ⟨NT.perm ?_ hp.symm, fun e he hk => ?_⟩
 ·refine NT.no (h.1.app ?_ (fun a ha b hb k => ?_)) h2
  ·exact (runs_pw i x s).imp (fun k t => k t.2.2)
  ·have h3 := h.2 a ha k.1
   have h4 := hseq b hb
   have := k.2.2.1
   omega
 ·rcases List.mem_append.1 (hp.mem_iff.1 he) with he | he
  ·rcases List.mem_append.1 he with he | he
   ·have := h.2 e he hk
    omega
   ·have := hseq e he
    omega
  ·exact absurd hk (h2 e he)
theorem nt_all (l : List Int) : ∀ i, NT ((storyT l i).out ++ (storyT l i).late) ∧ SeqB i ((storyT l i).out ++ (storyT l i).late)
 | 0 => ⟨List.Pairwise.nil, fun _ h => (by cases h)⟩
 | i + 1 => by
  have h := nt_step (x := l.getD i 0) (nt_all l i)
  show NT ((stepO i (l.getD i 0) (storyT l i)).out ++ (stepO i (l.getD i 0) (storyT l i)).late) ∧ SeqB (i + 1) ((stepO i (l.getD i 0) (storyT l i)).out ++ (stepO i (l.getD i 0) (storyT l i)).late)
  unfold stepO
  dsimp only
  split
  ·have hm : ∀ e ∈ fourM.map (markA i), e.kind ≠ 3 := fun e he => by
    obtain ⟨m, _, rfl⟩ := List.mem_map.1 he
    show ¬ (4 : Int) = 3
    decide
   rw [List.append_nil]
   refine ⟨h.1.no hm, fun e he hk => ?_⟩
   rcases List.mem_append.1 he with he | he
   ·exact h.2 e he hk
   ·exact absurd hk (hm e he)
  ·exact h
theorem nt_story (l : List Int) : NT (storyS l) := (nt_all l _).1
theorem nb_at {pre suf : List Evt} {e : Evt} (h : NB (pre ++ e :: suf)) : NB pre ∧ Good planP pre e := by
 have h1 : NB pre := fun j hj => by rw [← broken_app (suf := e :: suf) hj]; exact h j (by rw [List.length_append]; omega)
 refine ⟨h1, good_of ?_⟩
 rw [← broken_app (suf := suf) (by simp), show (pre ++ [e]) ++ suf = pre ++ e :: suf from by simp]
 exact h pre.length (by simp)
theorem spoil5b {pre : List Evt} {e x : Evt} {b : Int} (hg : Good planP pre e) (hA : AllE pre) (he : StE e) (hk : e.kind = 3) (hn : NT (pre ++ [e])) (hb : b ≠ 0 ∧ b ≠ 1) (hx : x ∈ pre) (hxk : x.kind = 3) (hxs : x.seq = e.seq) (hxa : 1 ≤ x.a ∧ x.a ≤ 8) : broken planP (pre ++ [{ e with wish := { e.wish with block := b } }]) pre.length = 5 := by
 have h2 := he.node (.inl hk)
 have h5 := spoil5 (e' := { e with wish := { e.wish with block := b } }) hA hk hn rfl rfl rfl rfl rfl ⟨h2.1, h2.2.1⟩ hb hx hxk hxs hxa
 rw [broken_un, if_neg (show ¬ R1 planP pre { e with wish := { e.wish with block := b } } from hg.r1), if_neg (show ¬ R2 pre { e with wish := { e.wish with block := b } } from hg.r2), if_neg (show ¬ R3 planP { e with wish := { e.wish with block := b } } from hg.r3), if_neg (show ¬ R4 pre { e with wish := { e.wish with block := b } } from hg.r4), if_pos h5]
theorem spoil11 {pre : List Evt} {e : Evt} (hn : NB pre) (hg : Good planP pre e) (hA : AllE pre) (hD : DD pre e) (hk : e.kind = 2) (hw : e.wish.kind = 1) : broken planP (pre ++ [{ e with ans := { e.ans with data := dat 200 } }]) pre.length = 11 := by
 obtain ⟨he, hgr, d, val, m, hm, hO⟩ := hD
 rw [decide_eq_false (by omega)] at hO
 obtain ⟨e', hE⟩ : ∃ e' : Evt, e' = { e with ans := { e.ans with data := dat 200 } } := ⟨_, rfl⟩
 have k1 : e'.kind = 2 := by rw [hE]; exact hk
 have k2 : e'.wish = e.wish := by rw [hE]
 have k3 : e'.a = e.a := by rw [hE]
 have k4 : e'.ans.err = 0 := by rw [hE]; exact he
 have k5 : e'.ans.data = dat 200 := by rw [hE]
 have hl : pre.length < (pre ++ [e']).length := by simp
 have hgh : GH (dat 200) (histT planP (blkW e.wish.block) pre) := GH.all pre hst0 (fun _ h => (by cases h)) (fun x hx _ => (hA x hx).data)
 have hbad := HO.bad (o := blkW e.wish.block) (e := e') (by rw [k3]; exact hO) k1 k4 hm (by rw [k5]; exact dat_ne (by decide)) (by rw [k5]; exact hgh)
 have hh : histP planP e'.wish (pre ++ [e']) = (histF planP (blkW e.wish.block) (histT planP (blkW e.wish.block) pre) e').out ++ (histF planP (blkW e.wish.block) (histT planP (blkW e.wish.block) pre) e').forged := by
  unfold histP
  rw [k2, histT_congr (o := e.wish) (o' := blkW e.wish.block) hgr rfl, histT_push]
 have h11 : R11 planP (pre ++ [e']) pre.length := by
  refine (R11_iff hl (fun j hj => ?_)).2 ?_
  ·have h1 := hn j hj
   have h2 : (pre ++ [e']).take j = pre.take j := List.take_append_of_le_length (by omega)
   have h3 : (pre ++ [e']).getD j evt0 = pre.getD j evt0 := by rw [List.getD_eq_getElem?_getD, List.getD_eq_getElem?_getD, List.getElem?_append_left hj]
   rw [h2, h3]
   have h4 : pre = pre.take j ++ pre.getD j evt0 :: pre.drop (j + 1) := by
    rw [List.getD_eq_getElem?_getD, List.getElem?_eq_getElem hj]
    exact (List.take_append_drop j pre).symm.trans (by rw [List.drop_eq_getElem_cons hj]; rfl)
   have h5 : NB (pre.take j ++ pre.getD j evt0 :: pre.drop (j + 1)) := by rw [← h4]; exact hn
   exact (nb_at h5).2.r8
  ·rw [getD_mid (suf := []), List.take_of_length_le (by simp)]
   refine ⟨⟨k1, k4⟩, ⟨.inl (by rw [k2]; exact hw), rfl, rfl⟩, ?_, ?_⟩
   ·rw [hh]; exact hbad.1
   ·rw [hh]; exact hbad.2
 have h9 : ¬ R9 pre e' := by rw [hE]; exact hg.r9
 have h1 : ¬ R1 planP pre e' := by rw [hE]; exact hg.r1
 have h2 : ¬ R2 pre e' := by rw [hE]; exact hg.r2
 have h3 : ¬ R3 planP e' := by rw [hE]; exact hg.r3
 have h4 : ¬ R4 pre e' := by rw [hE]; exact hg.r4
 have h6 : ¬ R6 pre e' := by rw [hE]; exact hg.r6
 have h7 : ¬ R7 pre e' := by rw [hE]; exact hg.r7
 rw [← hE, broken_un, if_neg h1, if_neg h2, if_neg h3, if_neg h4, if_neg (fun x => by have := x.1; omega), if_neg h6, if_neg h7, if_neg (fun x => by have := x.1; omega), if_neg h9, if_neg (fun x => by have := x.2.1; rw [k2] at this; omega), if_pos h11]
theorem ID.app {L M : List Evt} (h : ID L) (k : ∀ a e b, M = a ++ e :: b → e.kind = 2 → DD (L ++ a) e) : ID (L ++ M) := by
 intro pre e suf hs hk
 rcases List.append_eq_append_iff.1 hs with ⟨a, h1, h2⟩ | ⟨a, h1, h2⟩
 ·rw [h1]
  exact k a e suf h2 hk
 ·match a, h1, h2 with
  | [], h1, h2 =>
   have := k [] e suf h2.symm hk
   rw [List.append_nil] at h1 this
   rw [← h1]
   exact this
  | x :: t, h1, h2 =>
   injection h2 with h3 h4
   subst h3
   exact h pre e t h1 hk
theorem ID.no {L M : List Evt} (h : ID L) (hm : ∀ x ∈ M, x.kind ≠ 2) : ID (L ++ M) := h.app (fun a e b hM hk => absurd hk (hm e (by rw [hM]; simp)))
theorem ID.push {L : List Evt} {e : Evt} (h : ID L) (hd : DD L e) : ID (L ++ [e]) := h.app (fun a x b hM _ => by
 match a, hM with
 | [], hM =>
  injection hM with h1 h2
  rw [List.append_nil, ← h1]
  exact hd
 | y :: t, hM =>
  injection hM with _ h2
  cases t <;> cases h2)
theorem ho_mid {i : Nat} {x : Int} {s : SSt} (_hi : i < 12) (h : Inv i s) : HO (histT planP (blkW (stB x)) (s.out ++ [callE (wishO i x s)] ++ (runsO i x s).filter (nowQ (stK x)))) (wishO i x s).client (decide ((wishO i x s).kind = 2)) (wishO i x s).data (dat (s.bl (stB x))) (i + 1) := by
 obtain ⟨f1, f2, f3, f4, f5⟩ := wish_f i x s
 have hb0 := h.hist (stB x) (stB_b x)
 have hn := stN_b x
 rw [hist_nodes _ _ (fun e he => ⟨.inl ?_, ?_⟩), histT_push]
 ·have ho : oursW (callE (wishO i x s)).wish (blkW (stB x)) := ⟨by show (wishO i x s).kind = 1 ∨ (wishO i x s).kind = 2; rw [f5]; cases stW x; exact .inl rfl; exact .inr rfl, f3, f4⟩
  exact (HC.call (e := callE (wishO i x s)) hb0 rfl ho).tickN ((runsO i x s).filter (nowQ (stK x))).length
 ·obtain ⟨m, _, _, rfl⟩ := mem_runs (List.mem_filter.1 he).1
  rfl
 ·obtain ⟨m, _, _, rfl⟩ := mem_runs (List.mem_filter.1 he).1
  show (wishO i x s).client ≠ 33
  omega
theorem k2_runs {i : Nat} {x : Int} {s : SSt} {q : Evt → Bool} : ∀ e ∈ (runsO i x s).filter q, e.kind ≠ 2 := fun e he => by
 obtain ⟨m, _, _, rfl⟩ := mem_runs (List.mem_filter.1 he).1
 show ¬ (3 : Int) = 2
 decide
theorem id_step {i : Nat} {x : Int} {s : SSt} (hi : i < 12) (h : Inv i s) (hd : ID s.out) : ID (midO i x s) := by
 obtain ⟨f1, f2, f3, f4, f5⟩ := wish_f i x s
 unfold midO
 refine ID.push ((hd.no (fun e he => ?_)).no k2_runs) ⟨?_, f3, (wishO i x s).data, dat (s.bl (stB x)), i + 1, by omega, ?_⟩
 ·rw [List.mem_singleton.1 he]
  show ¬ (1 : Int) = 2
  decide
 ·show (ansO x s).err = 0
  unfold ansO
  cases stW x <;> rfl
 ·show HO (histT planP (blkW (wishO i x s).block) _) (wishO i x s).client (decide ((wishO i x s).kind = 2)) _ _ _
  rw [f4]
  exact ho_mid hi h
theorem id_all (l : List Int) : ∀ i, i ≤ 12 → ID (storyT l i).out ∧ ∀ e ∈ (storyT l i).late, e.kind ≠ 2
 | 0, _ => ⟨fun pre e suf h => absurd h.symm (by cases pre <;> exact fun x => by cases x), fun _ h => (by cases h)⟩
 | i + 1, h => by
  obtain ⟨h1, h2⟩ := id_all l i (by omega)
  have m1 := id_step (x := l.getD i 0) (by omega) (inv_all l i (by omega)) h1
  have m2 : ∀ e ∈ lateO i (l.getD i 0) (storyT l i), e.kind ≠ 2 := fun e he => by
   rcases List.mem_append.1 he with he | he
   ·exact h2 e he
   ·exact k2_runs e he
  show ID (stepO i (l.getD i 0) (storyT l i)).out ∧ ∀ e ∈ (stepO i (l.getD i 0) (storyT l i)).late, e.kind ≠ 2
  unfold stepO
  dsimp only
  split
  ·exact ⟨(m1.no m2).no k2_marks, fun _ h => (by cases h)⟩
  ·exact ⟨m1, m2⟩
theorem id_story (l : List Int) : ID (storyS l) := by
 obtain ⟨h1, h2⟩ := id_all l (min l.length 12) (Nat.min_le_right _ _)
 exact h1.no h2
theorem story_len (l : List Int) : (storyS l).length ≤ 120 := by
 have := (inv_all l (min l.length 12) (Nat.min_le_right _ _)).len
 have h12 := Nat.min_le_right l.length 12
 unfold storyS
 rw [List.length_append]
 omega
theorem story_nb (l : List Int) : NB (storyS l) := inv_end (inv_all l (min l.length 12) (Nat.min_le_right _ _))
structure At9 (l : List Int) (n : Nat) (h : n < (storyS l).length) : Prop where
 nb : NB ((storyS l).take n)
 good : Good planP ((storyS l).take n) (storyS l)[n]
 all : AllE ((storyS l).take n)
 ste : StE (storyS l)[n]
 nt : NT ((storyS l).take n ++ [(storyS l)[n]])
 dd : (storyS l)[n].kind = 2 → DD ((storyS l).take n) (storyS l)[n]
theorem at9 (l : List Int) {n : Nat} (h : n < (storyS l).length) : At9 l n h := by
 have hc := cut_at h
 have h1 := nb_at (pre := (storyS l).take n) (e := (storyS l)[n]) (suf := (storyS l).drop (n + 1)) (by rw [← hc]; exact story_nb l)
 refine ⟨h1.1, h1.2, fun e he => ste_story l e (List.mem_of_mem_take he), ste_story l _ (List.getElem_mem h), ?_, fun hk => id_story l _ _ _ hc hk⟩
 rw [← List.take_succ_eq_append_getElem h]
 exact (nt_story l).sublist (List.take_sublist _ _)
theorem spoilt_find {l : List Int} {n : Nat} {e : Evt} {r : Int} (h : n < (storyS l).length) (hr : r ≠ 0) (hb : broken planP ((storyS l).take n ++ [e]) ((storyS l).take n).length = r) : findS planP ((storyS l).set n e) = (r, (n : Int), 0) := by
 have hl := story_len l
 have e1 : ((storyS l).take n).length = n := by rw [List.length_take]; omega
 have h2 := find_at (pre := (storyS l).take n) (suf := (storyS l).drop (n + 1)) (e := e) (r := r) (at9 l h).nb (by rw [← set_cut h, List.length_set]; omega) hb hr
 rw [← set_cut h, e1] at h2
 exact h2
theorem stamp_b {l : List Int} {n : Nat} (h : n < (storyS l).length) (hk : (storyS l)[n].kind = 1) : 0 ≤ (storyS l)[n].wish.stamp ∧ (storyS l)[n].wish.stamp ≤ 121 := by
 have h9 := at9 l h
 have hl := story_len l
 have hb := callS_b (storyS l)[n].a ((storyS l).take n)
 rw [List.length_take] at hb
 by_cases hs : (storyS l)[n].wish.stamp = (callS (storyS l)[n].a ((storyS l).take n)).many + 1
 ·omega
 ·exact absurd ⟨hk, .inr (.inr (.inr hs))⟩ h9.good.r8
end Go.Proofs.Ytgheaedligkhoaa
namespace Go.Proofs.Ytgheaedligkhoaa
open Go.RowKit Go.Eng _root_.Go.Proofs.Try
set_option maxRecDepth 100000
variable {w0 w : World} {M0 Fz : Nat → Prop} {H : List It} {A : Option Addr} {c : Nat}
theorem storyT_cl (l : List Int) (n : Int) : ∀ i : Nat, 0 ≤ (storyT l i).cl n ∧ (storyT l i).cl n ≤ i
 | 0 => ⟨Int.le_refl _, Int.le_refl _⟩
 | i + 1 => by
  have h := storyT_cl l n i
  show 0 ≤ (if n = stN (l.getD i 0) then (storyT l i).cl n + 1 else (storyT l i).cl n) ∧ (if n = stN (l.getD i 0) then (storyT l i).cl n + 1 else (storyT l i).cl n) ≤ ((i + 1 : Nat) : Int)
  split <;> omega
end Go.Proofs.Ytgheaedligkhoaa
namespace Go.Proofs.Ytgheaedligkhoaa
open Go.RowKit Go.Eng _root_.Go.Proofs.Try Go.Eng _root_.Go.Proofs.Try
set_option maxRecDepth 100000
variable {w0 w : World} {M0 Fz : Nat → Prop} {H : List It} {A : Option Addr} {c : Nat}
set_option maxHeartbeats 16000000 in
theorem story_ok {w : World} {S : Nat → Prop} {l : List Int} {A : Option Addr} {c : Nat} (hl : GS intR S w A c l) (hI : ∀ x ∈ l, i64 x) : Ret prog 16 #[.slice A l.length c] w (fun v w' => (∃ A' c', v = .slice A' (storyS l).length c' ∧ OutR evtR (fun _ => True) 46 w.heap.size w' A' c' (storyS l)) ∧ Ext w w') := by
 refine ret_of_wk func16 rfl ntmps16 leB_ ?_
 have hp := HP.begin_ w
 have hmx := hl.mx
 have hlF := hl.now
 generalize hF0 : (fun b => b < w.heap.size) = F0 at hp hlF
 refine so ?_
 refine so ?_
 refine so ?_
 refine Alo hp (h := fun g5 w1 hp E1 => so ?_)
 refine Alo hp (h := fun g6 w2 hp E2 => so ?_)
 replace hp := (((hp.as_ (H' := itB g6 80 (clC (storyT l 0).cl) :: itB g5 79 (blC (storyT l 0).bl) :: []) rfl).up 1 rfl).noRow 46 53).noRow 46 53
 replace hlF := hlF.ext (E1.trans E2)
 refine Lp [0, 3, 4, 5, 6, 7] (fun L' w' mes => ∃ (i : Nat) (F : Nat → Prop) (A3 : Option Addr) (c3 : Nat) (rows3 : List (List Value)) (A4 : Option Addr) (c4 : Nat) (rows4 : List (List Value)), L' = [(0, .slice A l.length c), (3, .slice A3 (storyT l i).out.length c3), (4, .slice A4 (storyT l i).late.length c4), (5, pt g5 0), (6, pt g6 0), (7, iv (i : Int))] ∧ i ≤ l.length ∧ i ≤ 12 ∧ (∃ H, HP w (fun _ => False) F w' (itR 46 53 A3 (storyT l i).out.length c3 rows3.flatten :: itR 46 53 A4 (storyT l i).late.length c4 rows4.flatten :: itB g5 79 (blC (storyT l i).bl) :: itB g6 80 (clC (storyT l i).cl) :: H)) ∧ RF evtR F w' rows3 (storyT l i).out ∧ RF evtR F w' rows4 (storyT l i).late ∧ GS intR F w' A c l ∧ mes = l.length - i) (l.length - 0) ⟨0, F0, none, 0, [], none, 0, [], rfl, Nat.zero_le _, Nat.zero_le _, ⟨_, hp⟩, RF.nil _ _ _, RF.nil _ _ _, hlF, rfl⟩ ?_
 clear hp hlF
 rintro _ wr _ ⟨i, F, A3, c3, rows3, A4, c4, rows4, rfl, hil, hi12, ⟨H, hp⟩, hR3, hR4, hlF, rfl⟩ KL hKL
 have hinv := (inv_all l i hi12).len
 have hcl := fun n => storyT_cl l n i
 have hst : storyT l (i + 1) = stepO i (l.getD i 0) (storyT l i) := rfl
 refine sl ?_
 refine wc_seq_cut (fun L' w' => L' = [(0, .slice A l.length c), (3, .slice A3 (storyT l i).out.length c3), (4, .slice A4 (storyT l i).late.length c4), (5, pt g5 0), (6, pt g6 0), (7, iv (i : Int))] ∧ wr = w' ∧ i < l.length ∧ i < 12) ?_ ?_
 ·intro K hK
  have fin : ¬ (i < l.length ∧ i < 12) → i = min l.length 12 := fun h => by omega
  refine so ?_
  refine Gs 20 ?_ ?_ <;> intro q1 <;> refine so ?_
  ·refine Cd ?_ ?_ <;> intro q2 <;> refine so ?_
   ·exact Kd [0, 3, 4, 5, 6, 7] hK ⟨rfl, rfl, by omega, by omega⟩
   ·have es : storyS l = (storyT l i).out ++ (storyT l i).late := by rw [storyS, ← fin (by omega)]
    refine wl_happend (i := 0) (m := (storyT l i).late.length) (size := 53) (news := rows4.flatten) (by decide) sl24 rfl rfl hp rfl (by rw [hR4.flen]; rfl) (fun b hb => (hp.rowAt (i := 1) rfl).at_ hb) (fun hb => ?_) ?_ (by omega) ?_
    ·by_cases h0 : 0 < (storyT l i).late.length
     ·obtain ⟨g, hg⟩ := row_addr (hp.rowAt (i := 1) rfl) h0
      rw [hb] at hg; cases hg
     ·omega
    ·exact RF.oneC hR4
    rintro A9 c9 w5 hp C5
    refine so ?_
    have f5 : Frz F F wr w5 := mv
    refine Pt ⟨_, rfl, ⟨A9, c9, by rw [es, List.length_append], ?_⟩, hp.chg⟩
    rw [es]
    refine HP.outR (r := evtR) (i := 0) (rows := rows3 ++ rows4) hp (by rw [List.flatten_append, List.length_append]; rfl) ((hR3.to f5).append (hR4.to f5)) (fun _ _ => trivial)
  ·refine aF (so ?_)
   have es : storyS l = (storyT l i).out ++ (storyT l i).late := by rw [storyS, ← fin (by omega)]
   refine wl_happend (i := 0) (m := (storyT l i).late.length) (size := 53) (news := rows4.flatten) (by decide) sl24 rfl rfl hp rfl (by rw [hR4.flen]; rfl) (fun b hb => (hp.rowAt (i := 1) rfl).at_ hb) (fun hb => ?_) ?_ (by omega) ?_
   ·by_cases h0 : 0 < (storyT l i).late.length
    ·obtain ⟨g, hg⟩ := row_addr (hp.rowAt (i := 1) rfl) h0
     rw [hb] at hg; cases hg
    ·omega
   ·exact RF.oneC hR4
   rintro A9 c9 w5 hp C5
   refine so ?_
   have f5 : Frz F F wr w5 := mv
   refine Pt ⟨_, rfl, ⟨A9, c9, by rw [es, List.length_append], ?_⟩, hp.chg⟩
   rw [es]
   refine HP.outR (r := evtR) (i := 0) (rows := rows3 ++ rows4) hp (by rw [List.flatten_append, List.length_append]; rfl) ((hR3.to f5).append (hR4.to f5)) (fun _ _ => trivial)
 rintro _ _ ⟨rfl, rfl, hlt, hlt12⟩
 obtain ⟨ax, hAx, hatx⟩ := GS.el1 hlF i hlt
 have hxi : i64 l[i] := hI _ (List.getElem_mem hlt)
 rw [show l.getD i 0 = l[i] from by rw [List.getD_eq_getElem?_getD, List.getElem?_eq_getElem hlt]; rfl] at hst
 generalize l[i] = x at hatx hxi hst
 have hn := stN_b x
 have hb := stB_b x
 have hk := stK_b x
 have hxf : i64 (x.fdiv 2) := by
  unfold i64 at hxi ⊢
  rw [Int.fdiv_eq_ediv_of_nonneg _ (by decide)]
  omega
 refine so ?_
 refine Ce (lbring_ok (n := 2) hxi j2) ?_
 rintro _ w3 ⟨rfl, E3⟩
 rw [show bringI x 2 = stN x from rfl]
 replace hp := hp.ext E3
 replace hatx := hatx.ext E3
 refine so ?_
 refine wl_shr (z := x.fdiv 2) (by decide) rfl rfl (by decide) rfl (so ?_)
 refine Ce (lbring_ok (n := 4096) hxf (by unfold i64; omega)) ?_
 rintro _ w4 ⟨rfl, E4⟩
 rw [show bringI (x.fdiv 2) 4096 = stK x from rfl]
 replace hp := hp.ext E4
 refine so ?_
 refine wl_ixA (by decide) ar80 rfl rfl (stN x).toNat (by omega) (by omega) (so ?_)
 have hcn := hcl (stN x)
 have ecl : (stepO i x (storyT l i)).cl = fun n => if n = stN x then (storyT l i).cl (stN x) + 1 else (storyT l i).cl n := by
  funext n
  show (if n = stN x then (storyT l i).cl n + 1 else (storyT l i).cl n) = _
  by_cases e : n = stN x
  ·rw [if_pos e, if_pos e, e]
  ·rw [if_neg e, if_neg e]
 refine wl_hload (i := 3) (by decide) sc3_ rfl hp rfl (clC_get hn) ?_
 refine wl_add (z := (storyT l i).cl (stN x) + 1) (by decide) rfl rfl (w64 (by omega) (by omega)) (so ?_)
 refine wl_ixA (by decide) ar80 rfl rfl (stN x).toNat (by omega) (by omega) (so ?_)
 refine wl_hstore1 (i := 3) (o := (stN x).toNat) (v := iv ((storyT l i).cl (stN x) + 1)) rfl rfl hp rfl (show szB prog 3 1 = true by kernel_rfl) (show _ < 2 by omega) rfl (fun w5 hp C5 => ?_)
 replace hp := hp.as_ (H' := itR 46 53 A3 (storyT l i).out.length c3 rows3.flatten :: itR 46 53 A4 (storyT l i).late.length c4 rows4.flatten :: itB g5 79 (blC (storyT l i).bl) :: itB g6 80 (clC (stepO i x (storyT l i)).cl) :: H) (by rw [clC_set hn, ecl]; rfl)
 have f5 : Frz F F w4 w5 := mv
 have f5r : Frz F F wr w5 := mv
 refine so ?_
 refine wl_rem (z := stB x) (by decide) rfl rfl (by decide) (by rw [Int.tmod_eq_emod_of_nonneg hk.1]; rfl) (so ?_)
 have hc5 : (clC (stepO i x (storyT l i)).cl)[(stN x).toNat]? = some (iv ((storyT l i).cl (stN x) + 1)) := by
  rw [clC_get hn, ecl]
  dsimp only
  rw [if_pos rfl]
 have hb5 : (blC (storyT l i).bl)[(stB x).toNat]? = some (bv ((storyT l i).bl (stB x))) := blC_get hb
 refine wk_drop [(0, _), (3, _), (4, _), (5, pt g5 0), (6, pt g6 0), (7, iv (i : Int)), (8, iv (stN x)), (9, iv (stK x)), (10, iv (stB x))] ⟨rfl, rfl, rfl, rfl, rfl, rfl, rfl, rfl, rfl, trivial⟩ ?_
 apply wc_drawY 15 12 13 14 11 12 42 44 (wsC wish0 none 0 none 0) (anC ans0 none 0 none 0) (wsC (rdW (31 + stN x) ((storyT l i).cl (stN x) + 1) (stB x)) none 0 none 0) [.eq (iv (stN x)), .eq (iv (31 + stN x)), .eq (iv (stN x)), .eq (pt g6 (stN x).toNat), .eq (iv ((storyT l i).cl (stN x) + 1)), .eq (iv (stB x)), .eq (.agg (wsC (rdW (31 + stN x) ((storyT l i).cl (stN x) + 1) (stB x)) none 0 none 0 : List Value).toArray), .eq (iv (stB x)), .eq (pt g5 (stB x).toNat), .eq (bv ((storyT l i).bl (stB x))), SP.bytes w5.heap.size (List.replicate 16 (bv ((storyT l i).bl (stB x)))) (fun g => .slice (some ⟨g, 0, none⟩) 16 16), SP.bytes w5.heap.size (List.replicate 16 (bv ((storyT l i).bl (stB x)))) (fun g => .agg (anC ⟨0, dat ((storyT l i).bl (stB x)), 0, []⟩ (some ⟨g, 0, none⟩) 16 none 0 : List Value).toArray), .any, .any, .any] (by kernel_rfl) (by kernel_rfl) (by kernel_rfl) (by kernel_rfl) ⟨fun _ _ _ _ _ _ h => h, fun _ _ _ _ _ _ h => h, fun _ _ _ _ _ _ h => h, fun _ _ _ _ _ _ h => h, fun _ _ _ _ _ _ h => h, fun _ _ _ _ _ _ h => h, fun _ _ _ _ _ _ h => h, fun _ _ _ _ _ _ h => h, fun _ _ _ _ _ _ h => h, fun _ _ _ _ _ _ h => h, SP.bytes_st _ _ _ _ _ (by decide), SP.bytes_st _ _ _ _ _ (by decide), fun _ _ _ _ _ _ h => h, fun _ _ _ _ _ _ h => h, fun _ _ _ _ _ _ h => h, trivial⟩
 ·refine ⟨?_, ?_, ?_, ?_, ?_, ?_, ?_, ?_, ?_, ?_, ?_, ?_, ?_, ?_, ?_, trivial⟩ <;> intro F' wF hER hk' hEE
  ·exact wl_move (by decide) (hk'.pi 8) (wl_nil (qr_some ⟨RlY.o (by decide) (by decide) (by decide) (Chg.refl _ _), rfl⟩))
  ·exact wl_add (by decide) rfl (hk'.pe 0 []) (w64 (by omega) (by omega)) (wl_nil (qr_some ⟨RlY.o (by decide) (by decide) (by decide) (Chg.refl _ _), rfl⟩))
  ·exact wl_move (by decide) (hk'.pi 8) (wl_nil (qr_some ⟨RlY.o (by decide) (by decide) (by decide) (Chg.refl _ _), rfl⟩))
  ·exact wl_ixA (by decide) ar80 (hk'.pi 6) (hk'.pe 2 []) (stN x).toNat (by omega) (by omega) (wl_nil (qr_some ⟨RlY.o (by decide) (by decide) (by decide) (Chg.refl _ _), rfl⟩))
  ·exact wl_hload (i := 3) (by decide) sc3_ (hk'.pe 3 []) (hp.ext hER) rfl hc5 (wl_nil (qr_some ⟨RlY.o (by decide) (by decide) (by decide) (Chg.refl _ _), rfl⟩))
  ·exact wl_move (by decide) (hk'.pi 10) (wl_nil (qr_some ⟨RlY.o (by decide) (by decide) (by decide) (Chg.refl _ _), rfl⟩))
  ·have ea := hk'.pe 1 []
   have eb := hk'.pe 4 []
   have ec := hk'.pe 5 []
   exact wl_call (xs := [.tmp 45, .tmp 48, .tmp 49]) (by decide) (by kernel_rfl) (by simp only [evs, ev, ea, eb, ec]; first | done | rfl) lreadD_ok (by rintro _ wc ⟨rfl, hEc⟩; exact wl_nil (qr_some ⟨RlY.o (by decide) (by decide) (by decide) hEc, rfl⟩))
  ·exact wl_move (by decide) (hk'.pi 10) (wl_nil (qr_some ⟨RlY.o (by decide) (by decide) (by decide) (Chg.refl _ _), rfl⟩))
  ·exact wl_ixA (by decide) ar79 (hk'.pi 5) (hk'.pe 7 []) (stB x).toNat (by omega) (by omega) (wl_nil (qr_some ⟨RlY.o (by decide) (by decide) (by decide) (Chg.refl _ _), rfl⟩))
  ·exact wl_hload (i := 2) (by decide) sc5_ (hk'.pe 8 []) (hp.ext hER) rfl hb5 (wl_nil (qr_some ⟨RlY.o (by decide) (by decide) (by decide) (Chg.refl _ _), rfl⟩))
  ·have ea := hk'.pe 9 []
   exact wl_call (xs := [.tmp 53]) (by decide) (by kernel_rfl) (by simp only [evs, ev, ea]; first | done | rfl) ldataO_ok (by rintro _ wc ⟨⟨g, rfl, hg, ho⟩, hEc⟩; exact wl_nil (qr_some ⟨RlY.o (by decide) (by decide) (by decide) hEc, g, rfl, Nat.le_trans hER.size hg, ho.lower hER.size⟩))
  ·obtain ⟨v54, e54, g, rfl, hg, ho⟩ := hk'.pp 10 []
   exact wl_builtS (ps := [(1, .tmp 54)]) (by decide) bld44 (by simp only [evp, ev, e54]; first | done | rfl) rfl (wl_nil (qr_some ⟨RlY.o (by decide) (by decide) (by decide) (Chg.refl _ _), g, rfl, hg, ho⟩))
  ·refine wl_alloc (by decide) ZrC.h ?_
   rintro g7 w7 hg7 hb7 hE7
   subst hg7
   exact wl_nil (qr_some ⟨RlY.a (by decide) hb7 hE7, trivial⟩)
  ·refine wl_alloc (by decide) ZrC.h ?_
   rintro g7 w7 hg7 hb7 hE7
   subst hg7
   exact wl_nil (qr_some ⟨RlY.b (by decide) (by decide) hb7 hE7, trivial⟩)
  ·have ea := hk'.pe 6 []
   obtain ⟨g7, hg7, hb7⟩ := hEE rfl
   refine wl_storeB2 hg7 ea hb7 sz42 (Nat.le_of_ble_eq_true rfl) (List.all_eq_true.1 rfl) ?_
   intro w7 hb8 hC7
   exact wl_nil (qr_none ⟨RlY.f hg7 hC7 hb8, trivial⟩)
 intro F' wD hED hini hdo hWW
 obtain ⟨gw, ga, hWn, hWA, hWB, e11, e12, bA, bB⟩ := hWW
 obtain ⟨v55, e55, gd, rfl, hgd, hod⟩ := hdo 11 55 (Nat.lt_of_lt_of_eq (by decide) rfl) rfl
 refine wl_drop [(0, _), (3, _), (4, _), (5, pt g5 0), (6, pt g6 0), (7, iv (i : Int)), (8, iv (stN x)), (9, iv (stK x)), (10, iv (stB x)), (11, pt gw 0), (12, pt ga 0), (55, _)] ⟨di hini 0, di hini 3, di hini 4, di hini 5, di hini 6, di hini 7, di hini 8, di hini 9, di hini 10, e11, e12, e55, trivial⟩ ?_
 clear hini hdo e11 e12 e55
 have hdb : ∀ b, (16 : Nat) ≠ 0 ∧ blk (some ⟨gd, 0, none⟩) b → b = gd := fun b hb => by
  obtain ⟨_, a, ha, rfl⟩ := hb
  cases ha
  rfl
 replace hp := hp.add3 hED (x := itB gw 42 (wsC (rdW (31 + stN x) ((storyT l i).cl (stN x) + 1) (stB x)) none 0 none 0)) (y := itB ga 44 (anC ans0 none 0 none 0)) (z := itR 5 1 (some ⟨gd, 0, none⟩) 16 16 (List.replicate 16 (bv ((storyT l i).bl (stB x))))) (K1 := fun b => b = gw) (K2 := fun b => b = ga) (K3 := fun b => (16 : Nat) ≠ 0 ∧ blk (some ⟨gd, 0, none⟩) b) ⟨bA, fun _ => Iff.rfl⟩ ⟨bB, fun _ => Iff.rfl⟩ ⟨hod.lower (Nat.zero_le _), fun _ => Iff.rfl⟩ (fun b hb => by rw [hb]; exact hWA) (fun b hb => by rw [hb]; exact hWB) (fun b hb => by rw [hdb b hb]; exact hgd) (fun b h1 h2 => hWn (by rw [← h1, ← h2])) (fun b h1 h2 => OwnRow.ne hod (by decide) bA (by decide) (by rw [← h1]; exact hdb b h2)) (fun b h1 h2 => OwnRow.ne hod (by decide) bB (by decide) (by rw [← h1]; exact hdb b h2))
 refine Hs 1 hp (h := fun w6 hp C6 => ?_)
 have f6 : Frz F F w5 w6 := by
  have h1 : Frz F F w5 wD := (Frz.start F w5).ext hED
  exact h1.fz C6
 have hrd := hp.rowAt (i := 2) rfl
 obtain ⟨F7, hp, s7, n7⟩ := (hp.up 2 rfl).frzRow
 have hdg : GS byteR F7 w6 (some ⟨gd, 0, none⟩) 16 (dat ((storyT l i).bl (stB x))) := rowB_gs hrd (n7 gd (by decide) ⟨_, rfl, rfl⟩)
 have f7 : Frz F F7 wr w6 := (Frz.bF f6 f5r).wid s7
 clear hod hrd n7 f6 f5r f5 C6 C5
 refine sl ?_
 refine wc_seq_cut (fun L' w' => ∃ F8 H8 csw csa, L' = [(0, .slice A l.length c), (3, .slice A3 (storyT l i).out.length c3), (4, .slice A4 (storyT l i).late.length c4), (5, pt g5 0), (6, pt g6 0), (7, iv (i : Int)), (9, iv (stK x)), (11, pt gw 0), (12, pt ga 0)] ∧ HP w (fun _ => False) F8 w' (itB gw 42 csw :: itB ga 44 csa :: itR 46 53 A3 (storyT l i).out.length c3 rows3.flatten :: itR 46 53 A4 (storyT l i).late.length c4 rows4.flatten :: itB g5 79 (blC (stepO i x (storyT l i)).bl) :: itB g6 80 (clC (stepO i x (storyT l i)).cl) :: H8) ∧ wishR.rd F8 w' csw (wishO i x (storyT l i)) ∧ ansR.rd F8 w' csa (ansO x (storyT l i)) ∧ Frz F F8 wr w') ?_ ?_
 ·intro K hK
  refine so ?_
  refine wl_quo (z := stK x / 2) (by decide) rfl rfl (by decide) (by rw [Int.tdiv_eq_ediv_of_nonneg hk.1]; exact w64 (by omega) (by omega)) (so ?_)
  refine wl_rem (z := stK x / 2 % 2) (by decide) rfl rfl (by decide) (Int.tmod_eq_emod_of_nonneg (by omega)) (so ?_)
  refine Cd ?_ ?_ <;> intro q1 <;> refine so ?_
  ·have hW : stW x = true := decide_eq_true q1
   have f7 := f7
   refine wl_ixA (by decide) ar80 rfl rfl (stN x).toNat (by omega) (by omega) (so ?_)
   refine wl_hload (i := 5) (by decide) sc3_ rfl hp rfl hc5 (so ?_)
   refine wl_conv (k1 := .i64) (k2 := .u8) (z := ((UInt8.ofNat (i + 1)).toNat : Int)) (by decide) (by kernel_rfl) (by kernel_rfl) rfl (cu8 (by omega) (by omega)) (so ?_)
   refine Ce (lwrite_ok (c := 31 + stN x) (t := (storyT l i).cl (stN x) + 1) (bl := stB x) (b := UInt8.ofNat (i + 1)) (by unfold i64; omega) (by unfold i64; omega) (by unfold i64; omega)) ?_
   rintro _ w8 ⟨csw, rfl, hw, E8⟩
   obtain ⟨F8, hp, s8, n8, _⟩ := hp.frz E8
   replace hw := wishR.mono (fun b hb h => n8 b h hb) hw
   have f8 : Frz F F8 wr w8 := (f7.ext E8).wid s8
   refine so ?_
   refine wl_builtS (ps := []) (by decide) bld44 rfl rfl (so ?_)
   refine wl_re (k := 70) (v := .agg (anC ans0 none 0 none 0).toArray) rfl rfl ?_
   have hlw := wishR.len hw
   refine Hs 0 hp (xs := csw) (ds := csw) (hc := ⟨rfl⟩) (hk := hlw) (hl := by rw [hlw]; exact leB_) (h1 := wishR.one hw) (hq := putL_all (by rw [hlw]; rfl)) (h := fun w9 hp C9 => ?_)
   refine Hs 1 hp (h := fun w10 hp C10 => so ?_)
   refine so ?_
   refine wl_conv (k1 := .i64) (k2 := .u8) (z := ((UInt8.ofNat (i + 1)).toNat : Int)) (by decide) (by kernel_rfl) (by kernel_rfl) rfl (cu8 (by omega) (by omega)) (so ?_)
   refine wl_ixA (by decide) ar79 rfl rfl (stB x).toNat (by omega) (by omega) (so ?_)
   refine wl_hstore1 (i := 4) (o := (stB x).toNat) (v := bv (UInt8.ofNat (i + 1))) rfl rfl hp rfl (show szB prog 5 1 = true by kernel_rfl) (show _ < 8 by omega) rfl (fun w11 hp C11 => ?_)
   have ebl : (stepO i x (storyT l i)).bl = fun b => if b = stB x then UInt8.ofNat (i + 1) else (storyT l i).bl b := by
    funext b
    show (if stW x = true ∧ b = stB x then _ else _) = _
    by_cases e : b = stB x
    ·rw [if_pos ⟨hW, e⟩, if_pos e]
    ·rw [if_neg (fun h => e h.2), if_neg e]
   have f11 : Frz F8 F8 w8 w11 := mv
   refine so ?_
   refine Kd [0, 3, 4, 5, 6, 7, 9, 11, 12] hK ⟨F8, _, csw, _, rfl, hp.as_ (H' := itB gw 42 csw :: itB ga 44 (anC ans0 none 0 none 0) :: itR 46 53 A3 (storyT l i).out.length c3 rows3.flatten :: itR 46 53 A4 (storyT l i).late.length c4 rows4.flatten :: itB g5 79 (blC (stepO i x (storyT l i)).bl) :: itB g6 80 (clC (stepO i x (storyT l i)).cl) :: H) (by rw [ebl, ← blC_set hb]; rfl), ?_, ?_, Frz.bF f11 f8⟩
   ·rw [wishO, hW, if_pos rfl]
    exact rdTo hw f11
   ·rw [ansO, hW, if_pos rfl]
    exact ans0_rd j0
  ·have hW : stW x = false := decide_eq_false q1
   have ebl : (stepO i x (storyT l i)).bl = (storyT l i).bl := by
    funext b
    exact if_neg (fun h => by rw [hW] at h; cases h.1)
   refine Kd [0, 3, 4, 5, 6, 7, 9, 11, 12] hK ⟨F7, H, wsC (rdW (31 + stN x) ((storyT l i).cl (stN x) + 1) (stB x)) none 0 none 0, anC ⟨0, dat ((storyT l i).bl (stB x)), 0, []⟩ (some ⟨gd, 0, none⟩) 16 none 0, rfl, hp.as_ (by rw [ebl]; rfl), ?_, ?_, f7⟩
   ·rw [wishO, hW, if_neg (by decide)]
    exact ⟨⟨by show i64 (31 + stN x); unfold i64; omega, by show i64 ((storyT l i).cl (stN x) + 1); unfold i64; omega, j1, j0, j1, by show i64 (stB x); unfold i64; omega, j0, j0⟩, none, 0, none, 0, rfl, GS.nil _ _ _ _ _, GS.nil _ _ _ _ _⟩
   ·rw [ansO, hW, if_neg (by decide)]
    exact ansD_rd hdg
 clear hp hdg f7
 rintro _ w12 ⟨F8, H8, csw, csa, rfl, hp, hw, ha, f8⟩
 clear ecl hc5 hb5 hdb
 replace hR3 := hR3.to f8
 replace hR4 := hR4.to f8
 replace hlF := hlF.to f8
 obtain ⟨x1, x2, _⟩ := (fun (a b : Nat) => (⟨rfl, rfl, trivial⟩ : a = a ∧ b = b ∧ True)) 0 0
 clear x1 x2
 refine so ?_
 refine wl_hloadX csw (i := 0) (by decide) ag42 rfl hp rfl (wishR.len hw) (drop0 (wishR.len hw)) (so ?_)
 refine Ce (lcall_ok hw) ?_
 rintro _ w13 ⟨cc, rfl, rc, E13⟩
 replace hp := hp.ext E13
 refine so ?_
 refine wl_oneOf (by decide) sl24 rfl rfl (evtR.len rc) leB_ ?_
 rintro _ w14 ⟨gv, rfl, hat14⟩ E14
 replace hp := hp.ext E14
 replace rc := keepE rc E14
 refine wl_happend (i := 2) (m := 1) (size := 53) (news := cc) (by decide) sl24 rfl rfl hp rfl (evtR.len rc) (fun b hb => by cases hb; exact hat14) (by simp) (evtR.one rc) (by omega) ?_
 rintro A15 c15 w15 hp C15
 have f15 : Frz F8 F8 w12 w15 := mv
 have f15b : Frz F8 F8 w14 w15 := mv
 have hso : (storyT l (i + 1)).out = if i % 4 = 3 then (storyT l i).out ++ [callE (wishO i x (storyT l i))] ++ onQ i (wishO i x (storyT l i)) (ansO x (storyT l i)) (stK x) 4 ++ [doneE (wishO i x (storyT l i)) (ansO x (storyT l i))] ++ ((storyT l i).late ++ offQ i (wishO i x (storyT l i)) (ansO x (storyT l i)) (stK x) 4) ++ fourM.map (markA i) else (storyT l i).out ++ [callE (wishO i x (storyT l i))] ++ onQ i (wishO i x (storyT l i)) (ansO x (storyT l i)) (stK x) 4 ++ [doneE (wishO i x (storyT l i)) (ansO x (storyT l i))] := by rw [hst]; rfl
 have hsl : (storyT l (i + 1)).late = if i % 4 = 3 then [] else (storyT l i).late ++ offQ i (wishO i x (storyT l i)) (ansO x (storyT l i)) (stK x) 4 := by rw [hst]; rfl
 have hR15 : RF evtR F8 w15 (rows3 ++ [cc]) ((storyT l i).out ++ [callE (wishO i x (storyT l i))]) := (hR3.to f15).append (RF.one (rdTo rc f15b))
 replace hR4 := hR4.to f15
 replace hlF := hlF.to f15
 replace hw := rdTo hw f15
 replace ha := rdTo ha f15
 replace hp := hp.as_ (H' := itB gw 42 csw :: itB ga 44 csa :: itR 46 53 A15 ((storyT l i).out ++ [callE (wishO i x (storyT l i))]).length c15 (rows3 ++ [cc]).flatten :: itR 46 53 A4 (storyT l i).late.length c4 rows4.flatten :: itB g5 79 (blC (storyT l (i + 1)).bl) :: itB g6 80 (clC (storyT l (i + 1)).cl) :: H8) (by rw [hst, List.length_append, List.flatten_append, List.flatten_singleton]; rfl)
 refine so ?_
 refine wk_re (k := 3) (v := .slice A15 ((storyT l i).out ++ [callE (wishO i x (storyT l i))]).length c15) rfl (by rw [List.length_append]; rfl) ?_
 have hol : ((storyT l i).out ++ [callE (wishO i x (storyT l i))]).length ≤ 121 := by rw [List.length_append, List.length_singleton]; omega
 have hll : (storyT l i).late.length ≤ 120 := by omega
 clear hR3 rc hat14 f15 f15b f8 hst hcl hinv hb hn
 generalize rows3 ++ [cc] = rows3' at hp hR15
 generalize (storyT l i).out ++ [callE (wishO i x (storyT l i))] = o1 at *
 generalize wishO i x (storyT l i) = W at *
 generalize ansO x (storyT l i) = an at *
 generalize (storyT l i).late = l0 at *
 generalize stK x = kk at *
 have e0 : o1 ++ onQ i W an kk 0 = o1 := List.append_nil _
 have e0' : l0 ++ offQ i W an kk 0 = l0 := List.append_nil _
 refine Lp [0, 3, 4, 5, 6, 7, 9, 11, 12, 13] (fun L' w' mes => ∃ (q : Nat) (F9 : Nat → Prop) (A3 : Option Addr) (c3 : Nat) (r3 : List (List Value)) (A4 : Option Addr) (c4 : Nat) (r4 : List (List Value)), L' = [(0, .slice A l.length c), (3, .slice A3 (o1 ++ onQ i W an kk q).length c3), (4, .slice A4 (l0 ++ offQ i W an kk q).length c4), (5, pt g5 0), (6, pt g6 0), (7, iv (i : Int)), (9, iv kk), (11, pt gw 0), (12, pt ga 0), (13, iv (5 + (q : Int)))] ∧ q ≤ 4 ∧ (∃ H9, HP w (fun _ => False) F9 w' (itB gw 42 csw :: itB ga 44 csa :: itR 46 53 A3 (o1 ++ onQ i W an kk q).length c3 r3.flatten :: itR 46 53 A4 (l0 ++ offQ i W an kk q).length c4 r4.flatten :: itB g5 79 (blC (storyT l (i + 1)).bl) :: itB g6 80 (clC (storyT l (i + 1)).cl) :: H9)) ∧ RF evtR F9 w' r3 (o1 ++ onQ i W an kk q) ∧ RF evtR F9 w' r4 (l0 ++ offQ i W an kk q) ∧ wishR.rd F9 w' csw W ∧ ansR.rd F9 w' csa an ∧ GS intR F9 w' A c l ∧ mes = 4 - q) (4 - 0) ⟨0, F8, A15, c15, rows3', A4, c4, rows4, by rw [e0, e0']; rfl, Nat.zero_le _, ⟨H8, by rw [e0, e0']; exact hp⟩, by rw [e0]; exact hR15, by rw [e0']; exact hR4, hw, ha, hlF, rfl⟩ ?_
 clear hp hR15 hR4 hw ha hlF e0 e0'
 rintro _ wq _ ⟨q, F9, A3', c3', r3, A4', c4', r4, rfl, hq, ⟨H9, hp⟩, hR3, hR4, hw, ha, hlF, rfl⟩ KM hKM
 have hql := onQ_len i W an kk q
 have hql' := offQ_len i W an kk q
 have hlo1 : (o1 ++ onQ i W an kk q).length ≤ 125 := by rw [List.length_append]; omega
 have hll1 : (l0 ++ offQ i W an kk q).length ≤ 124 := by rw [List.length_append]; omega
 refine so ?_
 refine Cd ?_ ?_ <;> intro hc <;> refine so ?_
 ·have hq4 : q < 4 := by omega
  refine wl_conv (k1 := .i64) (k2 := .u8) (z := ((UInt8.ofNat i).toNat : Int)) (by decide) (by kernel_rfl) (by kernel_rfl) rfl (cu8 (by omega) rfl) (so ?_)
  refine wl_hloadX csw (i := 0) (by decide) ag42 rfl hp rfl (wishR.len hw) (drop0 (wishR.len hw)) (so ?_)
  refine Ce (lrun_ok (a := 5 + (q : Int)) (s := 1 + (i : Int)) (b := UInt8.ofNat i) (by unfold i64; omega) (by unfold i64; omega) hw) ?_
  rintro _ w3 ⟨ce, rfl, re, E3⟩
  replace hp := hp.ext E3
  refine so ?_
  refine Alo hp (h := fun g14 w4 hp E4 => ?_)
  have hle := evtR.len re
  refine Hs 0 hp (xs := ce) (ds := ce) (hc := ⟨rfl⟩) (hk := hle) (hl := by rw [hle]; exact leB_) (h1 := evtR.one re) (hq := putL_all (by rw [hle]; rfl)) (h := fun w5 hp C5 => so ?_)
  have hla := ansR.len ha
  refine wl_hloadX csa (i := 2) (by decide) ag44 rfl hp rfl hla (drop0 hla) (so ?_)
  refine Hs 0 hp (xs := csa) (ds := putL ce 49 csa) (hc := ⟨rfl⟩) (hk := hla) (hl := by rw [hla, hle]; exact leB_) (h1 := ansR.one ha) (hq := rfl) (h := fun w6 hp C6 => so ?_)
  have f36 : Frz F9 F9 w3 w6 := mv
  have fq6 : Frz F9 F9 wq w6 := mv
  have re6 : evtR.rd F9 w6 (putL ce 49 csa) (runA (5 + q) i W an) := set_ans (rdTo re f36) (rdTo ha fq6)
  refine wl_shr (by decide) rfl rfl (by omega) (shrI (by omega) (by omega)) (so ?_)
  refine wl_and (by decide) rfl rfl (and1I _) (so ?_)
  have hnw : nowQ kk (runA (5 + q) i W an) = (decide (kk.fdiv (2 ^ (5 + (q : Int)).toNat) % 2 = 1) || decide (5 + (q : Int) = 5)) := rfl
  refine Gs 99 ?_ ?_ <;> intro h1 <;> refine so ?_
  ·have hnow : nowQ kk (runA (5 + q) i W an) = true := by rw [hnw, decide_eq_true h1]; rfl
   refine aT (so ?_)
   refine wl_hloadX (putL ce 49 csa) (i := 0) (by decide) ag46 rfl hp rfl (evtR.len re6) (drop0 (evtR.len re6)) (so ?_)
   refine wl_oneOf (by decide) sl24 rfl rfl (evtR.len re6) leB_ ?_
   rintro _ w7 ⟨gv, rfl, hat7⟩ E7
   replace hp := hp.ext E7
   have re7 := keepE re6 E7
   refine wl_happend (i := 3) (m := 1) (size := 53) (news := putL ce 49 csa) (by decide) sl24 rfl rfl hp rfl (evtR.len re7) (fun b hb => by cases hb; exact hat7) (by simp) (evtR.one re7) (by omega) ?_
   rintro A8 c8 w8 hp C8
   have f8 : Frz F9 F9 wq w8 := mv
   have f78 : Frz F9 F9 w7 w8 := mv
   have re8 := rdTo re7 f78
   replace hp := hp.tail
   refine so ?_
   have e1 : onQ i W an kk (q + 1) = onQ i W an kk q ++ [runA (5 + q) i W an] := by rw [onQ_step hq4, hnow]; rfl
   have e2 : offQ i W an kk (q + 1) = offQ i W an kk q := by rw [offQ_step hq4, hnow, if_pos rfl, List.append_nil]
   have e3 : (o1 ++ onQ i W an kk (q + 1)).length = (o1 ++ onQ i W an kk q).length + 1 := by rw [e1, ← List.append_assoc, List.length_append]; rfl
   refine Kl [0, 3, 4, 5, 6, 7, 9, 11, 12, 13] hKM (4 - (q + 1)) ⟨q + 1, F9, A8, c8, r3 ++ [putL ce 49 csa], A4', c4', r4, ?_, by omega, ⟨H9, ?_⟩, ?_, ?_, rdTo hw f8, rdTo ha f8, hlF.to f8, rfl⟩ (by omega)
   ·rw [e2, e3, show (5 : Int) + ((q + 1 : Nat) : Int) = 5 + (q : Int) + 1 from by omega]
    rfl
   ·rw [e2, e3, List.flatten_append, List.flatten_singleton]
    exact hp
   ·rw [e1, ← List.append_assoc]
    exact (hR3.to f8).append (RF.one re8)
   ·rw [e2]
    exact hR4.to f8
  ·refine Cd ?_ ?_ <;> intro h2 <;> refine so ?_
   ·have hnow : nowQ kk (runA (5 + q) i W an) = true := by rw [hnw, decide_eq_true h2, Bool.or_true]
    refine wl_hloadX (putL ce 49 csa) (i := 0) (by decide) ag46 rfl hp rfl (evtR.len re6) (drop0 (evtR.len re6)) (so ?_)
    refine wl_oneOf (by decide) sl24 rfl rfl (evtR.len re6) leB_ ?_
    rintro _ w7 ⟨gv, rfl, hat7⟩ E7
    replace hp := hp.ext E7
    have re7 := keepE re6 E7
    refine wl_happend (i := 3) (m := 1) (size := 53) (news := putL ce 49 csa) (by decide) sl24 rfl rfl hp rfl (evtR.len re7) (fun b hb => by cases hb; exact hat7) (by simp) (evtR.one re7) (by omega) ?_
    rintro A8 c8 w8 hp C8
    have f8 : Frz F9 F9 wq w8 := mv
    have f78 : Frz F9 F9 w7 w8 := mv
    have re8 := rdTo re7 f78
    replace hp := hp.tail
    refine so ?_
    have e1 : onQ i W an kk (q + 1) = onQ i W an kk q ++ [runA (5 + q) i W an] := by rw [onQ_step hq4, hnow]; rfl
    have e2 : offQ i W an kk (q + 1) = offQ i W an kk q := by rw [offQ_step hq4, hnow, if_pos rfl, List.append_nil]
    have e3 : (o1 ++ onQ i W an kk (q + 1)).length = (o1 ++ onQ i W an kk q).length + 1 := by rw [e1, ← List.append_assoc, List.length_append]; rfl
    refine Kl [0, 3, 4, 5, 6, 7, 9, 11, 12, 13] hKM (4 - (q + 1)) ⟨q + 1, F9, A8, c8, r3 ++ [putL ce 49 csa], A4', c4', r4, ?_, by omega, ⟨H9, ?_⟩, ?_, ?_, rdTo hw f8, rdTo ha f8, hlF.to f8, rfl⟩ (by omega)
    ·rw [e2, e3, show (5 : Int) + ((q + 1 : Nat) : Int) = 5 + (q : Int) + 1 from by omega]
     rfl
    ·rw [e2, e3, List.flatten_append, List.flatten_singleton]
     exact hp
    ·rw [e1, ← List.append_assoc]
     exact (hR3.to f8).append (RF.one re8)
    ·rw [e2]
     exact hR4.to f8
   ·have hnow : nowQ kk (runA (5 + q) i W an) = false := by rw [hnw, decide_eq_false h1, decide_eq_false h2]; rfl
    refine wl_hloadX (putL ce 49 csa) (i := 0) (by decide) ag46 rfl hp rfl (evtR.len re6) (drop0 (evtR.len re6)) (so ?_)
    refine wl_oneOf (by decide) sl24 rfl rfl (evtR.len re6) leB_ ?_
    rintro _ w7 ⟨gv, rfl, hat7⟩ E7
    replace hp := hp.ext E7
    have re7 := keepE re6 E7
    refine wl_happend (i := 4) (m := 1) (size := 53) (news := putL ce 49 csa) (by decide) sl24 rfl rfl hp rfl (evtR.len re7) (fun b hb => by cases hb; exact hat7) (by simp) (evtR.one re7) (by omega) ?_
    rintro A8 c8 w8 hp C8
    have f8 : Frz F9 F9 wq w8 := mv
    have f78 : Frz F9 F9 w7 w8 := mv
    have re8 := rdTo re7 f78
    replace hp := hp.tail
    refine so ?_
    have e1 : onQ i W an kk (q + 1) = onQ i W an kk q := by rw [onQ_step hq4, hnow, if_neg (by decide), List.append_nil]
    have e2 : offQ i W an kk (q + 1) = offQ i W an kk q ++ [runA (5 + q) i W an] := by rw [offQ_step hq4, hnow]; rfl
    have e3 : (l0 ++ offQ i W an kk (q + 1)).length = (l0 ++ offQ i W an kk q).length + 1 := by rw [e2, ← List.append_assoc, List.length_append]; rfl
    refine Kl [0, 3, 4, 5, 6, 7, 9, 11, 12, 13] hKM (4 - (q + 1)) ⟨q + 1, F9, A3', c3', r3, A8, c8, r4 ++ [putL ce 49 csa], ?_, by omega, ⟨H9, ?_⟩, ?_, ?_, rdTo hw f8, rdTo ha f8, hlF.to f8, rfl⟩ (by omega)
    ·rw [e1, e3, show (5 : Int) + ((q + 1 : Nat) : Int) = 5 + (q : Int) + 1 from by omega]
     rfl
    ·rw [e1, e3, List.flatten_append, List.flatten_singleton]
     exact hp
    ·rw [e1]
     exact hR3.to f8
    ·rw [e2, ← List.append_assoc]
     exact (hR4.to f8).append (RF.one re8)
 obtain rfl : q = 4 := by omega
 clear hKM
 refine wl_hloadX csw (i := 0) (by decide) ag42 rfl hp rfl (wishR.len hw) (drop0 (wishR.len hw)) (so ?_)
 refine wl_hloadX csa (i := 1) (by decide) ag44 rfl hp rfl (ansR.len ha) (drop0 (ansR.len ha)) (so ?_)
 refine Ce (ldone_ok hw ha) ?_
 rintro _ w3 ⟨ce, rfl, re, E3⟩
 replace hp := hp.ext E3
 refine so ?_
 refine wl_oneOf (by decide) sl24 rfl rfl (evtR.len re) leB_ ?_
 rintro _ w7 ⟨gv, rfl, hat7⟩ E7
 replace hp := hp.ext E7
 have re7 := keepE re E7
 refine wl_happend (i := 2) (m := 1) (size := 53) (news := ce) (by decide) sl24 rfl rfl hp rfl (evtR.len re7) (fun b hb => by cases hb; exact hat7) (by simp) (evtR.one re7) (by omega) ?_
 rintro A8 c8 w8 hp C8
 have f8 : Frz F9 F9 wq w8 := mv
 have f78 : Frz F9 F9 w7 w8 := mv
 replace hp := hp.as_ (H' := itB gw 42 csw :: itB ga 44 csa :: itR 46 53 A8 (o1 ++ onQ i W an kk 4 ++ [doneE W an]).length c8 (r3 ++ [ce]).flatten :: itR 46 53 A4' (l0 ++ offQ i W an kk 4).length c4' r4.flatten :: itB g5 79 (blC (storyT l (i + 1)).bl) :: itB g6 80 (clC (storyT l (i + 1)).cl) :: H9) (by rw [lenS (o1 ++ onQ i W an kk 4), List.flatten_append, List.flatten_singleton]; rfl)
 have hR8 : RF evtR F9 w8 (r3 ++ [ce]) (o1 ++ onQ i W an kk 4 ++ [doneE W an]) := (hR3.to f8).append (RF.one (rdTo re7 f78))
 replace hR4 := hR4.to f8
 replace hlF := hlF.to f8
 have hl8 : (o1 ++ onQ i W an kk 4).length + 1 = (o1 ++ onQ i W an kk 4 ++ [doneE W an]).length := by rw [lenS (o1 ++ onQ i W an kk 4)]
 refine so ?_
 rw [hl8]
 have hl8b : (o1 ++ onQ i W an kk 4 ++ [doneE W an]).length ≤ 126 := by omega
 clear hR3 hw ha re re7 hat7 f78 hol hll hql hql' hlo1 hc hl8 C8
 generalize hm1 : o1 ++ onQ i W an kk 4 ++ [doneE W an] = m1 at *
 generalize l0 ++ offQ i W an kk 4 = l1 at *
 generalize r3 ++ [ce] = r8 at *
 refine wl_rem (z := ((i % 4 : Nat) : Int)) (by decide) rfl rfl (by decide) (Int.ofNat_tmod _ _).symm (so ?_)
 refine Cd ?_ ?_ <;> intro q1 <;> refine so ?_
 rotate_left
 ·rw [if_neg (by omega)] at hso hsl
  refine Kl [0, 3, 4, 5, 6, 7] hKL (l.length - (i + 1)) ⟨i + 1, F9, A8, c8, r8, A4', c4', r4, ?_, by omega, by omega, ⟨H9, ?_⟩, ?_, ?_, hlF, rfl⟩ (by omega)
  ·rw [hso, hsl]
   rfl
  ·rw [hso, hsl]
   exact hp.tail.tail
  ·rw [hso]; exact hR8
  ·rw [hsl]; exact hR4
 ·rw [if_pos (by omega)] at hso hsl
  refine wl_happend (i := 2) (m := l1.length) (size := 53) (news := r4.flatten) (by decide) sl24 rfl rfl hp rfl (by rw [hR4.flen]; rfl) (fun b hb => (hp.rowAt (i := 3) rfl).at_ hb) (fun hb => ?_) ?_ (by omega) ?_
  ·by_cases h0 : 0 < l1.length
   ·obtain ⟨g, hg⟩ := row_addr (hp.rowAt (i := 3) rfl) h0
    rw [hb] at hg; cases hg
   ·omega
  ·exact RF.oneC hR4
  rintro A9 c9 w9 hp C9
  have f9 : Frz F9 F9 w8 w9 := mv
  have hR9 : RF evtR F9 w9 (r8 ++ r4) (m1 ++ l1) := (hR8.to f9).append (hR4.to f9)
  replace hp := (hp.as_ (H' := itB gw 42 csw :: itB ga 44 csa :: itR 46 53 A9 (m1 ++ l1).length c9 (r8 ++ r4).flatten :: itR 46 53 A4' l1.length c4' r4.flatten :: itB g5 79 (blC (storyT l (i + 1)).bl) :: itB g6 80 (clC (storyT l (i + 1)).cl) :: H9) (by rw [List.length_append, List.flatten_append]; rfl)).tail.tail
  replace hp := (hp.up 1 rfl).tail
  replace hlF := hlF.to f9
  have hl9 : m1.length + l1.length = (m1 ++ l1).length := by rw [List.length_append]
  refine so ?_
  rw [hl9]
  have hl9b : (m1 ++ l1).length ≤ 250 := by omega
  clear hR8 hR4 hl9
  generalize hm2 : m1 ++ l1 = m2 at *
  generalize r8 ++ r4 = r9 at *
  have e0 : m2 ++ mkQ i 0 = m2 := List.append_nil _
  refine Lp [0, 3, 4, 5, 6, 7, 15] (fun L' w' mes => ∃ (q : Nat) (A3 : Option Addr) (c3 : Nat) (r3 : List (List Value)), L' = [(0, .slice A l.length c), (3, .slice A3 (m2 ++ mkQ i q).length c3), (4, .slice none 0 0), (5, pt g5 0), (6, pt g6 0), (7, iv (i : Int)), (15, iv (5 + (q : Int)))] ∧ q ≤ 4 ∧ HP w (fun _ => False) F9 w' (itR 46 53 A3 (m2 ++ mkQ i q).length c3 r3.flatten :: itB g5 79 (blC (storyT l (i + 1)).bl) :: itB g6 80 (clC (storyT l (i + 1)).cl) :: H9) ∧ RF evtR F9 w' r3 (m2 ++ mkQ i q) ∧ GS intR F9 w' A c l ∧ mes = 4 - q) (4 - 0) ⟨0, A9, c9, r9, by rw [e0]; rfl, Nat.zero_le _, by rw [e0]; exact hp, by rw [e0]; exact hR9, hlF, rfl⟩ ?_
  clear hp hR9 hlF e0
  rintro _ wv _ ⟨q, A3, c3, r3, rfl, hq4, hp, hR3, hlF, rfl⟩ KM hKM
  have hql := mkQ_len i q
  have hlo1 : (m2 ++ mkQ i q).length ≤ 254 := by rw [List.length_append]; omega
  refine so ?_
  refine Cd ?_ ?_ <;> intro hc2 <;> refine so ?_
  ·have hq5 : q < 4 := by omega
   refine wl_conv (k1 := .i64) (k2 := .u8) (z := ((UInt8.ofNat (100 + i)).toNat : Int)) (by decide) (by kernel_rfl) (by kernel_rfl) rfl (cu8 (by omega) (by omega)) (so ?_)
   refine Ce (lnode_ok (S := F9) (k := 4) (a := 5 + (q : Int)) (ep := 0) (s := 1 + (i : Int)) (b := UInt8.ofNat (100 + i)) (by unfold i64; omega) (by unfold i64; omega) j0 (by unfold i64; omega)) ?_
   rintro _ w3 ⟨ce, rfl, re, E3⟩
   replace hp := hp.ext E3
   refine so ?_
   refine wl_oneOf (by decide) sl24 rfl rfl (evtR.len re) leB_ ?_
   rintro _ w7 ⟨gv, rfl, hat7⟩ E7
   replace hp := hp.ext E7
   have re7 := keepE re E7
   refine wl_happend (i := 0) (m := 1) (size := 53) (news := ce) (by decide) sl24 rfl rfl hp rfl (evtR.len re7) (fun b hb => by cases hb; exact hat7) (by simp) (evtR.one re7) (by omega) ?_
   rintro A10 c10 w10 hp C10
   have f10 : Frz F9 F9 wv w10 := mv
   have f710 : Frz F9 F9 w7 w10 := mv
   have re10 := rdTo re7 f710
   refine so ?_
   have e3 : (m2 ++ mkQ i (q + 1)).length = (m2 ++ mkQ i q).length + 1 := by rw [mkQ_step hq5, ← List.append_assoc, lenS (m2 ++ mkQ i q)]
   refine Kl [0, 3, 4, 5, 6, 7, 15] hKM (4 - (q + 1)) ⟨q + 1, A10, c10, r3 ++ [ce], ?_, by omega, ?_, ?_, hlF.to f10, rfl⟩ (by omega)
   ·rw [e3, show (5 : Int) + ((q + 1 : Nat) : Int) = 5 + (q : Int) + 1 from by omega]
    rfl
   ·rw [e3, List.flatten_append, List.flatten_singleton]
    exact hp
   ·rw [mkQ_step hq5, ← List.append_assoc]
    exact (hR3.to f10).append (RF.one re10)
  ·obtain rfl : q = 4 := by omega
   have e4 : m2 ++ mkQ i 4 = (storyT l (i + 1)).out := by rw [hso]; rfl
   rw [e4] at hp hR3 ⊢
   refine Kl [0, 3, 4, 5, 6, 7] hKL (l.length - (i + 1)) ⟨i + 1, F9, A3, c3, r3, none, 0, [], ?_, by omega, by omega, ⟨H9, ?_⟩, ?_, ?_, hlF, rfl⟩ (by omega)
   ·rw [hsl]
    rfl
   ·rw [hsl]
    exact (hp.noRow 46 53).up 1 rfl
   ·exact hR3
   ·rw [hsl]; exact RF.nil _ _ _
theorem row_put {w0 w w' : World} {F : Nat → Prop} {H : List It} {A : Option Addr} {c n o : Nat} {rows : List (List Value)} {s : List Evt} {cs : List Value} {v : Value} {e : Evt} (hp : HP w0 (fun _ => False) F w' (itR 46 53 A s.length c (putL rows.flatten (n * 53 + o) [v]) :: H)) (hR : RF evtR F w rows s) (hc : Chg (fun b => ¬ F b) w w') (hj : rows[n]? = some cs) (ho : o < 53) (he : evtR.rd F w' (cs.set o v) e) {r a : Int} (hf : findS planP (s.set n e) = (r, a, 0)) : Ret prog 15 #[iv r, iv a, .slice A s.length c] w' (fun v w2 => v = .bool true ∧ Ext w' w2) := by
 rw [flat_put (mm := 53) (fun x hx => hR.lens x hx) hj ho] at hp
 have hR' := rf_put (hR.fz hc) (n := n) he
 have hl : (s.set n e).length = s.length := List.length_set
 rw [← hl] at hp ⊢
 exact lfind_yes (row_gs hp hR') hf
end Go.Proofs.Ytgheaedligkhoaa
