/- What each of these functions computes, for every argument that its theorem names; a part of what the proof of JudgeKnown stands on. -/
import Derived.Test.YtgheaedligkhoaaDaa
import Derived.Test.YtgheaedligkhoaaAaa
import Derived.Test.YtgheaedligkhoaaAab
import Derived.Test.YtgheaedligkhoaaAac
import Derived.Test.YtgheaedligkhoaaAad
import Derived.Test.YtgheaedligkhoaaAae
import Derived.Test.YtgheaedligkhoaaAaf
import Derived.Test.YtgheaedligkhoaaAag
import Derived.Test.YtgheaedligkhoaaAah
import Derived.Test.YtgheaedligkhoaaAam
import Derived.Test.YtgheaedligkhoaaAar
import Derived.Test.YtgheaedligkhoaaAav
import Derived.Test.YtgheaedligkhoaaDab
import Derived.Test.YtgheaedligkhoaaDac
namespace Go.Proofs.Ytgheaedligkhoaa
open Go.RowKit Go.Eng _root_.Go.Proofs.Try Go.Eng _root_.Go.Proofs.Try
set_option maxRecDepth 100000
variable {w0 w : World} {M0 Fz : Nat → Prop} {H : List It} {A : Option Addr} {c : Nat}
set_option maxHeartbeats 16000000 in
theorem works_ok {w : World} : Ret prog 11 #[] w (fun v w' => v = .bool true ∧ Ext w w') := by
 refine ret_of_wk func11 rfl ntmps11 leB_ ?_
 have hp := HP.begin_ w
 generalize hF0 : (fun b => b < w.heap.size) = F0 at hp
 refine so ?_
 refine Ce (lwrite_ok (c := 31) (t := 1) (bl := 3) (b := 7) (by unfold i64; omega) j1 j3) ?_
 rintro _ w2 ⟨cs2, rfl, rd2, E2⟩
 obtain ⟨F2, hp, s2, n2, _⟩ := hp.frz E2
 replace rd2 := wishR.mono (fun b hb h => n2 b h hb) rd2
 refine so ?_
 refine Alo hp (h := fun g3 w3 hp E3 => ?_)
 refine so ?_
 have rd4 := rdTo (F := F2) (w' := w3) (wishR.mono (fun _ _ h => h) rd2) mv
 have hl4 : cs2.length = 10 := wishR.len rd4
 refine Hs 0 hp (xs := cs2) (ds := cs2) (hc := ⟨rfl⟩) (hk := hl4) (hl := by rw [hl4]; exact leB_) (h1 := wishR.one rd4) (hq := putL_all (by rw [hl4]; rfl)) (h := fun w4 hp C4 => ?_)
 replace rd4 := rdTo (F := F2) (w' := w4) rd4 mv
 have z5 : Frz F0 F2 w w4 := mv
 refine so ?_
 refine Ce (lnode_ok (S := F2) (k := 6) (a := 5) (ep := 0) (s := 4) (b := 9) (by unfold i64; omega) (by unfold i64; omega) j0 (by unfold i64; omega)) ?_
 rintro _ w6 ⟨cs6, rfl, rd6, E6⟩
 replace hp := hp.ext E6
 refine so ?_
 refine Alo hp (h := fun g7 w7 hp E7 => ?_)
 refine so ?_
 have rd8 := rdTo (F := F2) (w' := w7) (evtR.mono (fun _ _ h => h) rd6) mv
 have hl8 : cs6.length = 53 := evtR.len rd8
 refine Hs 0 hp (xs := cs6) (ds := cs6) (hc := ⟨rfl⟩) (hk := hl8) (hl := by rw [hl8]; exact leB_) (h1 := evtR.one rd8) (hq := putL_all (by rw [hl8]; rfl)) (h := fun w8 hp C8 => ?_)
 replace rd8 := rdTo (F := F2) (w' := w8) rd8 mv
 have z9 : Frz F2 F2 w4 w8 := mv
 replace rd4 := rdTo rd4 z9
 obtain ⟨F10, hp, s10, hat10⟩ := HP.frzBlk hp
 replace rd4 := rdWd s10 rd4
 replace rd8 := rdWd s10 rd8
 obtain ⟨q10, hq10⟩ : ∃ q, q = cs6 := ⟨_, rfl⟩
 rw [← hq10] at hat10 rd8
 obtain ⟨F11, hp, s11, hat11⟩ := HP.frzBlk hp
 replace hat10 := hat10.wid s11
 replace rd8 := rdWd s11 rd8
 replace rd4 := rdWd s11 rd4
 obtain ⟨q11, hq11⟩ : ∃ q, q = cs2 := ⟨_, rfl⟩
 rw [← hq11] at hat11 rd4
 refine so ?_
 refine wdL [.eq (.agg q11.toArray), .rd evtR (fun _ => True) (callE (wrW 31 1 3 7)), .eq (.agg q11.toArray), .rd evtR (fun _ => True) (runE 5 1 1 (wrW 31 1 3 7)), .eq (.agg q11.toArray), .rd ansR (fun _ => True) ans0, .rd evtR (fun _ => True) (doneE (wrW 31 1 3 7) ans0), .gs evtR (fun _ => True) [(callE (wrW 31 1 3 7)), (runE 5 1 1 (wrW 31 1 3 7)), (doneE (wrW 31 1 3 7) ans0)], .eq (.bool true), .eq (.bool true), .eq (.agg q11.toArray), .rd evtR (fun _ => True) (callE (wrW 31 1 3 7)), .eq (.agg q11.toArray), .rd ansR (fun _ => True) ans0, .rd evtR (fun _ => True) (doneE (wrW 31 1 3 7) ans0), .gs evtR (fun _ => True) [(callE (wrW 31 1 3 7)), (doneE (wrW 31 1 3 7) ans0)], .eq (.bool true), .eq (.bool true), .eq (.bool true), .eq (.agg q11.toArray), .rd evtR (fun _ => True) (runE 5 1 1 (wrW 31 1 3 7)), .eq (.agg q11.toArray), .rd evtR (fun _ => True) (runE 6 1 2 (wrW 31 1 3 7)), .gs evtR (fun _ => True) [(runE 5 1 1 (wrW 31 1 3 7)), (runE 6 1 2 (wrW 31 1 3 7))], .eq (.bool true), .eq (.bool true), .eq (.bool true), .eq (.agg q10.toArray), .rd evtR (fun _ => True) (nodeE 7 9 1 0 9), .gs evtR (fun _ => True) [(nodeE 6 5 0 4 9), (nodeE 7 9 1 0 9)], .eq (.bool true), .eq (.bool true), .eq (.bool true), .eq (.agg q10.toArray), .eq (.agg q11.toArray), .rd evtR (fun _ => True) (runE 6 5 1 (wrW 31 1 3 7)), .gs evtR (fun _ => True) [(nodeE 6 5 0 4 9), (runE 6 5 1 (wrW 31 1 3 7))], .eq (.bool true), .eq (.bool true), .eq (.bool true)] ?_ ?_
 ·refine ⟨?_, ?_, ?_, ?_, ?_, ?_, ?_, ?_, ?_, ?_, ?_, ?_, ?_, ?_, ?_, ?_, ?_, ?_, ?_, ?_, ?_, ?_, ?_, ?_, ?_, ?_, ?_, ?_, ?_, ?_, ?_, ?_, ?_, ?_, ?_, ?_, ?_, ?_, ?_, ?_, trivial⟩ <;> intro F wF hER hk
  ·exact wl_loadA (by decide) ag42 (hk.pi 1) (hat11.ext hER).at_ (wishR.len rd4) qz
  ·have e5 := hk.pe 0 []
   refine Cl_ (xs := [.tmp 5]) (by kernel_rfl) (by simp only [evs, ev, e5]; first | done | rfl) (lcall_ok (wishR.mono (S' := fun _ => True) (fun _ _ _ => trivial) (keepE rd4 hER))) ?_
   rintro _ wc ⟨cc, rfl, rc, hEc⟩
   exact qz ⟨hEc, cc, rfl, evtR.mono (fun _ _ _ => trivial) rc⟩
  ·exact wl_loadA (by decide) ag42 (hk.pi 1) (hat11.ext hER).at_ (wishR.len rd4) qz
  ·have e7 := hk.pe 2 []
   refine Cl_ (xs := [.const (.int .i64 5), .const (.int .i64 1), .const (.int .u8 1), .tmp 7]) (by kernel_rfl) (by simp only [evs, ev, e7]; first | done | rfl) (lrun_ok (a := 5) (s := 1) (b := 1) (by unfold i64; omega) j1 (wishR.mono (S' := fun _ => True) (fun _ _ _ => trivial) (keepE rd4 hER))) ?_
   rintro _ wc ⟨cc, rfl, rc, hEc⟩
   exact qz ⟨hEc, cc, rfl, evtR.mono (fun _ _ _ => trivial) rc⟩
  ·exact wl_loadA (by decide) ag42 (hk.pi 1) (hat11.ext hER).at_ (wishR.len rd4) qz
  ·refine wl_builtS (ps := []) (by decide) bld44 rfl rfl ?_
   exact qz ⟨Chg.refl _ _, _, (rfl : _ = Value.agg (anC ans0 none 0 none 0).toArray), ans0_rd j0⟩
  ·have e9 := hk.pe 4 []
   obtain ⟨v10, e10, c10, rfl, r10⟩ := hk.pp 5 []
   refine Cl_ (xs := [.tmp 9, .tmp 10]) (by kernel_rfl) (by simp only [evs, ev, e9, e10]; first | done | rfl) (ldone_ok (wishR.mono (S' := fun _ => True) (fun _ _ _ => trivial) (keepE rd4 hER)) r10) ?_
   rintro _ wc ⟨cc, rfl, rc, hEc⟩
   exact qz ⟨hEc, cc, rfl, evtR.mono (fun _ _ _ => trivial) rc⟩
  ·obtain ⟨v6, e6, c6, rfl, r6⟩ := hk.pp 1 []
   obtain ⟨v8, e8, c8, rfl, r8⟩ := hk.pp 3 []
   obtain ⟨v11, e11, c11, rfl, r11⟩ := hk.pp 6 []
   refine wl_bsliceR (r := evtR) (S := fun _ => True) (xs := [.tmp 6, .tmp 8, .tmp 11]) (css := [c6, c8, c11]) (l := [(callE (wrW 31 1 3 7)), (runE 5 1 1 (wrW 31 1 3 7)), (doneE (wrW 31 1 3 7) ans0)]) (by decide) sl24 rfl (by simp only [evs, ev, e6, e8, e11, List.map_cons, List.map_nil]) (rfc r6 (rfc r8 (rfc r11 (RF.nil _ _ _)))) rfl (by simp) leB_ ?_
   rintro g wc _ gs hEc
   exact qz ⟨hEc, some ⟨g, 0, none⟩, _, rfl, gs.wid (fun _ _ => trivial)⟩
  ·obtain ⟨v12, e12, A12, c12, rfl, r12⟩ := hk.pp 7 []
   refine Cl_ (xs := [.const (.int .i64 0), .const (.int .i64 0), .tmp 12]) (by kernel_rfl) (by simp only [evs, ev, e12]; first | done | rfl) (lfind_yes r12 works_ok_f1) ?_
   rintro _ wc ⟨rfl, hEc⟩
   exact qz ⟨hEc, rfl⟩
  ·have ea := hk.pe 8 []
   exact dm ea
  ·refine wl_gyes rfl (hk.pe 9 []) ?_
   exact wl_loadA (by decide) ag42 (hk.pi 1) (hat11.ext hER).at_ (wishR.len rd4) qz
  ·refine wl_gyes rfl (hk.pe 9 []) ?_
   have e15 := hk.pe 10 []
   refine Cl_ (xs := [.tmp 15]) (by kernel_rfl) (by simp only [evs, ev, e15]; first | done | rfl) (lcall_ok (wishR.mono (S' := fun _ => True) (fun _ _ _ => trivial) (keepE rd4 hER))) ?_
   rintro _ wc ⟨cc, rfl, rc, hEc⟩
   exact qz ⟨hEc, cc, rfl, evtR.mono (fun _ _ _ => trivial) rc⟩
  ·refine wl_gyes rfl (hk.pe 9 []) ?_
   exact wl_loadA (by decide) ag42 (hk.pi 1) (hat11.ext hER).at_ (wishR.len rd4) qz
  ·refine wl_gyes rfl (hk.pe 9 []) ?_
   refine wl_builtS (ps := []) (by decide) bld44 rfl rfl ?_
   exact qz ⟨Chg.refl _ _, _, (rfl : _ = Value.agg (anC ans0 none 0 none 0).toArray), ans0_rd j0⟩
  ·refine wl_gyes rfl (hk.pe 9 []) ?_
   have e17 := hk.pe 12 []
   obtain ⟨v18, e18, c18, rfl, r18⟩ := hk.pp 13 []
   refine Cl_ (xs := [.tmp 17, .tmp 18]) (by kernel_rfl) (by simp only [evs, ev, e17, e18]; first | done | rfl) (ldone_ok (wishR.mono (S' := fun _ => True) (fun _ _ _ => trivial) (keepE rd4 hER)) r18) ?_
   rintro _ wc ⟨cc, rfl, rc, hEc⟩
   exact qz ⟨hEc, cc, rfl, evtR.mono (fun _ _ _ => trivial) rc⟩
  ·refine wl_gyes rfl (hk.pe 9 []) ?_
   obtain ⟨v16, e16, c16, rfl, r16⟩ := hk.pp 11 []
   obtain ⟨v19, e19, c19, rfl, r19⟩ := hk.pp 14 []
   refine wl_bsliceR (r := evtR) (S := fun _ => True) (xs := [.tmp 16, .tmp 19]) (css := [c16, c19]) (l := [(callE (wrW 31 1 3 7)), (doneE (wrW 31 1 3 7) ans0)]) (by decide) sl24 rfl (by simp only [evs, ev, e16, e19, List.map_cons, List.map_nil]) (rfc r16 (rfc r19 (RF.nil _ _ _))) rfl (by simp) leB_ ?_
   rintro g wc _ gs hEc
   exact qz ⟨hEc, some ⟨g, 0, none⟩, _, rfl, gs.wid (fun _ _ => trivial)⟩
  ·refine wl_gyes rfl (hk.pe 9 []) ?_
   obtain ⟨v20, e20, A20, c20, rfl, r20⟩ := hk.pp 15 []
   refine Cl_ (xs := [.const (.int .i64 10), .const (.int .i64 1), .tmp 20]) (by kernel_rfl) (by simp only [evs, ev, e20]; first | done | rfl) (lfind_yes r20 works_ok_f2) ?_
   rintro _ wc ⟨rfl, hEc⟩
   exact qz ⟨hEc, rfl⟩
  ·have ea := hk.pe 9 []
   have eb := hk.pe 16 []
   exact aPt (by decide) ea rfl eb qz
  ·have ea := hk.pe 17 []
   exact dm ea
  ·refine wl_gyes rfl (hk.pe 18 []) ?_
   exact wl_loadA (by decide) ag42 (hk.pi 1) (hat11.ext hER).at_ (wishR.len rd4) qz
  ·refine wl_gyes rfl (hk.pe 18 []) ?_
   have e24 := hk.pe 19 []
   refine Cl_ (xs := [.const (.int .i64 5), .const (.int .i64 1), .const (.int .u8 1), .tmp 24]) (by kernel_rfl) (by simp only [evs, ev, e24]; first | done | rfl) (lrun_ok (a := 5) (s := 1) (b := 1) (by unfold i64; omega) j1 (wishR.mono (S' := fun _ => True) (fun _ _ _ => trivial) (keepE rd4 hER))) ?_
   rintro _ wc ⟨cc, rfl, rc, hEc⟩
   exact qz ⟨hEc, cc, rfl, evtR.mono (fun _ _ _ => trivial) rc⟩
  ·refine wl_gyes rfl (hk.pe 18 []) ?_
   exact wl_loadA (by decide) ag42 (hk.pi 1) (hat11.ext hER).at_ (wishR.len rd4) qz
  ·refine wl_gyes rfl (hk.pe 18 []) ?_
   have e26 := hk.pe 21 []
   refine Cl_ (xs := [.const (.int .i64 6), .const (.int .i64 1), .const (.int .u8 2), .tmp 26]) (by kernel_rfl) (by simp only [evs, ev, e26]; first | done | rfl) (lrun_ok (a := 6) (s := 1) (b := 2) (by unfold i64; omega) j1 (wishR.mono (S' := fun _ => True) (fun _ _ _ => trivial) (keepE rd4 hER))) ?_
   rintro _ wc ⟨cc, rfl, rc, hEc⟩
   exact qz ⟨hEc, cc, rfl, evtR.mono (fun _ _ _ => trivial) rc⟩
  ·refine wl_gyes rfl (hk.pe 18 []) ?_
   obtain ⟨v25, e25, c25, rfl, r25⟩ := hk.pp 20 []
   obtain ⟨v27, e27, c27, rfl, r27⟩ := hk.pp 22 []
   refine wl_bsliceR (r := evtR) (S := fun _ => True) (xs := [.tmp 25, .tmp 27]) (css := [c25, c27]) (l := [(runE 5 1 1 (wrW 31 1 3 7)), (runE 6 1 2 (wrW 31 1 3 7))]) (by decide) sl24 rfl (by simp only [evs, ev, e25, e27, List.map_cons, List.map_nil]) (rfc r25 (rfc r27 (RF.nil _ _ _))) rfl (by simp) leB_ ?_
   rintro g wc _ gs hEc
   exact qz ⟨hEc, some ⟨g, 0, none⟩, _, rfl, gs.wid (fun _ _ => trivial)⟩
  ·refine wl_gyes rfl (hk.pe 18 []) ?_
   obtain ⟨v28, e28, A28, c28, rfl, r28⟩ := hk.pp 23 []
   refine Cl_ (xs := [.const (.int .i64 4), .const (.int .i64 1), .tmp 28]) (by kernel_rfl) (by simp only [evs, ev, e28]; first | done | rfl) (lfind_yes r28 works_ok_f3) ?_
   rintro _ wc ⟨rfl, hEc⟩
   exact qz ⟨hEc, rfl⟩
  ·have ea := hk.pe 18 []
   have eb := hk.pe 24 []
   exact aPt (by decide) ea rfl eb qz
  ·have ea := hk.pe 25 []
   exact dm ea
  ·refine wl_gyes rfl (hk.pe 26 []) ?_
   exact wl_loadA (by decide) ag46 (hk.pi 2) (hat10.ext hER).at_ (evtR.len rd8) qz
  ·refine wl_gyes rfl (hk.pe 26 []) ?_
   refine Cl_ (xs := [.const (.int .i64 7), .const (.int .i64 9), .const (.int .i64 1), .const (.int .i64 0), .const (.int .u8 9)]) (by kernel_rfl) rfl (lnode_ok (S := fun _ => True) (k := 7) (a := 9) (ep := 1) (s := 0) (b := 9) (by unfold i64; omega) (by unfold i64; omega) j1 j0) ?_
   rintro _ wc ⟨cc, rfl, rc, hEc⟩
   exact qz ⟨hEc, cc, rfl, evtR.mono (fun _ _ _ => trivial) rc⟩
  ·refine wl_gyes rfl (hk.pe 26 []) ?_
   have e32 := hk.pe 27 []
   obtain ⟨v33, e33, c33, rfl, r33⟩ := hk.pp 28 []
   refine wl_bsliceR (r := evtR) (S := fun _ => True) (xs := [.tmp 32, .tmp 33]) (css := [q10, c33]) (l := [(nodeE 6 5 0 4 9), (nodeE 7 9 1 0 9)]) (by decide) sl24 rfl (by simp only [evs, ev, e32, e33, List.map_cons, List.map_nil]) (rfc (evtR.mono (fun _ _ _ => trivial) (keepE rd8 hER)) (rfc r33 (RF.nil _ _ _))) rfl (by simp) leB_ ?_
   rintro g wc _ gs hEc
   exact qz ⟨hEc, some ⟨g, 0, none⟩, _, rfl, gs.wid (fun _ _ => trivial)⟩
  ·refine wl_gyes rfl (hk.pe 26 []) ?_
   obtain ⟨v34, e34, A34, c34, rfl, r34⟩ := hk.pp 29 []
   refine Cl_ (xs := [.const (.int .i64 1), .const (.int .i64 1), .tmp 34]) (by kernel_rfl) (by simp only [evs, ev, e34]; first | done | rfl) (lfind_yes r34 works_ok_f4) ?_
   rintro _ wc ⟨rfl, hEc⟩
   exact qz ⟨hEc, rfl⟩
  ·have ea := hk.pe 26 []
   have eb := hk.pe 30 []
   exact aPt (by decide) ea rfl eb qz
  ·have ea := hk.pe 31 []
   exact dm ea
  ·refine wl_gyes rfl (hk.pe 32 []) ?_
   exact wl_loadA (by decide) ag46 (hk.pi 2) (hat10.ext hER).at_ (evtR.len rd8) qz
  ·refine wl_gyes rfl (hk.pe 32 []) ?_
   exact wl_loadA (by decide) ag42 (hk.pi 1) (hat11.ext hER).at_ (wishR.len rd4) qz
  ·refine wl_gyes rfl (hk.pe 32 []) ?_
   have e39 := hk.pe 34 []
   refine Cl_ (xs := [.const (.int .i64 6), .const (.int .i64 5), .const (.int .u8 1), .tmp 39]) (by kernel_rfl) (by simp only [evs, ev, e39]; first | done | rfl) (lrun_ok (a := 6) (s := 5) (b := 1) (by unfold i64; omega) (by unfold i64; omega) (wishR.mono (S' := fun _ => True) (fun _ _ _ => trivial) (keepE rd4 hER))) ?_
   rintro _ wc ⟨cc, rfl, rc, hEc⟩
   exact qz ⟨hEc, cc, rfl, evtR.mono (fun _ _ _ => trivial) rc⟩
  ·refine wl_gyes rfl (hk.pe 32 []) ?_
   have e38 := hk.pe 33 []
   obtain ⟨v40, e40, c40, rfl, r40⟩ := hk.pp 35 []
   refine wl_bsliceR (r := evtR) (S := fun _ => True) (xs := [.tmp 38, .tmp 40]) (css := [q10, c40]) (l := [(nodeE 6 5 0 4 9), (runE 6 5 1 (wrW 31 1 3 7))]) (by decide) sl24 rfl (by simp only [evs, ev, e38, e40, List.map_cons, List.map_nil]) (rfc (evtR.mono (fun _ _ _ => trivial) (keepE rd8 hER)) (rfc r40 (RF.nil _ _ _))) rfl (by simp) leB_ ?_
   rintro g wc _ gs hEc
   exact qz ⟨hEc, some ⟨g, 0, none⟩, _, rfl, gs.wid (fun _ _ => trivial)⟩
  ·refine wl_gyes rfl (hk.pe 32 []) ?_
   obtain ⟨v41, e41, A41, c41, rfl, r41⟩ := hk.pp 36 []
   refine Cl_ (xs := [.const (.int .i64 6), .const (.int .i64 1), .tmp 41]) (by kernel_rfl) (by simp only [evs, ev, e41]; first | done | rfl) (lfind_yes r41 works_ok_f5) ?_
   rintro _ wc ⟨rfl, hEc⟩
   exact qz ⟨hEc, rfl⟩
  ·have ea := hk.pe 32 []
   have eb := hk.pe 37 []
   exact aPt (by decide) ea rfl eb qz
  ·have ea := hk.pe 38 []
   exact wl_assign (by decide) ea qz
 intro F w12 E13 hini hdo
 have e0 := dq hdo 39
 refine wk_drop [(2, pt g7 0), (1, pt g3 0), (0, .bool true)] ⟨di hini 2, di hini 1, e0, trivial⟩ ?_
 clear hini hdo e0
 replace hp := hp.ext E13
 replace hat10 := hat10.ext E13
 replace rd8 := keepE rd8 E13
 replace hat11 := hat11.ext E13
 replace rd4 := keepE rd4 E13
 refine so ?_
 exact Pt ⟨_, rfl, rfl, hp.chg⟩
set_option maxHeartbeats 16000000 in
theorem clients_ok {w : World} : Ret prog 26 #[] w (fun v w' => v = .bool true ∧ Ext w w') := by
 refine ret_of_wk func26 rfl ntmps26 leB_ ?_
 have hp := HP.begin_ w
 generalize hF0 : (fun b => b < w.heap.size) = F0 at hp
 refine so ?_
 refine Ce (lwrite_ok (c := 31) (t := 1) (bl := 3) (b := 7) (by unfold i64; omega) j1 j3) ?_
 rintro _ w2 ⟨cs2, rfl, rd2, E2⟩
 obtain ⟨F2, hp, s2, n2, _⟩ := hp.frz E2
 replace rd2 := wishR.mono (fun b hb h => n2 b h hb) rd2
 refine so ?_
 refine Ce (lread_ok (S := F2) (c := 31) (t := 2) (bl := 3) (by unfold i64; omega) j2 j3) ?_
 rintro _ w3 ⟨cs3, rfl, rd3, E3⟩
 replace hp := hp.ext E3
 refine so ?_
 refine Alo hp (h := fun g4 w4 hp E4 => ?_)
 refine so ?_
 refine Alo hp (h := fun g5 w5 hp E5 => ?_)
 refine so ?_
 have rd6 := rdTo (F := F2) (w' := w5) (wishR.mono (fun _ _ h => h) rd2) mv
 have hl6 : cs2.length = 10 := wishR.len rd6
 refine Hs 1 hp (xs := cs2) (ds := cs2) (hc := ⟨rfl⟩) (hk := hl6) (hl := by rw [hl6]; exact leB_) (h1 := wishR.one rd6) (hq := putL_all (by rw [hl6]; rfl)) (h := fun w6 hp C6 => ?_)
 replace rd6 := rdTo (F := F2) (w' := w6) rd6 mv
 refine so ?_
 have rd7 := rdTo (F := F2) (w' := w6) (wishR.mono (fun _ _ h => h) rd3) mv
 have hl7 : cs3.length = 10 := wishR.len rd7
 refine Hs 0 hp (xs := cs3) (ds := cs3) (hc := ⟨rfl⟩) (hk := hl7) (hl := by rw [hl7]; exact leB_) (h1 := wishR.one rd7) (hq := putL_all (by rw [hl7]; rfl)) (h := fun w7 hp C7 => ?_)
 replace rd7 := rdTo (F := F2) (w' := w7) rd7 mv
 have z8 : Frz F0 F2 w w7 := mv
 replace rd6 := rdTo (F := F2) (w' := w7) rd6 mv
 refine so ?_
 refine wl_builtS (ps := [(4, .const (.int .i64 3)), (0, .const (.int .i64 31)), (1, .const (.int .i64 1))]) (by decide) bld42 rfl rfl ?_
 refine wl_re (k := 20) (v := .agg (wsC (⟨31, 1, 0, 0, 3, 0, [], 0, 0, []⟩ : Wsh) none 0 none 0).toArray) rfl rfl ?_
 have rd9 : wishR.rd F2 w7 (wsC (⟨31, 1, 0, 0, 3, 0, [], 0, 0, []⟩ : Wsh) none 0 none 0) (⟨31, 1, 0, 0, 3, 0, [], 0, 0, []⟩ : Wsh) := wsK_rd (by unfold i64; omega) j1 j3
 refine so ?_
 refine Alo hp (h := fun g10 w10 hp E10 => ?_)
 refine so ?_
 have rd11 := rdTo (F := F2) (w' := w10) (wishR.mono (fun _ _ h => h) rd9) mv
 have hl11 : (wsC (⟨31, 1, 0, 0, 3, 0, [], 0, 0, []⟩ : Wsh) none 0 none 0).length = 10 := wishR.len rd11
 refine Hs 0 hp (xs := (wsC (⟨31, 1, 0, 0, 3, 0, [], 0, 0, []⟩ : Wsh) none 0 none 0)) (ds := (wsC (⟨31, 1, 0, 0, 3, 0, [], 0, 0, []⟩ : Wsh) none 0 none 0)) (hc := ⟨rfl⟩) (hk := hl11) (hl := by rw [hl11]; exact leB_) (h1 := wishR.one rd11) (hq := putL_all (by rw [hl11]; rfl)) (h := fun w11 hp C11 => ?_)
 replace rd11 := rdTo (F := F2) (w' := w11) rd11 mv
 have z12 : Frz F2 F2 w7 w11 := mv
 replace rd6 := rdTo rd6 z12
 replace rd7 := rdTo rd7 z12
 obtain ⟨F13, hp, s13, hat13⟩ := HP.frzBlk hp
 replace rd6 := rdWd s13 rd6
 replace rd7 := rdWd s13 rd7
 replace rd11 := rdWd s13 rd11
 obtain ⟨q13, hq13⟩ : ∃ q, q = (wsC (⟨31, 1, 0, 0, 3, 0, [], 0, 0, []⟩ : Wsh) none 0 none 0) := ⟨_, rfl⟩
 rw [← hq13] at hat13 rd11
 obtain ⟨F14, hp, s14, hat14⟩ := HP.frzBlk hp
 replace hat13 := hat13.wid s14
 replace rd11 := rdWd s14 rd11
 replace rd6 := rdWd s14 rd6
 replace rd7 := rdWd s14 rd7
 obtain ⟨q14, hq14⟩ : ∃ q, q = cs3 := ⟨_, rfl⟩
 rw [← hq14] at hat14 rd7
 obtain ⟨F15, hp, s15, hat15⟩ := HP.frzBlk hp
 replace hat13 := hat13.wid s15
 replace rd11 := rdWd s15 rd11
 replace hat14 := hat14.wid s15
 replace rd7 := rdWd s15 rd7
 replace rd6 := rdWd s15 rd6
 obtain ⟨q15, hq15⟩ : ∃ q, q = cs2 := ⟨_, rfl⟩
 rw [← hq15] at hat15 rd6
 refine so ?_
 refine wl_loadA (by decide) ag42 rfl (hat15.ext me).at_ (wishR.len rd6) ?_
 refine so ?_
 refine Ce (lcall_ok (keepE rd6 me)) ?_
 rintro _ w17 ⟨cs17, rfl, rd17, E17⟩
 replace hp := hp.ext E17
 refine so ?_
 refine Alo hp (h := fun g18 w18 hp E18 => ?_)
 refine so ?_
 have rd19 := rdTo (F := F15) (w' := w18) (evtR.mono (fun _ _ h => h) rd17) mv
 have hl19 : cs17.length = 53 := evtR.len rd19
 refine Hs 0 hp (xs := cs17) (ds := cs17) (hc := ⟨rfl⟩) (hk := hl19) (hl := by rw [hl19]; exact leB_) (h1 := evtR.one rd19) (hq := putL_all (by rw [hl19]; rfl)) (h := fun w19 hp C19 => ?_)
 replace rd19 := rdTo (F := F15) (w' := w19) rd19 mv
 have z20 : Frz F15 F15 w11 w19 := mv
 replace hat13 := hat13.to z20
 replace rd11 := rdTo rd11 z20
 replace hat14 := hat14.to z20
 replace rd7 := rdTo rd7 z20
 replace hat15 := hat15.to z20
 replace rd6 := rdTo rd6 z20
 refine so ?_
 refine wl_hstore1 (i := 0) (o := 2) (v := .int .i64 32) rfl rfl hp rfl (show szB prog 3 1 = true by kernel_rfl) (by rw [evtR.len rd19]; exact leB_) rfl (fun w21 hp C21 => ?_)
 have z22 : Frz F15 F15 w19 w21 := mv
 replace hat13 := hat13.to z22
 replace rd11 := rdTo rd11 z22
 replace hat14 := hat14.to z22
 replace rd7 := rdTo rd7 z22
 replace hat15 := hat15.to z22
 replace rd6 := rdTo rd6 z22
 replace rd19 := rdTo rd19 z22
 replace rd19 := set_a (x := 32) (by unfold i64; omega) rd19
 obtain ⟨F23, hp, s23, hat23⟩ := HP.frzBlk hp
 replace hat13 := hat13.wid s23
 replace rd11 := rdWd s23 rd11
 replace hat14 := hat14.wid s23
 replace rd7 := rdWd s23 rd7
 replace hat15 := hat15.wid s23
 replace rd6 := rdWd s23 rd6
 replace rd19 := rdWd s23 rd19
 obtain ⟨q23, hq23⟩ : ∃ q, q = (cs17.set 2 (iv 32)) := ⟨_, rfl⟩
 rw [← hq23] at hat23 rd19
 refine so ?_
 refine wdL [.eq (.agg q15.toArray), .rd evtR (fun _ => True) (callE (wrW 31 1 3 7)), .eq (.agg q14.toArray), .rd evtR (fun _ => True) (callE (rdW 31 2 3)), .gs evtR (fun _ => True) [(callE (wrW 31 1 3 7)), (callE (rdW 31 2 3))], .eq (.bool true), .eq (.bool true), .eq (.agg q14.toArray), .rd evtR (fun _ => True) (callE (rdW 31 2 3)), .gs evtR (fun _ => True) [(callE (rdW 31 2 3))], .eq (.bool true), .eq (.bool true), .eq (.bool true), .eq (.agg q13.toArray), .rd evtR (fun _ => True) (callE (⟨31, 1, 0, 0, 3, 0, [], 0, 0, []⟩ : Wsh)), .gs evtR (fun _ => True) [(callE (⟨31, 1, 0, 0, 3, 0, [], 0, 0, []⟩ : Wsh))], .eq (.bool true), .eq (.bool true), .eq (.bool true), .eq (.agg q23.toArray), .gs evtR (fun _ => True) [({ (callE (wrW 31 1 3 7)) with a := 32 } : Evt)], .eq (.bool true), .eq (.bool true), .eq (.bool true)] ?_ ?_
 ·refine ⟨?_, ?_, ?_, ?_, ?_, ?_, ?_, ?_, ?_, ?_, ?_, ?_, ?_, ?_, ?_, ?_, ?_, ?_, ?_, ?_, ?_, ?_, ?_, ?_, trivial⟩ <;> intro F wF hER hk
  ·exact wl_loadA (by decide) ag42 (hk.pi 1) (hat15.ext hER).at_ (wishR.len rd6) qz
  ·have e24 := hk.pe 0 []
   refine Cl_ (xs := [.tmp 24]) (by kernel_rfl) (by simp only [evs, ev, e24]; first | done | rfl) (lcall_ok (wishR.mono (S' := fun _ => True) (fun _ _ _ => trivial) (keepE rd6 hER))) ?_
   rintro _ wc ⟨cc, rfl, rc, hEc⟩
   exact qz ⟨hEc, cc, rfl, evtR.mono (fun _ _ _ => trivial) rc⟩
  ·exact wl_loadA (by decide) ag42 (hk.pi 2) (hat14.ext hER).at_ (wishR.len rd7) qz
  ·have e26 := hk.pe 2 []
   refine Cl_ (xs := [.tmp 26]) (by kernel_rfl) (by simp only [evs, ev, e26]; first | done | rfl) (lcall_ok (wishR.mono (S' := fun _ => True) (fun _ _ _ => trivial) (keepE rd7 hER))) ?_
   rintro _ wc ⟨cc, rfl, rc, hEc⟩
   exact qz ⟨hEc, cc, rfl, evtR.mono (fun _ _ _ => trivial) rc⟩
  ·obtain ⟨v25, e25, c25, rfl, r25⟩ := hk.pp 1 []
   obtain ⟨v27, e27, c27, rfl, r27⟩ := hk.pp 3 []
   refine wl_bsliceR (r := evtR) (S := fun _ => True) (xs := [.tmp 25, .tmp 27]) (css := [c25, c27]) (l := [(callE (wrW 31 1 3 7)), (callE (rdW 31 2 3))]) (by decide) sl24 rfl (by simp only [evs, ev, e25, e27, List.map_cons, List.map_nil]) (rfc r25 (rfc r27 (RF.nil _ _ _))) rfl (by simp) leB_ ?_
   rintro g wc _ gs hEc
   exact qz ⟨hEc, some ⟨g, 0, none⟩, _, rfl, gs.wid (fun _ _ => trivial)⟩
  ·obtain ⟨v28, e28, A28, c28, rfl, r28⟩ := hk.pp 4 []
   refine Cl_ (xs := [.const (.int .i64 8), .const (.int .i64 1), .tmp 28]) (by kernel_rfl) (by simp only [evs, ev, e28]; first | done | rfl) (lfind_yes r28 clients_ok_f1) ?_
   rintro _ wc ⟨rfl, hEc⟩
   exact qz ⟨hEc, rfl⟩
  ·have ea := hk.pe 5 []
   exact dm ea
  ·refine wl_gyes rfl (hk.pe 6 []) ?_
   exact wl_loadA (by decide) ag42 (hk.pi 2) (hat14.ext hER).at_ (wishR.len rd7) qz
  ·refine wl_gyes rfl (hk.pe 6 []) ?_
   have e31 := hk.pe 7 []
   refine Cl_ (xs := [.tmp 31]) (by kernel_rfl) (by simp only [evs, ev, e31]; first | done | rfl) (lcall_ok (wishR.mono (S' := fun _ => True) (fun _ _ _ => trivial) (keepE rd7 hER))) ?_
   rintro _ wc ⟨cc, rfl, rc, hEc⟩
   exact qz ⟨hEc, cc, rfl, evtR.mono (fun _ _ _ => trivial) rc⟩
  ·refine wl_gyes rfl (hk.pe 6 []) ?_
   obtain ⟨v32, e32, c32, rfl, r32⟩ := hk.pp 8 []
   refine wl_bsliceR (r := evtR) (S := fun _ => True) (xs := [.tmp 32]) (css := [c32]) (l := [(callE (rdW 31 2 3))]) (by decide) sl24 rfl (by simp only [evs, ev, e32, List.map_cons, List.map_nil]) (rfc r32 (RF.nil _ _ _)) rfl (by simp) leB_ ?_
   rintro g wc _ gs hEc
   exact qz ⟨hEc, some ⟨g, 0, none⟩, _, rfl, gs.wid (fun _ _ => trivial)⟩
  ·refine wl_gyes rfl (hk.pe 6 []) ?_
   obtain ⟨v33, e33, A33, c33, rfl, r33⟩ := hk.pp 9 []
   refine Cl_ (xs := [.const (.int .i64 8), .const (.int .i64 0), .tmp 33]) (by kernel_rfl) (by simp only [evs, ev, e33]; first | done | rfl) (lfind_yes r33 clients_ok_f2) ?_
   rintro _ wc ⟨rfl, hEc⟩
   exact qz ⟨hEc, rfl⟩
  ·have ea := hk.pe 6 []
   have eb := hk.pe 10 []
   exact aPt (by decide) ea rfl eb qz
  ·have ea := hk.pe 11 []
   exact dm ea
  ·refine wl_gyes rfl (hk.pe 12 []) ?_
   exact wl_loadA (by decide) ag42 (hk.pi 3) (hat13.ext hER).at_ (wishR.len rd11) qz
  ·refine wl_gyes rfl (hk.pe 12 []) ?_
   have e37 := hk.pe 13 []
   refine Cl_ (xs := [.tmp 37]) (by kernel_rfl) (by simp only [evs, ev, e37]; first | done | rfl) (lcall_ok (wishR.mono (S' := fun _ => True) (fun _ _ _ => trivial) (keepE rd11 hER))) ?_
   rintro _ wc ⟨cc, rfl, rc, hEc⟩
   exact qz ⟨hEc, cc, rfl, evtR.mono (fun _ _ _ => trivial) rc⟩
  ·refine wl_gyes rfl (hk.pe 12 []) ?_
   obtain ⟨v38, e38, c38, rfl, r38⟩ := hk.pp 14 []
   refine wl_bsliceR (r := evtR) (S := fun _ => True) (xs := [.tmp 38]) (css := [c38]) (l := [(callE (⟨31, 1, 0, 0, 3, 0, [], 0, 0, []⟩ : Wsh))]) (by decide) sl24 rfl (by simp only [evs, ev, e38, List.map_cons, List.map_nil]) (rfc r38 (RF.nil _ _ _)) rfl (by simp) leB_ ?_
   rintro g wc _ gs hEc
   exact qz ⟨hEc, some ⟨g, 0, none⟩, _, rfl, gs.wid (fun _ _ => trivial)⟩
  ·refine wl_gyes rfl (hk.pe 12 []) ?_
   obtain ⟨v39, e39, A39, c39, rfl, r39⟩ := hk.pp 15 []
   refine Cl_ (xs := [.const (.int .i64 8), .const (.int .i64 0), .tmp 39]) (by kernel_rfl) (by simp only [evs, ev, e39]; first | done | rfl) (lfind_yes r39 clients_ok_f3) ?_
   rintro _ wc ⟨rfl, hEc⟩
   exact qz ⟨hEc, rfl⟩
  ·have ea := hk.pe 12 []
   have eb := hk.pe 16 []
   exact aPt (by decide) ea rfl eb qz
  ·have ea := hk.pe 17 []
   exact dm ea
  ·refine wl_gyes rfl (hk.pe 18 []) ?_
   exact wl_loadA (by decide) ag46 (hk.pi 4) (hat23.ext hER).at_ (evtR.len rd19) qz
  ·refine wl_gyes rfl (hk.pe 18 []) ?_
   have e43 := hk.pe 19 []
   refine wl_bsliceR (r := evtR) (S := fun _ => True) (xs := [.tmp 43]) (css := [q23]) (l := [({ (callE (wrW 31 1 3 7)) with a := 32 } : Evt)]) (by decide) sl24 rfl (by simp only [evs, ev, e43, List.map_cons, List.map_nil]) (rfc (evtR.mono (fun _ _ _ => trivial) (keepE rd19 hER)) (RF.nil _ _ _)) rfl (by simp) leB_ ?_
   rintro g wc _ gs hEc
   exact qz ⟨hEc, some ⟨g, 0, none⟩, _, rfl, gs.wid (fun _ _ => trivial)⟩
  ·refine wl_gyes rfl (hk.pe 18 []) ?_
   obtain ⟨v44, e44, A44, c44, rfl, r44⟩ := hk.pp 20 []
   refine Cl_ (xs := [.const (.int .i64 8), .const (.int .i64 0), .tmp 44]) (by kernel_rfl) (by simp only [evs, ev, e44]; first | done | rfl) (lfind_yes r44 clients_ok_f4) ?_
   rintro _ wc ⟨rfl, hEc⟩
   exact qz ⟨hEc, rfl⟩
  ·have ea := hk.pe 18 []
   have eb := hk.pe 21 []
   exact aPt (by decide) ea rfl eb qz
  ·have ea := hk.pe 22 []
   exact wl_assign (by decide) ea qz
 intro F w24 E25 hini hdo
 have e5 := dq hdo 23
 refine wk_drop [(3, pt g10 0), (2, pt g5 0), (1, pt g4 0), (4, pt g18 0), (0, .bool false), (5, .bool true)] ⟨di hini 3, di hini 2, di hini 1, di hini 4, di hini 0, e5, trivial⟩ ?_
 clear hini hdo e5
 replace hp := hp.ext E25
 replace hat13 := hat13.ext E25
 replace rd11 := keepE rd11 E25
 replace hat14 := hat14.ext E25
 replace rd7 := keepE rd7 E25
 replace hat15 := hat15.ext E25
 replace rd6 := keepE rd6 E25
 replace hat23 := hat23.ext E25
 replace rd19 := keepE rd19 E25
 refine so ?_
 refine wdL [.eq (.agg q15.toArray), .rd ansR (fun _ => True) ans0, .rd evtR (fun _ => True) (doneE (wrW 31 1 3 7) ans0), .gs evtR (fun _ => True) [(doneE (wrW 31 1 3 7) ans0)], .eq (.bool true), .eq (.bool true), .eq (.agg q15.toArray), .rd evtR (fun _ => True) (callE (wrW 31 1 3 7)), .rd wishR (fun _ => True) (wrW 31 1 3 8), .rd ansR (fun _ => True) ans0, .rd evtR (fun _ => True) (doneE (wrW 31 1 3 8) ans0), .gs evtR (fun _ => True) [(callE (wrW 31 1 3 7)), (doneE (wrW 31 1 3 8) ans0)], .eq (.bool true), .eq (.bool true), .eq (.bool true), .eq (.agg q15.toArray), .rd evtR (fun _ => True) (callE (wrW 31 1 3 7)), .eq (.agg q15.toArray), .rd evtR (fun _ => True) (runE 5 1 1 (wrW 31 1 3 7)), .eq (.agg q15.toArray), .rd ansR (fun _ => True) ans0, .rd evtR (fun _ => True) (doneE (wrW 31 1 3 7) ans0), .eq (.agg q15.toArray), .rd ansR (fun _ => True) ans0, .rd evtR (fun _ => True) (doneE (wrW 31 1 3 7) ans0), .gs evtR (fun _ => True) [(callE (wrW 31 1 3 7)), (runE 5 1 1 (wrW 31 1 3 7)), (doneE (wrW 31 1 3 7) ans0), (doneE (wrW 31 1 3 7) ans0)], .eq (.bool true), .eq (.bool true), .eq (.bool true)] ?_ ?_
 ·refine ⟨?_, ?_, ?_, ?_, ?_, ?_, ?_, ?_, ?_, ?_, ?_, ?_, ?_, ?_, ?_, ?_, ?_, ?_, ?_, ?_, ?_, ?_, ?_, ?_, ?_, ?_, ?_, ?_, ?_, trivial⟩ <;> intro F wF hER hk
  ·exact wl_loadA (by decide) ag42 (hk.pi 1) (hat15.ext hER).at_ (wishR.len rd6) qz
  ·refine wl_builtS (ps := []) (by decide) bld44 rfl rfl ?_
   exact qz ⟨Chg.refl _ _, _, (rfl : _ = Value.agg (anC ans0 none 0 none 0).toArray), ans0_rd j0⟩
  ·have e47 := hk.pe 0 []
   obtain ⟨v48, e48, c48, rfl, r48⟩ := hk.pp 1 []
   refine Cl_ (xs := [.tmp 47, .tmp 48]) (by kernel_rfl) (by simp only [evs, ev, e47, e48]; first | done | rfl) (ldone_ok (wishR.mono (S' := fun _ => True) (fun _ _ _ => trivial) (keepE rd6 hER)) r48) ?_
   rintro _ wc ⟨cc, rfl, rc, hEc⟩
   exact qz ⟨hEc, cc, rfl, evtR.mono (fun _ _ _ => trivial) rc⟩
  ·obtain ⟨v49, e49, c49, rfl, r49⟩ := hk.pp 2 []
   refine wl_bsliceR (r := evtR) (S := fun _ => True) (xs := [.tmp 49]) (css := [c49]) (l := [(doneE (wrW 31 1 3 7) ans0)]) (by decide) sl24 rfl (by simp only [evs, ev, e49, List.map_cons, List.map_nil]) (rfc r49 (RF.nil _ _ _)) rfl (by simp) leB_ ?_
   rintro g wc _ gs hEc
   exact qz ⟨hEc, some ⟨g, 0, none⟩, _, rfl, gs.wid (fun _ _ => trivial)⟩
  ·obtain ⟨v50, e50, A50, c50, rfl, r50⟩ := hk.pp 3 []
   refine Cl_ (xs := [.const (.int .i64 9), .const (.int .i64 0), .tmp 50]) (by kernel_rfl) (by simp only [evs, ev, e50]; first | done | rfl) (lfind_yes r50 clients_ok_f5) ?_
   rintro _ wc ⟨rfl, hEc⟩
   exact qz ⟨hEc, rfl⟩
  ·have ea := hk.pe 4 []
   exact dm ea
  ·refine wl_gyes rfl (hk.pe 5 []) ?_
   exact wl_loadA (by decide) ag42 (hk.pi 1) (hat15.ext hER).at_ (wishR.len rd6) qz
  ·refine wl_gyes rfl (hk.pe 5 []) ?_
   have e53 := hk.pe 6 []
   refine Cl_ (xs := [.tmp 53]) (by kernel_rfl) (by simp only [evs, ev, e53]; first | done | rfl) (lcall_ok (wishR.mono (S' := fun _ => True) (fun _ _ _ => trivial) (keepE rd6 hER))) ?_
   rintro _ wc ⟨cc, rfl, rc, hEc⟩
   exact qz ⟨hEc, cc, rfl, evtR.mono (fun _ _ _ => trivial) rc⟩
  ·refine wl_gyes rfl (hk.pe 5 []) ?_
   refine Cl_ (xs := [.const (.int .i64 31), .const (.int .i64 1), .const (.int .i64 3), .const (.int .u8 8)]) (by kernel_rfl) rfl (lwrite_ok (c := 31) (t := 1) (bl := 3) (b := 8) (by unfold i64; omega) j1 j3) ?_
   rintro _ wc ⟨cc, rfl, rc, hEc⟩
   exact qz ⟨hEc, cc, rfl, wishR.mono (fun _ _ _ => trivial) rc⟩
  ·refine wl_gyes rfl (hk.pe 5 []) ?_
   refine wl_builtS (ps := []) (by decide) bld44 rfl rfl ?_
   exact qz ⟨Chg.refl _ _, _, (rfl : _ = Value.agg (anC ans0 none 0 none 0).toArray), ans0_rd j0⟩
  ·refine wl_gyes rfl (hk.pe 5 []) ?_
   obtain ⟨v55, e55, c55, rfl, r55⟩ := hk.pp 8 []
   obtain ⟨v56, e56, c56, rfl, r56⟩ := hk.pp 9 []
   refine Cl_ (xs := [.tmp 55, .tmp 56]) (by kernel_rfl) (by simp only [evs, ev, e55, e56]; first | done | rfl) (ldone_ok r55 r56) ?_
   rintro _ wc ⟨cc, rfl, rc, hEc⟩
   exact qz ⟨hEc, cc, rfl, evtR.mono (fun _ _ _ => trivial) rc⟩
  ·refine wl_gyes rfl (hk.pe 5 []) ?_
   obtain ⟨v54, e54, c54, rfl, r54⟩ := hk.pp 7 []
   obtain ⟨v57, e57, c57, rfl, r57⟩ := hk.pp 10 []
   refine wl_bsliceR (r := evtR) (S := fun _ => True) (xs := [.tmp 54, .tmp 57]) (css := [c54, c57]) (l := [(callE (wrW 31 1 3 7)), (doneE (wrW 31 1 3 8) ans0)]) (by decide) sl24 rfl (by simp only [evs, ev, e54, e57, List.map_cons, List.map_nil]) (rfc r54 (rfc r57 (RF.nil _ _ _))) rfl (by simp) leB_ ?_
   rintro g wc _ gs hEc
   exact qz ⟨hEc, some ⟨g, 0, none⟩, _, rfl, gs.wid (fun _ _ => trivial)⟩
  ·refine wl_gyes rfl (hk.pe 5 []) ?_
   obtain ⟨v58, e58, A58, c58, rfl, r58⟩ := hk.pp 11 []
   refine Cl_ (xs := [.const (.int .i64 9), .const (.int .i64 1), .tmp 58]) (by kernel_rfl) (by simp only [evs, ev, e58]; first | done | rfl) (lfind_yes r58 clients_ok_f6) ?_
   rintro _ wc ⟨rfl, hEc⟩
   exact qz ⟨hEc, rfl⟩
  ·have ea := hk.pe 5 []
   have eb := hk.pe 12 []
   exact aPt (by decide) ea rfl eb qz
  ·have ea := hk.pe 13 []
   exact dm ea
  ·refine wl_gyes rfl (hk.pe 14 []) ?_
   exact wl_loadA (by decide) ag42 (hk.pi 1) (hat15.ext hER).at_ (wishR.len rd6) qz
  ·refine wl_gyes rfl (hk.pe 14 []) ?_
   have e62 := hk.pe 15 []
   refine Cl_ (xs := [.tmp 62]) (by kernel_rfl) (by simp only [evs, ev, e62]; first | done | rfl) (lcall_ok (wishR.mono (S' := fun _ => True) (fun _ _ _ => trivial) (keepE rd6 hER))) ?_
   rintro _ wc ⟨cc, rfl, rc, hEc⟩
   exact qz ⟨hEc, cc, rfl, evtR.mono (fun _ _ _ => trivial) rc⟩
  ·refine wl_gyes rfl (hk.pe 14 []) ?_
   exact wl_loadA (by decide) ag42 (hk.pi 1) (hat15.ext hER).at_ (wishR.len rd6) qz
  ·refine wl_gyes rfl (hk.pe 14 []) ?_
   have e64 := hk.pe 17 []
   refine Cl_ (xs := [.const (.int .i64 5), .const (.int .i64 1), .const (.int .u8 1), .tmp 64]) (by kernel_rfl) (by simp only [evs, ev, e64]; first | done | rfl) (lrun_ok (a := 5) (s := 1) (b := 1) (by unfold i64; omega) j1 (wishR.mono (S' := fun _ => True) (fun _ _ _ => trivial) (keepE rd6 hER))) ?_
   rintro _ wc ⟨cc, rfl, rc, hEc⟩
   exact qz ⟨hEc, cc, rfl, evtR.mono (fun _ _ _ => trivial) rc⟩
  ·refine wl_gyes rfl (hk.pe 14 []) ?_
   exact wl_loadA (by decide) ag42 (hk.pi 1) (hat15.ext hER).at_ (wishR.len rd6) qz
  ·refine wl_gyes rfl (hk.pe 14 []) ?_
   refine wl_builtS (ps := []) (by decide) bld44 rfl rfl ?_
   exact qz ⟨Chg.refl _ _, _, (rfl : _ = Value.agg (anC ans0 none 0 none 0).toArray), ans0_rd j0⟩
  ·refine wl_gyes rfl (hk.pe 14 []) ?_
   have e66 := hk.pe 19 []
   obtain ⟨v67, e67, c67, rfl, r67⟩ := hk.pp 20 []
   refine Cl_ (xs := [.tmp 66, .tmp 67]) (by kernel_rfl) (by simp only [evs, ev, e66, e67]; first | done | rfl) (ldone_ok (wishR.mono (S' := fun _ => True) (fun _ _ _ => trivial) (keepE rd6 hER)) r67) ?_
   rintro _ wc ⟨cc, rfl, rc, hEc⟩
   exact qz ⟨hEc, cc, rfl, evtR.mono (fun _ _ _ => trivial) rc⟩
  ·refine wl_gyes rfl (hk.pe 14 []) ?_
   exact wl_loadA (by decide) ag42 (hk.pi 1) (hat15.ext hER).at_ (wishR.len rd6) qz
  ·refine wl_gyes rfl (hk.pe 14 []) ?_
   refine wl_builtS (ps := []) (by decide) bld44 rfl rfl ?_
   exact qz ⟨Chg.refl _ _, _, (rfl : _ = Value.agg (anC ans0 none 0 none 0).toArray), ans0_rd j0⟩
  ·refine wl_gyes rfl (hk.pe 14 []) ?_
   have e69 := hk.pe 22 []
   obtain ⟨v70, e70, c70, rfl, r70⟩ := hk.pp 23 []
   refine Cl_ (xs := [.tmp 69, .tmp 70]) (by kernel_rfl) (by simp only [evs, ev, e69, e70]; first | done | rfl) (ldone_ok (wishR.mono (S' := fun _ => True) (fun _ _ _ => trivial) (keepE rd6 hER)) r70) ?_
   rintro _ wc ⟨cc, rfl, rc, hEc⟩
   exact qz ⟨hEc, cc, rfl, evtR.mono (fun _ _ _ => trivial) rc⟩
  ·refine wl_gyes rfl (hk.pe 14 []) ?_
   obtain ⟨v63, e63, c63, rfl, r63⟩ := hk.pp 16 []
   obtain ⟨v65, e65, c65, rfl, r65⟩ := hk.pp 18 []
   obtain ⟨v68, e68, c68, rfl, r68⟩ := hk.pp 21 []
   obtain ⟨v71, e71, c71, rfl, r71⟩ := hk.pp 24 []
   refine wl_bsliceR (r := evtR) (S := fun _ => True) (xs := [.tmp 63, .tmp 65, .tmp 68, .tmp 71]) (css := [c63, c65, c68, c71]) (l := [(callE (wrW 31 1 3 7)), (runE 5 1 1 (wrW 31 1 3 7)), (doneE (wrW 31 1 3 7) ans0), (doneE (wrW 31 1 3 7) ans0)]) (by decide) sl24 rfl (by simp only [evs, ev, e63, e65, e68, e71, List.map_cons, List.map_nil]) (rfc r63 (rfc r65 (rfc r68 (rfc r71 (RF.nil _ _ _))))) rfl (by simp) leB_ ?_
   rintro g wc _ gs hEc
   exact qz ⟨hEc, some ⟨g, 0, none⟩, _, rfl, gs.wid (fun _ _ => trivial)⟩
  ·refine wl_gyes rfl (hk.pe 14 []) ?_
   obtain ⟨v72, e72, A72, c72, rfl, r72⟩ := hk.pp 25 []
   refine Cl_ (xs := [.const (.int .i64 9), .const (.int .i64 3), .tmp 72]) (by kernel_rfl) (by simp only [evs, ev, e72]; first | done | rfl) (lfind_yes r72 clients_ok_f7) ?_
   rintro _ wc ⟨rfl, hEc⟩
   exact qz ⟨hEc, rfl⟩
  ·have ea := hk.pe 14 []
   have eb := hk.pe 26 []
   exact aPt (by decide) ea rfl eb qz
  ·have ea := hk.pe 27 []
   exact wl_assign (by decide) ea qz
 intro F w26 E27 hini hdo
 have e6 := dq hdo 28
 refine wk_drop [(3, pt g10 0), (2, pt g5 0), (1, pt g4 0), (4, pt g18 0), (0, .bool false), (5, .bool true), (6, .bool true)] ⟨di hini 3, di hini 2, di hini 1, di hini 4, di hini 0, di hini 5, e6, trivial⟩ ?_
 clear hini hdo e6
 replace hp := hp.ext E27
 replace hat13 := hat13.ext E27
 replace rd11 := keepE rd11 E27
 replace hat14 := hat14.ext E27
 replace rd7 := keepE rd7 E27
 replace hat15 := hat15.ext E27
 replace rd6 := keepE rd6 E27
 replace hat23 := hat23.ext E27
 replace rd19 := keepE rd19 E27
 refine so ?_
 refine wl_builtS (ps := [(0, .const (.int .i64 172))]) (by decide) bld44 rfl rfl ?_
 refine wl_re (k := 75) (v := .agg (anC ⟨172, [], 0, []⟩ none 0 none 0).toArray) rfl rfl ?_
 have rd28 : ansR.rd F23 w26 (anC ⟨172, [], 0, []⟩ none 0 none 0) (⟨172, [], 0, []⟩ : Ans) := ans0_rd (by unfold i64; omega)
 refine so ?_
 refine Alo hp (h := fun g29 w29 hp E29 => ?_)
 refine so ?_
 have rd30 := rdTo (F := F23) (w' := w29) (ansR.mono (fun _ _ h => h) rd28) mv
 have hl30 : (anC ⟨172, [], 0, []⟩ none 0 none 0).length = 4 := ansR.len rd30
 refine Hs 0 hp (xs := (anC ⟨172, [], 0, []⟩ none 0 none 0)) (ds := (anC ⟨172, [], 0, []⟩ none 0 none 0)) (hc := ⟨rfl⟩) (hk := hl30) (hl := by rw [hl30]; exact leB_) (h1 := ansR.one rd30) (hq := putL_all (by rw [hl30]; rfl)) (h := fun w30 hp C30 => ?_)
 replace rd30 := rdTo (F := F23) (w' := w30) rd30 mv
 have z31 : Frz F23 F23 w26 w30 := mv
 replace hat13 := hat13.to z31
 replace rd11 := rdTo rd11 z31
 replace hat14 := hat14.to z31
 replace rd7 := rdTo rd7 z31
 replace hat15 := hat15.to z31
 replace rd6 := rdTo rd6 z31
 replace hat23 := hat23.to z31
 replace rd19 := rdTo rd19 z31
 obtain ⟨F32, hp, s32, hat32⟩ := HP.frzBlk hp
 replace hat13 := hat13.wid s32
 replace rd11 := rdWd s32 rd11
 replace hat14 := hat14.wid s32
 replace rd7 := rdWd s32 rd7
 replace hat15 := hat15.wid s32
 replace rd6 := rdWd s32 rd6
 replace hat23 := hat23.wid s32
 replace rd19 := rdWd s32 rd19
 replace rd30 := rdWd s32 rd30
 obtain ⟨q32, hq32⟩ : ∃ q, q = (anC ⟨172, [], 0, []⟩ none 0 none 0) := ⟨_, rfl⟩
 rw [← hq32] at hat32 rd30
 refine so ?_
 refine wdL [.eq (.agg q15.toArray), .rd evtR (fun _ => True) (callE (wrW 31 1 3 7)), .eq (.agg q15.toArray), .eq (.agg q32.toArray), .rd evtR (fun _ => True) (doneE (wrW 31 1 3 7) (⟨172, [], 0, []⟩ : Ans)), .gs evtR (fun _ => True) [(callE (wrW 31 1 3 7)), (doneE (wrW 31 1 3 7) (⟨172, [], 0, []⟩ : Ans))], .eq (.bool true), .eq (.bool true), .eq (.agg q15.toArray), .rd evtR (fun _ => True) (callE (wrW 31 1 3 7)), .rd wishR (fun _ => True) (wrW 31 9 3 8), .rd evtR (fun _ => True) (runE 5 1 1 (wrW 31 9 3 8)), .eq (.agg q15.toArray), .rd ansR (fun _ => True) ans0, .rd evtR (fun _ => True) (doneE (wrW 31 1 3 7) ans0), .gs evtR (fun _ => True) [(callE (wrW 31 1 3 7)), (runE 5 1 1 (wrW 31 9 3 8)), (doneE (wrW 31 1 3 7) ans0)], .eq (.bool true), .eq (.bool true), .eq (.bool true), .eq (.agg q15.toArray), .rd evtR (fun _ => True) (callE (wrW 31 1 3 7)), .rd wishR (fun _ => True) (wrW 31 9 4 7), .rd evtR (fun _ => True) (runE 5 1 1 (wrW 31 9 4 7)), .eq (.agg q15.toArray), .rd ansR (fun _ => True) ans0, .rd evtR (fun _ => True) (doneE (wrW 31 1 3 7) ans0), .gs evtR (fun _ => True) [(callE (wrW 31 1 3 7)), (runE 5 1 1 (wrW 31 9 4 7)), (doneE (wrW 31 1 3 7) ans0)], .eq (.bool true), .eq (.bool true), .eq (.bool true), .eq (.agg q15.toArray), .rd evtR (fun _ => True) (callE (wrW 31 1 3 7)), .rd wishR (fun _ => True) (wrW 31 9 3 7), .rd evtR (fun _ => True) (runE 5 1 1 (wrW 31 9 3 7)), .eq (.agg q15.toArray), .rd ansR (fun _ => True) ans0, .rd evtR (fun _ => True) (doneE (wrW 31 1 3 7) ans0), .gs evtR (fun _ => True) [(callE (wrW 31 1 3 7)), (runE 5 1 1 (wrW 31 9 3 7)), (doneE (wrW 31 1 3 7) ans0)], .eq (.bool true), .eq (.bool true), .eq (.bool true), .eq (.agg q15.toArray), .rd evtR (fun _ => True) (callE (wrW 31 1 3 7)), .rd wishR (fun _ => True) (wrW 32 1 3 7), .rd evtR (fun _ => True) (runE 5 1 1 (wrW 32 1 3 7)), .eq (.agg q15.toArray), .rd ansR (fun _ => True) ans0, .rd evtR (fun _ => True) (doneE (wrW 31 1 3 7) ans0), .gs evtR (fun _ => True) [(callE (wrW 31 1 3 7)), (runE 5 1 1 (wrW 32 1 3 7)), (doneE (wrW 31 1 3 7) ans0)], .eq (.bool true), .eq (.bool true), .eq (.bool true)] ?_ ?_
 ·refine ⟨?_, ?_, ?_, ?_, ?_, ?_, ?_, ?_, ?_, ?_, ?_, ?_, ?_, ?_, ?_, ?_, ?_, ?_, ?_, ?_, ?_, ?_, ?_, ?_, ?_, ?_, ?_, ?_, ?_, ?_, ?_, ?_, ?_, ?_, ?_, ?_, ?_, ?_, ?_, ?_, ?_, ?_, ?_, ?_, ?_, ?_, ?_, ?_, ?_, ?_, ?_, ?_, trivial⟩ <;> intro F wF hER hk
  ·exact wl_loadA (by decide) ag42 (hk.pi 1) (hat15.ext hER).at_ (wishR.len rd6) qz
  ·have e76 := hk.pe 0 []
   refine Cl_ (xs := [.tmp 76]) (by kernel_rfl) (by simp only [evs, ev, e76]; first | done | rfl) (lcall_ok (wishR.mono (S' := fun _ => True) (fun _ _ _ => trivial) (keepE rd6 hER))) ?_
   rintro _ wc ⟨cc, rfl, rc, hEc⟩
   exact qz ⟨hEc, cc, rfl, evtR.mono (fun _ _ _ => trivial) rc⟩
  ·exact wl_loadA (by decide) ag42 (hk.pi 1) (hat15.ext hER).at_ (wishR.len rd6) qz
  ·exact wl_loadA (by decide) ag44 (hk.pi 7) (hat32.ext hER).at_ (ansR.len rd30) qz
  ·have e78 := hk.pe 2 []
   have e79 := hk.pe 3 []
   refine Cl_ (xs := [.tmp 78, .tmp 79]) (by kernel_rfl) (by simp only [evs, ev, e78, e79]; first | done | rfl) (ldone_ok (wishR.mono (S' := fun _ => True) (fun _ _ _ => trivial) (keepE rd6 hER)) (ansR.mono (S' := fun _ => True) (fun _ _ _ => trivial) (keepE rd30 hER))) ?_
   rintro _ wc ⟨cc, rfl, rc, hEc⟩
   exact qz ⟨hEc, cc, rfl, evtR.mono (fun _ _ _ => trivial) rc⟩
  ·obtain ⟨v77, e77, c77, rfl, r77⟩ := hk.pp 1 []
   obtain ⟨v80, e80, c80, rfl, r80⟩ := hk.pp 4 []
   refine wl_bsliceR (r := evtR) (S := fun _ => True) (xs := [.tmp 77, .tmp 80]) (css := [c77, c80]) (l := [(callE (wrW 31 1 3 7)), (doneE (wrW 31 1 3 7) (⟨172, [], 0, []⟩ : Ans))]) (by decide) sl24 rfl (by simp only [evs, ev, e77, e80, List.map_cons, List.map_nil]) (rfc r77 (rfc r80 (RF.nil _ _ _))) rfl (by simp) leB_ ?_
   rintro g wc _ gs hEc
   exact qz ⟨hEc, some ⟨g, 0, none⟩, _, rfl, gs.wid (fun _ _ => trivial)⟩
  ·obtain ⟨v81, e81, A81, c81, rfl, r81⟩ := hk.pp 5 []
   refine Cl_ (xs := [.const (.int .i64 0), .const (.int .i64 0), .tmp 81]) (by kernel_rfl) (by simp only [evs, ev, e81]; first | done | rfl) (lfind_yes r81 clients_ok_f8) ?_
   rintro _ wc ⟨rfl, hEc⟩
   exact qz ⟨hEc, rfl⟩
  ·have ea := hk.pe 6 []
   exact dm ea
  ·refine wl_gyes rfl (hk.pe 7 []) ?_
   exact wl_loadA (by decide) ag42 (hk.pi 1) (hat15.ext hER).at_ (wishR.len rd6) qz
  ·refine wl_gyes rfl (hk.pe 7 []) ?_
   have e84 := hk.pe 8 []
   refine Cl_ (xs := [.tmp 84]) (by kernel_rfl) (by simp only [evs, ev, e84]; first | done | rfl) (lcall_ok (wishR.mono (S' := fun _ => True) (fun _ _ _ => trivial) (keepE rd6 hER))) ?_
   rintro _ wc ⟨cc, rfl, rc, hEc⟩
   exact qz ⟨hEc, cc, rfl, evtR.mono (fun _ _ _ => trivial) rc⟩
  ·refine wl_gyes rfl (hk.pe 7 []) ?_
   refine Cl_ (xs := [.const (.int .i64 31), .const (.int .i64 9), .const (.int .i64 3), .const (.int .u8 8)]) (by kernel_rfl) rfl (lwrite_ok (c := 31) (t := 9) (bl := 3) (b := 8) (by unfold i64; omega) (by unfold i64; omega) j3) ?_
   rintro _ wc ⟨cc, rfl, rc, hEc⟩
   exact qz ⟨hEc, cc, rfl, wishR.mono (fun _ _ _ => trivial) rc⟩
  ·refine wl_gyes rfl (hk.pe 7 []) ?_
   obtain ⟨v86, e86, c86, rfl, r86⟩ := hk.pp 10 []
   refine Cl_ (xs := [.const (.int .i64 5), .const (.int .i64 1), .const (.int .u8 1), .tmp 86]) (by kernel_rfl) (by simp only [evs, ev, e86]; first | done | rfl) (lrun_ok (a := 5) (s := 1) (b := 1) (by unfold i64; omega) j1 r86) ?_
   rintro _ wc ⟨cc, rfl, rc, hEc⟩
   exact qz ⟨hEc, cc, rfl, evtR.mono (fun _ _ _ => trivial) rc⟩
  ·refine wl_gyes rfl (hk.pe 7 []) ?_
   exact wl_loadA (by decide) ag42 (hk.pi 1) (hat15.ext hER).at_ (wishR.len rd6) qz
  ·refine wl_gyes rfl (hk.pe 7 []) ?_
   refine wl_builtS (ps := []) (by decide) bld44 rfl rfl ?_
   exact qz ⟨Chg.refl _ _, _, (rfl : _ = Value.agg (anC ans0 none 0 none 0).toArray), ans0_rd j0⟩
  ·refine wl_gyes rfl (hk.pe 7 []) ?_
   have e88 := hk.pe 12 []
   obtain ⟨v89, e89, c89, rfl, r89⟩ := hk.pp 13 []
   refine Cl_ (xs := [.tmp 88, .tmp 89]) (by kernel_rfl) (by simp only [evs, ev, e88, e89]; first | done | rfl) (ldone_ok (wishR.mono (S' := fun _ => True) (fun _ _ _ => trivial) (keepE rd6 hER)) r89) ?_
   rintro _ wc ⟨cc, rfl, rc, hEc⟩
   exact qz ⟨hEc, cc, rfl, evtR.mono (fun _ _ _ => trivial) rc⟩
  ·refine wl_gyes rfl (hk.pe 7 []) ?_
   obtain ⟨v85, e85, c85, rfl, r85⟩ := hk.pp 9 []
   obtain ⟨v87, e87, c87, rfl, r87⟩ := hk.pp 11 []
   obtain ⟨v90, e90, c90, rfl, r90⟩ := hk.pp 14 []
   refine wl_bsliceR (r := evtR) (S := fun _ => True) (xs := [.tmp 85, .tmp 87, .tmp 90]) (css := [c85, c87, c90]) (l := [(callE (wrW 31 1 3 7)), (runE 5 1 1 (wrW 31 9 3 8)), (doneE (wrW 31 1 3 7) ans0)]) (by decide) sl24 rfl (by simp only [evs, ev, e85, e87, e90, List.map_cons, List.map_nil]) (rfc r85 (rfc r87 (rfc r90 (RF.nil _ _ _)))) rfl (by simp) leB_ ?_
   rintro g wc _ gs hEc
   exact qz ⟨hEc, some ⟨g, 0, none⟩, _, rfl, gs.wid (fun _ _ => trivial)⟩
  ·refine wl_gyes rfl (hk.pe 7 []) ?_
   obtain ⟨v91, e91, A91, c91, rfl, r91⟩ := hk.pp 15 []
   refine Cl_ (xs := [.const (.int .i64 10), .const (.int .i64 2), .tmp 91]) (by kernel_rfl) (by simp only [evs, ev, e91]; first | done | rfl) (lfind_yes r91 clients_ok_f9) ?_
   rintro _ wc ⟨rfl, hEc⟩
   exact qz ⟨hEc, rfl⟩
  ·have ea := hk.pe 7 []
   have eb := hk.pe 16 []
   exact aPt (by decide) ea rfl eb qz
  ·have ea := hk.pe 17 []
   exact dm ea
  ·refine wl_gyes rfl (hk.pe 18 []) ?_
   exact wl_loadA (by decide) ag42 (hk.pi 1) (hat15.ext hER).at_ (wishR.len rd6) qz
  ·refine wl_gyes rfl (hk.pe 18 []) ?_
   have e95 := hk.pe 19 []
   refine Cl_ (xs := [.tmp 95]) (by kernel_rfl) (by simp only [evs, ev, e95]; first | done | rfl) (lcall_ok (wishR.mono (S' := fun _ => True) (fun _ _ _ => trivial) (keepE rd6 hER))) ?_
   rintro _ wc ⟨cc, rfl, rc, hEc⟩
   exact qz ⟨hEc, cc, rfl, evtR.mono (fun _ _ _ => trivial) rc⟩
  ·refine wl_gyes rfl (hk.pe 18 []) ?_
   refine Cl_ (xs := [.const (.int .i64 31), .const (.int .i64 9), .const (.int .i64 4), .const (.int .u8 7)]) (by kernel_rfl) rfl (lwrite_ok (c := 31) (t := 9) (bl := 4) (b := 7) (by unfold i64; omega) (by unfold i64; omega) (by unfold i64; omega)) ?_
   rintro _ wc ⟨cc, rfl, rc, hEc⟩
   exact qz ⟨hEc, cc, rfl, wishR.mono (fun _ _ _ => trivial) rc⟩
  ·refine wl_gyes rfl (hk.pe 18 []) ?_
   obtain ⟨v97, e97, c97, rfl, r97⟩ := hk.pp 21 []
   refine Cl_ (xs := [.const (.int .i64 5), .const (.int .i64 1), .const (.int .u8 1), .tmp 97]) (by kernel_rfl) (by simp only [evs, ev, e97]; first | done | rfl) (lrun_ok (a := 5) (s := 1) (b := 1) (by unfold i64; omega) j1 r97) ?_
   rintro _ wc ⟨cc, rfl, rc, hEc⟩
   exact qz ⟨hEc, cc, rfl, evtR.mono (fun _ _ _ => trivial) rc⟩
  ·refine wl_gyes rfl (hk.pe 18 []) ?_
   exact wl_loadA (by decide) ag42 (hk.pi 1) (hat15.ext hER).at_ (wishR.len rd6) qz
  ·refine wl_gyes rfl (hk.pe 18 []) ?_
   refine wl_builtS (ps := []) (by decide) bld44 rfl rfl ?_
   exact qz ⟨Chg.refl _ _, _, (rfl : _ = Value.agg (anC ans0 none 0 none 0).toArray), ans0_rd j0⟩
  ·refine wl_gyes rfl (hk.pe 18 []) ?_
   have e99 := hk.pe 23 []
   obtain ⟨v100, e100, c100, rfl, r100⟩ := hk.pp 24 []
   refine Cl_ (xs := [.tmp 99, .tmp 100]) (by kernel_rfl) (by simp only [evs, ev, e99, e100]; first | done | rfl) (ldone_ok (wishR.mono (S' := fun _ => True) (fun _ _ _ => trivial) (keepE rd6 hER)) r100) ?_
   rintro _ wc ⟨cc, rfl, rc, hEc⟩
   exact qz ⟨hEc, cc, rfl, evtR.mono (fun _ _ _ => trivial) rc⟩
  ·refine wl_gyes rfl (hk.pe 18 []) ?_
   obtain ⟨v96, e96, c96, rfl, r96⟩ := hk.pp 20 []
   obtain ⟨v98, e98, c98, rfl, r98⟩ := hk.pp 22 []
   obtain ⟨v101, e101, c101, rfl, r101⟩ := hk.pp 25 []
   refine wl_bsliceR (r := evtR) (S := fun _ => True) (xs := [.tmp 96, .tmp 98, .tmp 101]) (css := [c96, c98, c101]) (l := [(callE (wrW 31 1 3 7)), (runE 5 1 1 (wrW 31 9 4 7)), (doneE (wrW 31 1 3 7) ans0)]) (by decide) sl24 rfl (by simp only [evs, ev, e96, e98, e101, List.map_cons, List.map_nil]) (rfc r96 (rfc r98 (rfc r101 (RF.nil _ _ _)))) rfl (by simp) leB_ ?_
   rintro g wc _ gs hEc
   exact qz ⟨hEc, some ⟨g, 0, none⟩, _, rfl, gs.wid (fun _ _ => trivial)⟩
  ·refine wl_gyes rfl (hk.pe 18 []) ?_
   obtain ⟨v102, e102, A102, c102, rfl, r102⟩ := hk.pp 26 []
   refine Cl_ (xs := [.const (.int .i64 10), .const (.int .i64 2), .tmp 102]) (by kernel_rfl) (by simp only [evs, ev, e102]; first | done | rfl) (lfind_yes r102 clients_ok_f10) ?_
   rintro _ wc ⟨rfl, hEc⟩
   exact qz ⟨hEc, rfl⟩
  ·have ea := hk.pe 18 []
   have eb := hk.pe 27 []
   exact aPt (by decide) ea rfl eb qz
  ·have ea := hk.pe 28 []
   exact dm ea
  ·refine wl_gyes rfl (hk.pe 29 []) ?_
   exact wl_loadA (by decide) ag42 (hk.pi 1) (hat15.ext hER).at_ (wishR.len rd6) qz
  ·refine wl_gyes rfl (hk.pe 29 []) ?_
   have e106 := hk.pe 30 []
   refine Cl_ (xs := [.tmp 106]) (by kernel_rfl) (by simp only [evs, ev, e106]; first | done | rfl) (lcall_ok (wishR.mono (S' := fun _ => True) (fun _ _ _ => trivial) (keepE rd6 hER))) ?_
   rintro _ wc ⟨cc, rfl, rc, hEc⟩
   exact qz ⟨hEc, cc, rfl, evtR.mono (fun _ _ _ => trivial) rc⟩
  ·refine wl_gyes rfl (hk.pe 29 []) ?_
   refine Cl_ (xs := [.const (.int .i64 31), .const (.int .i64 9), .const (.int .i64 3), .const (.int .u8 7)]) (by kernel_rfl) rfl (lwrite_ok (c := 31) (t := 9) (bl := 3) (b := 7) (by unfold i64; omega) (by unfold i64; omega) j3) ?_
   rintro _ wc ⟨cc, rfl, rc, hEc⟩
   exact qz ⟨hEc, cc, rfl, wishR.mono (fun _ _ _ => trivial) rc⟩
  ·refine wl_gyes rfl (hk.pe 29 []) ?_
   obtain ⟨v108, e108, c108, rfl, r108⟩ := hk.pp 32 []
   refine Cl_ (xs := [.const (.int .i64 5), .const (.int .i64 1), .const (.int .u8 1), .tmp 108]) (by kernel_rfl) (by simp only [evs, ev, e108]; first | done | rfl) (lrun_ok (a := 5) (s := 1) (b := 1) (by unfold i64; omega) j1 r108) ?_
   rintro _ wc ⟨cc, rfl, rc, hEc⟩
   exact qz ⟨hEc, cc, rfl, evtR.mono (fun _ _ _ => trivial) rc⟩
  ·refine wl_gyes rfl (hk.pe 29 []) ?_
   exact wl_loadA (by decide) ag42 (hk.pi 1) (hat15.ext hER).at_ (wishR.len rd6) qz
  ·refine wl_gyes rfl (hk.pe 29 []) ?_
   refine wl_builtS (ps := []) (by decide) bld44 rfl rfl ?_
   exact qz ⟨Chg.refl _ _, _, (rfl : _ = Value.agg (anC ans0 none 0 none 0).toArray), ans0_rd j0⟩
  ·refine wl_gyes rfl (hk.pe 29 []) ?_
   have e110 := hk.pe 34 []
   obtain ⟨v111, e111, c111, rfl, r111⟩ := hk.pp 35 []
   refine Cl_ (xs := [.tmp 110, .tmp 111]) (by kernel_rfl) (by simp only [evs, ev, e110, e111]; first | done | rfl) (ldone_ok (wishR.mono (S' := fun _ => True) (fun _ _ _ => trivial) (keepE rd6 hER)) r111) ?_
   rintro _ wc ⟨cc, rfl, rc, hEc⟩
   exact qz ⟨hEc, cc, rfl, evtR.mono (fun _ _ _ => trivial) rc⟩
  ·refine wl_gyes rfl (hk.pe 29 []) ?_
   obtain ⟨v107, e107, c107, rfl, r107⟩ := hk.pp 31 []
   obtain ⟨v109, e109, c109, rfl, r109⟩ := hk.pp 33 []
   obtain ⟨v112, e112, c112, rfl, r112⟩ := hk.pp 36 []
   refine wl_bsliceR (r := evtR) (S := fun _ => True) (xs := [.tmp 107, .tmp 109, .tmp 112]) (css := [c107, c109, c112]) (l := [(callE (wrW 31 1 3 7)), (runE 5 1 1 (wrW 31 9 3 7)), (doneE (wrW 31 1 3 7) ans0)]) (by decide) sl24 rfl (by simp only [evs, ev, e107, e109, e112, List.map_cons, List.map_nil]) (rfc r107 (rfc r109 (rfc r112 (RF.nil _ _ _)))) rfl (by simp) leB_ ?_
   rintro g wc _ gs hEc
   exact qz ⟨hEc, some ⟨g, 0, none⟩, _, rfl, gs.wid (fun _ _ => trivial)⟩
  ·refine wl_gyes rfl (hk.pe 29 []) ?_
   obtain ⟨v113, e113, A113, c113, rfl, r113⟩ := hk.pp 37 []
   refine Cl_ (xs := [.const (.int .i64 0), .const (.int .i64 0), .tmp 113]) (by kernel_rfl) (by simp only [evs, ev, e113]; first | done | rfl) (lfind_yes r113 clients_ok_f11) ?_
   rintro _ wc ⟨rfl, hEc⟩
   exact qz ⟨hEc, rfl⟩
  ·have ea := hk.pe 29 []
   have eb := hk.pe 38 []
   exact aPt (by decide) ea rfl eb qz
  ·have ea := hk.pe 39 []
   exact dm ea
  ·refine wl_gyes rfl (hk.pe 40 []) ?_
   exact wl_loadA (by decide) ag42 (hk.pi 1) (hat15.ext hER).at_ (wishR.len rd6) qz
  ·refine wl_gyes rfl (hk.pe 40 []) ?_
   have e117 := hk.pe 41 []
   refine Cl_ (xs := [.tmp 117]) (by kernel_rfl) (by simp only [evs, ev, e117]; first | done | rfl) (lcall_ok (wishR.mono (S' := fun _ => True) (fun _ _ _ => trivial) (keepE rd6 hER))) ?_
   rintro _ wc ⟨cc, rfl, rc, hEc⟩
   exact qz ⟨hEc, cc, rfl, evtR.mono (fun _ _ _ => trivial) rc⟩
  ·refine wl_gyes rfl (hk.pe 40 []) ?_
   refine Cl_ (xs := [.const (.int .i64 32), .const (.int .i64 1), .const (.int .i64 3), .const (.int .u8 7)]) (by kernel_rfl) rfl (lwrite_ok (c := 32) (t := 1) (bl := 3) (b := 7) (by unfold i64; omega) j1 j3) ?_
   rintro _ wc ⟨cc, rfl, rc, hEc⟩
   exact qz ⟨hEc, cc, rfl, wishR.mono (fun _ _ _ => trivial) rc⟩
  ·refine wl_gyes rfl (hk.pe 40 []) ?_
   obtain ⟨v119, e119, c119, rfl, r119⟩ := hk.pp 43 []
   refine Cl_ (xs := [.const (.int .i64 5), .const (.int .i64 1), .const (.int .u8 1), .tmp 119]) (by kernel_rfl) (by simp only [evs, ev, e119]; first | done | rfl) (lrun_ok (a := 5) (s := 1) (b := 1) (by unfold i64; omega) j1 r119) ?_
   rintro _ wc ⟨cc, rfl, rc, hEc⟩
   exact qz ⟨hEc, cc, rfl, evtR.mono (fun _ _ _ => trivial) rc⟩
  ·refine wl_gyes rfl (hk.pe 40 []) ?_
   exact wl_loadA (by decide) ag42 (hk.pi 1) (hat15.ext hER).at_ (wishR.len rd6) qz
  ·refine wl_gyes rfl (hk.pe 40 []) ?_
   refine wl_builtS (ps := []) (by decide) bld44 rfl rfl ?_
   exact qz ⟨Chg.refl _ _, _, (rfl : _ = Value.agg (anC ans0 none 0 none 0).toArray), ans0_rd j0⟩
  ·refine wl_gyes rfl (hk.pe 40 []) ?_
   have e121 := hk.pe 45 []
   obtain ⟨v122, e122, c122, rfl, r122⟩ := hk.pp 46 []
   refine Cl_ (xs := [.tmp 121, .tmp 122]) (by kernel_rfl) (by simp only [evs, ev, e121, e122]; first | done | rfl) (ldone_ok (wishR.mono (S' := fun _ => True) (fun _ _ _ => trivial) (keepE rd6 hER)) r122) ?_
   rintro _ wc ⟨cc, rfl, rc, hEc⟩
   exact qz ⟨hEc, cc, rfl, evtR.mono (fun _ _ _ => trivial) rc⟩
  ·refine wl_gyes rfl (hk.pe 40 []) ?_
   obtain ⟨v118, e118, c118, rfl, r118⟩ := hk.pp 42 []
   obtain ⟨v120, e120, c120, rfl, r120⟩ := hk.pp 44 []
   obtain ⟨v123, e123, c123, rfl, r123⟩ := hk.pp 47 []
   refine wl_bsliceR (r := evtR) (S := fun _ => True) (xs := [.tmp 118, .tmp 120, .tmp 123]) (css := [c118, c120, c123]) (l := [(callE (wrW 31 1 3 7)), (runE 5 1 1 (wrW 32 1 3 7)), (doneE (wrW 31 1 3 7) ans0)]) (by decide) sl24 rfl (by simp only [evs, ev, e118, e120, e123, List.map_cons, List.map_nil]) (rfc r118 (rfc r120 (rfc r123 (RF.nil _ _ _)))) rfl (by simp) leB_ ?_
   rintro g wc _ gs hEc
   exact qz ⟨hEc, some ⟨g, 0, none⟩, _, rfl, gs.wid (fun _ _ => trivial)⟩
  ·refine wl_gyes rfl (hk.pe 40 []) ?_
   obtain ⟨v124, e124, A124, c124, rfl, r124⟩ := hk.pp 48 []
   refine Cl_ (xs := [.const (.int .i64 10), .const (.int .i64 2), .tmp 124]) (by kernel_rfl) (by simp only [evs, ev, e124]; first | done | rfl) (lfind_yes r124 clients_ok_f12) ?_
   rintro _ wc ⟨rfl, hEc⟩
   exact qz ⟨hEc, rfl⟩
  ·have ea := hk.pe 40 []
   have eb := hk.pe 49 []
   exact aPt (by decide) ea rfl eb qz
  ·have ea := hk.pe 50 []
   exact wl_assign (by decide) ea qz
 intro F w33 E34 hini hdo
 have e8 := dq hdo 51
 refine wk_drop [(3, pt g10 0), (2, pt g5 0), (1, pt g4 0), (4, pt g18 0), (7, pt g29 0), (0, .bool false), (5, .bool true), (6, .bool true), (8, .bool true)] ⟨di hini 3, di hini 2, di hini 1, di hini 4, di hini 7, di hini 0, di hini 5, di hini 6, e8, trivial⟩ ?_
 clear hini hdo e8
 replace hp := hp.ext E34
 replace hat13 := hat13.ext E34
 replace rd11 := keepE rd11 E34
 replace hat14 := hat14.ext E34
 replace rd7 := keepE rd7 E34
 replace hat15 := hat15.ext E34
 replace rd6 := keepE rd6 E34
 replace hat23 := hat23.ext E34
 replace rd19 := keepE rd19 E34
 replace hat32 := hat32.ext E34
 replace rd30 := keepE rd30 E34
 refine so ?_
 refine Ce (lread_ok (S := F32) (c := 32) (t := 1) (bl := 3) (by unfold i64; omega) j1 j3) ?_
 rintro _ w35 ⟨cs35, rfl, rd35, E35⟩
 replace hp := hp.ext E35
 refine so ?_
 refine Alo hp (h := fun g36 w36 hp E36 => ?_)
 refine so ?_
 have rd37 := rdTo (F := F32) (w' := w36) (wishR.mono (fun _ _ h => h) rd35) mv
 have hl37 : cs35.length = 10 := wishR.len rd37
 refine Hs 0 hp (xs := cs35) (ds := cs35) (hc := ⟨rfl⟩) (hk := hl37) (hl := by rw [hl37]; exact leB_) (h1 := wishR.one rd37) (hq := putL_all (by rw [hl37]; rfl)) (h := fun w37 hp C37 => ?_)
 replace rd37 := rdTo (F := F32) (w' := w37) rd37 mv
 have z38 : Frz F32 F32 w33 w37 := mv
 replace hat13 := hat13.to z38
 replace rd11 := rdTo rd11 z38
 replace hat14 := hat14.to z38
 replace rd7 := rdTo rd7 z38
 replace hat15 := hat15.to z38
 replace rd6 := rdTo rd6 z38
 replace hat23 := hat23.to z38
 replace rd19 := rdTo rd19 z38
 replace hat32 := hat32.to z38
 replace rd30 := rdTo rd30 z38
 obtain ⟨F39, hp, s39, hat39⟩ := HP.frzBlk hp
 replace hat13 := hat13.wid s39
 replace rd11 := rdWd s39 rd11
 replace hat14 := hat14.wid s39
 replace rd7 := rdWd s39 rd7
 replace hat15 := hat15.wid s39
 replace rd6 := rdWd s39 rd6
 replace hat23 := hat23.wid s39
 replace rd19 := rdWd s39 rd19
 replace hat32 := hat32.wid s39
 replace rd30 := rdWd s39 rd30
 replace rd37 := rdWd s39 rd37
 obtain ⟨q39, hq39⟩ : ∃ q, q = cs35 := ⟨_, rfl⟩
 rw [← hq39] at hat39 rd37
 refine so ?_
 refine wdL [.eq (.agg q39.toArray), .rd evtR (fun _ => True) (callE (rdW 32 1 3)), .eq (.agg q39.toArray), .gs byteR (fun _ => True) (dat 7), .rd ansR (fun _ => True) (⟨0, (dat 7), 0, []⟩ : Ans), .rd evtR (fun _ => True) (doneE (rdW 32 1 3) (⟨0, (dat 7), 0, []⟩ : Ans)), .gs evtR (fun _ => True) [(callE (rdW 32 1 3)), (doneE (rdW 32 1 3) (⟨0, (dat 7), 0, []⟩ : Ans))], .eq (.bool true), .eq (.bool true), .eq (.agg q39.toArray), .rd evtR (fun _ => True) (callE (rdW 32 1 3)), .eq (.agg q39.toArray), .gs byteR (fun _ => True) (dat 0), .rd ansR (fun _ => True) (⟨0, (dat 0), 0, []⟩ : Ans), .rd evtR (fun _ => True) (doneE (rdW 32 1 3) (⟨0, (dat 0), 0, []⟩ : Ans)), .gs evtR (fun _ => True) [(callE (rdW 32 1 3)), (doneE (rdW 32 1 3) (⟨0, (dat 0), 0, []⟩ : Ans))], .eq (.bool true), .eq (.bool true), .eq (.bool true), .eq (.agg q15.toArray), .rd evtR (fun _ => True) (callE (wrW 31 1 3 7)), .eq (.agg q39.toArray), .rd evtR (fun _ => True) (callE (rdW 32 1 3)), .eq (.agg q39.toArray), .gs byteR (fun _ => True) (dat 7), .rd ansR (fun _ => True) (⟨0, (dat 7), 0, []⟩ : Ans), .rd evtR (fun _ => True) (doneE (rdW 32 1 3) (⟨0, (dat 7), 0, []⟩ : Ans)), .gs evtR (fun _ => True) [(callE (wrW 31 1 3 7)), (callE (rdW 32 1 3)), (doneE (rdW 32 1 3) (⟨0, (dat 7), 0, []⟩ : Ans))], .eq (.bool true), .eq (.bool true), .eq (.bool true), .eq (.agg q15.toArray), .rd evtR (fun _ => True) (callE (wrW 31 1 3 7)), .eq (.agg q15.toArray), .rd evtR (fun _ => True) (runE 5 1 1 (wrW 31 1 3 7)), .eq (.agg q15.toArray), .rd ansR (fun _ => True) ans0, .rd evtR (fun _ => True) (doneE (wrW 31 1 3 7) ans0), .eq (.agg q39.toArray), .rd evtR (fun _ => True) (callE (rdW 32 1 3)), .eq (.agg q39.toArray), .gs byteR (fun _ => True) (dat 0), .rd ansR (fun _ => True) (⟨0, (dat 0), 0, []⟩ : Ans), .rd evtR (fun _ => True) (doneE (rdW 32 1 3) (⟨0, (dat 0), 0, []⟩ : Ans)), .gs evtR (fun _ => True) [(callE (wrW 31 1 3 7)), (runE 5 1 1 (wrW 31 1 3 7)), (doneE (wrW 31 1 3 7) ans0), (callE (rdW 32 1 3)), (doneE (rdW 32 1 3) (⟨0, (dat 0), 0, []⟩ : Ans))], .eq (.bool true), .eq (.bool true), .eq (.bool true), .eq (.agg q15.toArray), .rd evtR (fun _ => True) (callE (wrW 31 1 3 7)), .eq (.agg q15.toArray), .eq (.agg q32.toArray), .rd evtR (fun _ => True) (doneE (wrW 31 1 3 7) (⟨172, [], 0, []⟩ : Ans)), .eq (.agg q39.toArray), .rd evtR (fun _ => True) (callE (rdW 32 1 3)), .eq (.agg q39.toArray), .gs byteR (fun _ => True) (dat 7), .rd ansR (fun _ => True) (⟨0, (dat 7), 0, []⟩ : Ans), .rd evtR (fun _ => True) (doneE (rdW 32 1 3) (⟨0, (dat 7), 0, []⟩ : Ans)), .gs evtR (fun _ => True) [(callE (wrW 31 1 3 7)), (doneE (wrW 31 1 3 7) (⟨172, [], 0, []⟩ : Ans)), (callE (rdW 32 1 3)), (doneE (rdW 32 1 3) (⟨0, (dat 7), 0, []⟩ : Ans))], .eq (.bool true), .eq (.bool true), .eq (.bool true), .eq (.agg q39.toArray), .rd evtR (fun _ => True) (callE (rdW 32 1 3)), .eq (.agg q39.toArray), .rd ansR (fun _ => True) ans0, .rd evtR (fun _ => True) (doneE (rdW 32 1 3) ans0), .gs evtR (fun _ => True) [(callE (rdW 32 1 3)), (doneE (rdW 32 1 3) ans0)], .eq (.bool true), .eq (.bool true), .eq (.bool true)] ?_ ?_
 ·refine ⟨?_, ?_, ?_, ?_, ?_, ?_, ?_, ?_, ?_, ?_, ?_, ?_, ?_, ?_, ?_, ?_, ?_, ?_, ?_, ?_, ?_, ?_, ?_, ?_, ?_, ?_, ?_, ?_, ?_, ?_, ?_, ?_, ?_, ?_, ?_, ?_, ?_, ?_, ?_, ?_, ?_, ?_, ?_, ?_, ?_, ?_, ?_, ?_, ?_, ?_, ?_, ?_, ?_, ?_, ?_, ?_, ?_, ?_, ?_, ?_, ?_, ?_, ?_, ?_, ?_, ?_, ?_, ?_, ?_, ?_, ?_, ?_, trivial⟩ <;> intro F wF hER hk
  ·exact wl_loadA (by decide) ag42 (hk.pi 9) (hat39.ext hER).at_ (wishR.len rd37) qz
  ·have e128 := hk.pe 0 []
   refine Cl_ (xs := [.tmp 128]) (by kernel_rfl) (by simp only [evs, ev, e128]; first | done | rfl) (lcall_ok (wishR.mono (S' := fun _ => True) (fun _ _ _ => trivial) (keepE rd37 hER))) ?_
   rintro _ wc ⟨cc, rfl, rc, hEc⟩
   exact qz ⟨hEc, cc, rfl, evtR.mono (fun _ _ _ => trivial) rc⟩
  ·exact wl_loadA (by decide) ag42 (hk.pi 9) (hat39.ext hER).at_ (wishR.len rd37) qz
  ·refine Cl_ (xs := [.const (.int .u8 7)]) (by kernel_rfl) rfl (ldata_ok (b := 7)) ?_
   rintro _ wc ⟨A, c, rfl, rc, hEc⟩
   exact qz ⟨hEc, A, c, rfl, rc.wid (fun _ _ => trivial)⟩
  ·obtain ⟨v131, e131, A131, c131, rfl, r131⟩ := hk.pp 3 []
   refine wl_builtS (ps := [(1, .tmp 131)]) (by decide) bld44 (by simp only [evp, ev, e131]; first | done | rfl) rfl ?_
   exact qz ⟨Chg.refl _ _, _, (rfl : _ = Value.agg (anC ⟨0, (dat 7), 0, []⟩ A131 c131 none 0).toArray), ansD_rd r131⟩
  ·have e130 := hk.pe 2 []
   obtain ⟨v132, e132, c132, rfl, r132⟩ := hk.pp 4 []
   refine Cl_ (xs := [.tmp 130, .tmp 132]) (by kernel_rfl) (by simp only [evs, ev, e130, e132]; first | done | rfl) (ldone_ok (wishR.mono (S' := fun _ => True) (fun _ _ _ => trivial) (keepE rd37 hER)) r132) ?_
   rintro _ wc ⟨cc, rfl, rc, hEc⟩
   exact qz ⟨hEc, cc, rfl, evtR.mono (fun _ _ _ => trivial) rc⟩
  ·obtain ⟨v129, e129, c129, rfl, r129⟩ := hk.pp 1 []
   obtain ⟨v133, e133, c133, rfl, r133⟩ := hk.pp 5 []
   refine wl_bsliceR (r := evtR) (S := fun _ => True) (xs := [.tmp 129, .tmp 133]) (css := [c129, c133]) (l := [(callE (rdW 32 1 3)), (doneE (rdW 32 1 3) (⟨0, (dat 7), 0, []⟩ : Ans))]) (by decide) sl24 rfl (by simp only [evs, ev, e129, e133, List.map_cons, List.map_nil]) (rfc r129 (rfc r133 (RF.nil _ _ _))) rfl (by simp) leB_ ?_
   rintro g wc _ gs hEc
   exact qz ⟨hEc, some ⟨g, 0, none⟩, _, rfl, gs.wid (fun _ _ => trivial)⟩
  ·obtain ⟨v134, e134, A134, c134, rfl, r134⟩ := hk.pp 6 []
   refine Cl_ (xs := [.const (.int .i64 11), .const (.int .i64 1), .tmp 134]) (by kernel_rfl) (by simp only [evs, ev, e134]; first | done | rfl) (lfind_yes r134 clients_ok_f13) ?_
   rintro _ wc ⟨rfl, hEc⟩
   exact qz ⟨hEc, rfl⟩
  ·have ea := hk.pe 7 []
   exact dm ea
  ·refine wl_gyes rfl (hk.pe 8 []) ?_
   exact wl_loadA (by decide) ag42 (hk.pi 9) (hat39.ext hER).at_ (wishR.len rd37) qz
  ·refine wl_gyes rfl (hk.pe 8 []) ?_
   have e137 := hk.pe 9 []
   refine Cl_ (xs := [.tmp 137]) (by kernel_rfl) (by simp only [evs, ev, e137]; first | done | rfl) (lcall_ok (wishR.mono (S' := fun _ => True) (fun _ _ _ => trivial) (keepE rd37 hER))) ?_
   rintro _ wc ⟨cc, rfl, rc, hEc⟩
   exact qz ⟨hEc, cc, rfl, evtR.mono (fun _ _ _ => trivial) rc⟩
  ·refine wl_gyes rfl (hk.pe 8 []) ?_
   exact wl_loadA (by decide) ag42 (hk.pi 9) (hat39.ext hER).at_ (wishR.len rd37) qz
  ·refine wl_gyes rfl (hk.pe 8 []) ?_
   refine Cl_ (xs := [.const (.int .u8 0)]) (by kernel_rfl) rfl (ldata_ok (b := 0)) ?_
   rintro _ wc ⟨A, c, rfl, rc, hEc⟩
   exact qz ⟨hEc, A, c, rfl, rc.wid (fun _ _ => trivial)⟩
  ·refine wl_gyes rfl (hk.pe 8 []) ?_
   obtain ⟨v140, e140, A140, c140, rfl, r140⟩ := hk.pp 12 []
   refine wl_builtS (ps := [(1, .tmp 140)]) (by decide) bld44 (by simp only [evp, ev, e140]; first | done | rfl) rfl ?_
   exact qz ⟨Chg.refl _ _, _, (rfl : _ = Value.agg (anC ⟨0, (dat 0), 0, []⟩ A140 c140 none 0).toArray), ansD_rd r140⟩
  ·refine wl_gyes rfl (hk.pe 8 []) ?_
   have e139 := hk.pe 11 []
   obtain ⟨v141, e141, c141, rfl, r141⟩ := hk.pp 13 []
   refine Cl_ (xs := [.tmp 139, .tmp 141]) (by kernel_rfl) (by simp only [evs, ev, e139, e141]; first | done | rfl) (ldone_ok (wishR.mono (S' := fun _ => True) (fun _ _ _ => trivial) (keepE rd37 hER)) r141) ?_
   rintro _ wc ⟨cc, rfl, rc, hEc⟩
   exact qz ⟨hEc, cc, rfl, evtR.mono (fun _ _ _ => trivial) rc⟩
  ·refine wl_gyes rfl (hk.pe 8 []) ?_
   obtain ⟨v138, e138, c138, rfl, r138⟩ := hk.pp 10 []
   obtain ⟨v142, e142, c142, rfl, r142⟩ := hk.pp 14 []
   refine wl_bsliceR (r := evtR) (S := fun _ => True) (xs := [.tmp 138, .tmp 142]) (css := [c138, c142]) (l := [(callE (rdW 32 1 3)), (doneE (rdW 32 1 3) (⟨0, (dat 0), 0, []⟩ : Ans))]) (by decide) sl24 rfl (by simp only [evs, ev, e138, e142, List.map_cons, List.map_nil]) (rfc r138 (rfc r142 (RF.nil _ _ _))) rfl (by simp) leB_ ?_
   rintro g wc _ gs hEc
   exact qz ⟨hEc, some ⟨g, 0, none⟩, _, rfl, gs.wid (fun _ _ => trivial)⟩
  ·refine wl_gyes rfl (hk.pe 8 []) ?_
   obtain ⟨v143, e143, A143, c143, rfl, r143⟩ := hk.pp 15 []
   refine Cl_ (xs := [.const (.int .i64 0), .const (.int .i64 0), .tmp 143]) (by kernel_rfl) (by simp only [evs, ev, e143]; first | done | rfl) (lfind_yes r143 clients_ok_f14) ?_
   rintro _ wc ⟨rfl, hEc⟩
   exact qz ⟨hEc, rfl⟩
  ·have ea := hk.pe 8 []
   have eb := hk.pe 16 []
   exact aPt (by decide) ea rfl eb qz
  ·have ea := hk.pe 17 []
   exact dm ea
  ·refine wl_gyes rfl (hk.pe 18 []) ?_
   exact wl_loadA (by decide) ag42 (hk.pi 1) (hat15.ext hER).at_ (wishR.len rd6) qz
  ·refine wl_gyes rfl (hk.pe 18 []) ?_
   have e147 := hk.pe 19 []
   refine Cl_ (xs := [.tmp 147]) (by kernel_rfl) (by simp only [evs, ev, e147]; first | done | rfl) (lcall_ok (wishR.mono (S' := fun _ => True) (fun _ _ _ => trivial) (keepE rd6 hER))) ?_
   rintro _ wc ⟨cc, rfl, rc, hEc⟩
   exact qz ⟨hEc, cc, rfl, evtR.mono (fun _ _ _ => trivial) rc⟩
  ·refine wl_gyes rfl (hk.pe 18 []) ?_
   exact wl_loadA (by decide) ag42 (hk.pi 9) (hat39.ext hER).at_ (wishR.len rd37) qz
  ·refine wl_gyes rfl (hk.pe 18 []) ?_
   have e149 := hk.pe 21 []
   refine Cl_ (xs := [.tmp 149]) (by kernel_rfl) (by simp only [evs, ev, e149]; first | done | rfl) (lcall_ok (wishR.mono (S' := fun _ => True) (fun _ _ _ => trivial) (keepE rd37 hER))) ?_
   rintro _ wc ⟨cc, rfl, rc, hEc⟩
   exact qz ⟨hEc, cc, rfl, evtR.mono (fun _ _ _ => trivial) rc⟩
  ·refine wl_gyes rfl (hk.pe 18 []) ?_
   exact wl_loadA (by decide) ag42 (hk.pi 9) (hat39.ext hER).at_ (wishR.len rd37) qz
  ·refine wl_gyes rfl (hk.pe 18 []) ?_
   refine Cl_ (xs := [.const (.int .u8 7)]) (by kernel_rfl) rfl (ldata_ok (b := 7)) ?_
   rintro _ wc ⟨A, c, rfl, rc, hEc⟩
   exact qz ⟨hEc, A, c, rfl, rc.wid (fun _ _ => trivial)⟩
  ·refine wl_gyes rfl (hk.pe 18 []) ?_
   obtain ⟨v152, e152, A152, c152, rfl, r152⟩ := hk.pp 24 []
   refine wl_builtS (ps := [(1, .tmp 152)]) (by decide) bld44 (by simp only [evp, ev, e152]; first | done | rfl) rfl ?_
   exact qz ⟨Chg.refl _ _, _, (rfl : _ = Value.agg (anC ⟨0, (dat 7), 0, []⟩ A152 c152 none 0).toArray), ansD_rd r152⟩
  ·refine wl_gyes rfl (hk.pe 18 []) ?_
   have e151 := hk.pe 23 []
   obtain ⟨v153, e153, c153, rfl, r153⟩ := hk.pp 25 []
   refine Cl_ (xs := [.tmp 151, .tmp 153]) (by kernel_rfl) (by simp only [evs, ev, e151, e153]; first | done | rfl) (ldone_ok (wishR.mono (S' := fun _ => True) (fun _ _ _ => trivial) (keepE rd37 hER)) r153) ?_
   rintro _ wc ⟨cc, rfl, rc, hEc⟩
   exact qz ⟨hEc, cc, rfl, evtR.mono (fun _ _ _ => trivial) rc⟩
  ·refine wl_gyes rfl (hk.pe 18 []) ?_
   obtain ⟨v148, e148, c148, rfl, r148⟩ := hk.pp 20 []
   obtain ⟨v150, e150, c150, rfl, r150⟩ := hk.pp 22 []
   obtain ⟨v154, e154, c154, rfl, r154⟩ := hk.pp 26 []
   refine wl_bsliceR (r := evtR) (S := fun _ => True) (xs := [.tmp 148, .tmp 150, .tmp 154]) (css := [c148, c150, c154]) (l := [(callE (wrW 31 1 3 7)), (callE (rdW 32 1 3)), (doneE (rdW 32 1 3) (⟨0, (dat 7), 0, []⟩ : Ans))]) (by decide) sl24 rfl (by simp only [evs, ev, e148, e150, e154, List.map_cons, List.map_nil]) (rfc r148 (rfc r150 (rfc r154 (RF.nil _ _ _)))) rfl (by simp) leB_ ?_
   rintro g wc _ gs hEc
   exact qz ⟨hEc, some ⟨g, 0, none⟩, _, rfl, gs.wid (fun _ _ => trivial)⟩
  ·refine wl_gyes rfl (hk.pe 18 []) ?_
   obtain ⟨v155, e155, A155, c155, rfl, r155⟩ := hk.pp 27 []
   refine Cl_ (xs := [.const (.int .i64 0), .const (.int .i64 0), .tmp 155]) (by kernel_rfl) (by simp only [evs, ev, e155]; first | done | rfl) (lfind_yes r155 clients_ok_f15) ?_
   rintro _ wc ⟨rfl, hEc⟩
   exact qz ⟨hEc, rfl⟩
  ·have ea := hk.pe 18 []
   have eb := hk.pe 28 []
   exact aPt (by decide) ea rfl eb qz
  ·have ea := hk.pe 29 []
   exact dm ea
  ·refine wl_gyes rfl (hk.pe 30 []) ?_
   exact wl_loadA (by decide) ag42 (hk.pi 1) (hat15.ext hER).at_ (wishR.len rd6) qz
  ·refine wl_gyes rfl (hk.pe 30 []) ?_
   have e159 := hk.pe 31 []
   refine Cl_ (xs := [.tmp 159]) (by kernel_rfl) (by simp only [evs, ev, e159]; first | done | rfl) (lcall_ok (wishR.mono (S' := fun _ => True) (fun _ _ _ => trivial) (keepE rd6 hER))) ?_
   rintro _ wc ⟨cc, rfl, rc, hEc⟩
   exact qz ⟨hEc, cc, rfl, evtR.mono (fun _ _ _ => trivial) rc⟩
  ·refine wl_gyes rfl (hk.pe 30 []) ?_
   exact wl_loadA (by decide) ag42 (hk.pi 1) (hat15.ext hER).at_ (wishR.len rd6) qz
  ·refine wl_gyes rfl (hk.pe 30 []) ?_
   have e161 := hk.pe 33 []
   refine Cl_ (xs := [.const (.int .i64 5), .const (.int .i64 1), .const (.int .u8 1), .tmp 161]) (by kernel_rfl) (by simp only [evs, ev, e161]; first | done | rfl) (lrun_ok (a := 5) (s := 1) (b := 1) (by unfold i64; omega) j1 (wishR.mono (S' := fun _ => True) (fun _ _ _ => trivial) (keepE rd6 hER))) ?_
   rintro _ wc ⟨cc, rfl, rc, hEc⟩
   exact qz ⟨hEc, cc, rfl, evtR.mono (fun _ _ _ => trivial) rc⟩
  ·refine wl_gyes rfl (hk.pe 30 []) ?_
   exact wl_loadA (by decide) ag42 (hk.pi 1) (hat15.ext hER).at_ (wishR.len rd6) qz
  ·refine wl_gyes rfl (hk.pe 30 []) ?_
   refine wl_builtS (ps := []) (by decide) bld44 rfl rfl ?_
   exact qz ⟨Chg.refl _ _, _, (rfl : _ = Value.agg (anC ans0 none 0 none 0).toArray), ans0_rd j0⟩
  ·refine wl_gyes rfl (hk.pe 30 []) ?_
   have e163 := hk.pe 35 []
   obtain ⟨v164, e164, c164, rfl, r164⟩ := hk.pp 36 []
   refine Cl_ (xs := [.tmp 163, .tmp 164]) (by kernel_rfl) (by simp only [evs, ev, e163, e164]; first | done | rfl) (ldone_ok (wishR.mono (S' := fun _ => True) (fun _ _ _ => trivial) (keepE rd6 hER)) r164) ?_
   rintro _ wc ⟨cc, rfl, rc, hEc⟩
   exact qz ⟨hEc, cc, rfl, evtR.mono (fun _ _ _ => trivial) rc⟩
  ·refine wl_gyes rfl (hk.pe 30 []) ?_
   exact wl_loadA (by decide) ag42 (hk.pi 9) (hat39.ext hER).at_ (wishR.len rd37) qz
  ·refine wl_gyes rfl (hk.pe 30 []) ?_
   have e166 := hk.pe 38 []
   refine Cl_ (xs := [.tmp 166]) (by kernel_rfl) (by simp only [evs, ev, e166]; first | done | rfl) (lcall_ok (wishR.mono (S' := fun _ => True) (fun _ _ _ => trivial) (keepE rd37 hER))) ?_
   rintro _ wc ⟨cc, rfl, rc, hEc⟩
   exact qz ⟨hEc, cc, rfl, evtR.mono (fun _ _ _ => trivial) rc⟩
  ·refine wl_gyes rfl (hk.pe 30 []) ?_
   exact wl_loadA (by decide) ag42 (hk.pi 9) (hat39.ext hER).at_ (wishR.len rd37) qz
  ·refine wl_gyes rfl (hk.pe 30 []) ?_
   refine Cl_ (xs := [.const (.int .u8 0)]) (by kernel_rfl) rfl (ldata_ok (b := 0)) ?_
   rintro _ wc ⟨A, c, rfl, rc, hEc⟩
   exact qz ⟨hEc, A, c, rfl, rc.wid (fun _ _ => trivial)⟩
  ·refine wl_gyes rfl (hk.pe 30 []) ?_
   obtain ⟨v169, e169, A169, c169, rfl, r169⟩ := hk.pp 41 []
   refine wl_builtS (ps := [(1, .tmp 169)]) (by decide) bld44 (by simp only [evp, ev, e169]; first | done | rfl) rfl ?_
   exact qz ⟨Chg.refl _ _, _, (rfl : _ = Value.agg (anC ⟨0, (dat 0), 0, []⟩ A169 c169 none 0).toArray), ansD_rd r169⟩
  ·refine wl_gyes rfl (hk.pe 30 []) ?_
   have e168 := hk.pe 40 []
   obtain ⟨v170, e170, c170, rfl, r170⟩ := hk.pp 42 []
   refine Cl_ (xs := [.tmp 168, .tmp 170]) (by kernel_rfl) (by simp only [evs, ev, e168, e170]; first | done | rfl) (ldone_ok (wishR.mono (S' := fun _ => True) (fun _ _ _ => trivial) (keepE rd37 hER)) r170) ?_
   rintro _ wc ⟨cc, rfl, rc, hEc⟩
   exact qz ⟨hEc, cc, rfl, evtR.mono (fun _ _ _ => trivial) rc⟩
  ·refine wl_gyes rfl (hk.pe 30 []) ?_
   obtain ⟨v160, e160, c160, rfl, r160⟩ := hk.pp 32 []
   obtain ⟨v162, e162, c162, rfl, r162⟩ := hk.pp 34 []
   obtain ⟨v165, e165, c165, rfl, r165⟩ := hk.pp 37 []
   obtain ⟨v167, e167, c167, rfl, r167⟩ := hk.pp 39 []
   obtain ⟨v171, e171, c171, rfl, r171⟩ := hk.pp 43 []
   refine wl_bsliceR (r := evtR) (S := fun _ => True) (xs := [.tmp 160, .tmp 162, .tmp 165, .tmp 167, .tmp 171]) (css := [c160, c162, c165, c167, c171]) (l := [(callE (wrW 31 1 3 7)), (runE 5 1 1 (wrW 31 1 3 7)), (doneE (wrW 31 1 3 7) ans0), (callE (rdW 32 1 3)), (doneE (rdW 32 1 3) (⟨0, (dat 0), 0, []⟩ : Ans))]) (by decide) sl24 rfl (by simp only [evs, ev, e160, e162, e165, e167, e171, List.map_cons, List.map_nil]) (rfc r160 (rfc r162 (rfc r165 (rfc r167 (rfc r171 (RF.nil _ _ _)))))) rfl (by simp) leB_ ?_
   rintro g wc _ gs hEc
   exact qz ⟨hEc, some ⟨g, 0, none⟩, _, rfl, gs.wid (fun _ _ => trivial)⟩
  ·refine wl_gyes rfl (hk.pe 30 []) ?_
   obtain ⟨v172, e172, A172, c172, rfl, r172⟩ := hk.pp 44 []
   refine Cl_ (xs := [.const (.int .i64 11), .const (.int .i64 4), .tmp 172]) (by kernel_rfl) (by simp only [evs, ev, e172]; first | done | rfl) (lfind_yes r172 clients_ok_f16) ?_
   rintro _ wc ⟨rfl, hEc⟩
   exact qz ⟨hEc, rfl⟩
  ·have ea := hk.pe 30 []
   have eb := hk.pe 45 []
   exact aPt (by decide) ea rfl eb qz
  ·have ea := hk.pe 46 []
   exact dm ea
  ·refine wl_gyes rfl (hk.pe 47 []) ?_
   exact wl_loadA (by decide) ag42 (hk.pi 1) (hat15.ext hER).at_ (wishR.len rd6) qz
  ·refine wl_gyes rfl (hk.pe 47 []) ?_
   have e176 := hk.pe 48 []
   refine Cl_ (xs := [.tmp 176]) (by kernel_rfl) (by simp only [evs, ev, e176]; first | done | rfl) (lcall_ok (wishR.mono (S' := fun _ => True) (fun _ _ _ => trivial) (keepE rd6 hER))) ?_
   rintro _ wc ⟨cc, rfl, rc, hEc⟩
   exact qz ⟨hEc, cc, rfl, evtR.mono (fun _ _ _ => trivial) rc⟩
  ·refine wl_gyes rfl (hk.pe 47 []) ?_
   exact wl_loadA (by decide) ag42 (hk.pi 1) (hat15.ext hER).at_ (wishR.len rd6) qz
  ·refine wl_gyes rfl (hk.pe 47 []) ?_
   exact wl_loadA (by decide) ag44 (hk.pi 7) (hat32.ext hER).at_ (ansR.len rd30) qz
  ·refine wl_gyes rfl (hk.pe 47 []) ?_
   have e178 := hk.pe 50 []
   have e179 := hk.pe 51 []
   refine Cl_ (xs := [.tmp 178, .tmp 179]) (by kernel_rfl) (by simp only [evs, ev, e178, e179]; first | done | rfl) (ldone_ok (wishR.mono (S' := fun _ => True) (fun _ _ _ => trivial) (keepE rd6 hER)) (ansR.mono (S' := fun _ => True) (fun _ _ _ => trivial) (keepE rd30 hER))) ?_
   rintro _ wc ⟨cc, rfl, rc, hEc⟩
   exact qz ⟨hEc, cc, rfl, evtR.mono (fun _ _ _ => trivial) rc⟩
  ·refine wl_gyes rfl (hk.pe 47 []) ?_
   exact wl_loadA (by decide) ag42 (hk.pi 9) (hat39.ext hER).at_ (wishR.len rd37) qz
  ·refine wl_gyes rfl (hk.pe 47 []) ?_
   have e181 := hk.pe 53 []
   refine Cl_ (xs := [.tmp 181]) (by kernel_rfl) (by simp only [evs, ev, e181]; first | done | rfl) (lcall_ok (wishR.mono (S' := fun _ => True) (fun _ _ _ => trivial) (keepE rd37 hER))) ?_
   rintro _ wc ⟨cc, rfl, rc, hEc⟩
   exact qz ⟨hEc, cc, rfl, evtR.mono (fun _ _ _ => trivial) rc⟩
  ·refine wl_gyes rfl (hk.pe 47 []) ?_
   exact wl_loadA (by decide) ag42 (hk.pi 9) (hat39.ext hER).at_ (wishR.len rd37) qz
  ·refine wl_gyes rfl (hk.pe 47 []) ?_
   refine Cl_ (xs := [.const (.int .u8 7)]) (by kernel_rfl) rfl (ldata_ok (b := 7)) ?_
   rintro _ wc ⟨A, c, rfl, rc, hEc⟩
   exact qz ⟨hEc, A, c, rfl, rc.wid (fun _ _ => trivial)⟩
  ·refine wl_gyes rfl (hk.pe 47 []) ?_
   obtain ⟨v184, e184, A184, c184, rfl, r184⟩ := hk.pp 56 []
   refine wl_builtS (ps := [(1, .tmp 184)]) (by decide) bld44 (by simp only [evp, ev, e184]; first | done | rfl) rfl ?_
   exact qz ⟨Chg.refl _ _, _, (rfl : _ = Value.agg (anC ⟨0, (dat 7), 0, []⟩ A184 c184 none 0).toArray), ansD_rd r184⟩
  ·refine wl_gyes rfl (hk.pe 47 []) ?_
   have e183 := hk.pe 55 []
   obtain ⟨v185, e185, c185, rfl, r185⟩ := hk.pp 57 []
   refine Cl_ (xs := [.tmp 183, .tmp 185]) (by kernel_rfl) (by simp only [evs, ev, e183, e185]; first | done | rfl) (ldone_ok (wishR.mono (S' := fun _ => True) (fun _ _ _ => trivial) (keepE rd37 hER)) r185) ?_
   rintro _ wc ⟨cc, rfl, rc, hEc⟩
   exact qz ⟨hEc, cc, rfl, evtR.mono (fun _ _ _ => trivial) rc⟩
  ·refine wl_gyes rfl (hk.pe 47 []) ?_
   obtain ⟨v177, e177, c177, rfl, r177⟩ := hk.pp 49 []
   obtain ⟨v180, e180, c180, rfl, r180⟩ := hk.pp 52 []
   obtain ⟨v182, e182, c182, rfl, r182⟩ := hk.pp 54 []
   obtain ⟨v186, e186, c186, rfl, r186⟩ := hk.pp 58 []
   refine wl_bsliceR (r := evtR) (S := fun _ => True) (xs := [.tmp 177, .tmp 180, .tmp 182, .tmp 186]) (css := [c177, c180, c182, c186]) (l := [(callE (wrW 31 1 3 7)), (doneE (wrW 31 1 3 7) (⟨172, [], 0, []⟩ : Ans)), (callE (rdW 32 1 3)), (doneE (rdW 32 1 3) (⟨0, (dat 7), 0, []⟩ : Ans))]) (by decide) sl24 rfl (by simp only [evs, ev, e177, e180, e182, e186, List.map_cons, List.map_nil]) (rfc r177 (rfc r180 (rfc r182 (rfc r186 (RF.nil _ _ _))))) rfl (by simp) leB_ ?_
   rintro g wc _ gs hEc
   exact qz ⟨hEc, some ⟨g, 0, none⟩, _, rfl, gs.wid (fun _ _ => trivial)⟩
  ·refine wl_gyes rfl (hk.pe 47 []) ?_
   obtain ⟨v187, e187, A187, c187, rfl, r187⟩ := hk.pp 59 []
   refine Cl_ (xs := [.const (.int .i64 0), .const (.int .i64 0), .tmp 187]) (by kernel_rfl) (by simp only [evs, ev, e187]; first | done | rfl) (lfind_yes r187 clients_ok_f17) ?_
   rintro _ wc ⟨rfl, hEc⟩
   exact qz ⟨hEc, rfl⟩
  ·have ea := hk.pe 47 []
   have eb := hk.pe 60 []
   exact aPt (by decide) ea rfl eb qz
  ·have ea := hk.pe 61 []
   exact dm ea
  ·refine wl_gyes rfl (hk.pe 62 []) ?_
   exact wl_loadA (by decide) ag42 (hk.pi 9) (hat39.ext hER).at_ (wishR.len rd37) qz
  ·refine wl_gyes rfl (hk.pe 62 []) ?_
   have e191 := hk.pe 63 []
   refine Cl_ (xs := [.tmp 191]) (by kernel_rfl) (by simp only [evs, ev, e191]; first | done | rfl) (lcall_ok (wishR.mono (S' := fun _ => True) (fun _ _ _ => trivial) (keepE rd37 hER))) ?_
   rintro _ wc ⟨cc, rfl, rc, hEc⟩
   exact qz ⟨hEc, cc, rfl, evtR.mono (fun _ _ _ => trivial) rc⟩
  ·refine wl_gyes rfl (hk.pe 62 []) ?_
   exact wl_loadA (by decide) ag42 (hk.pi 9) (hat39.ext hER).at_ (wishR.len rd37) qz
  ·refine wl_gyes rfl (hk.pe 62 []) ?_
   refine wl_builtS (ps := []) (by decide) bld44 rfl rfl ?_
   exact qz ⟨Chg.refl _ _, _, (rfl : _ = Value.agg (anC ans0 none 0 none 0).toArray), ans0_rd j0⟩
  ·refine wl_gyes rfl (hk.pe 62 []) ?_
   have e193 := hk.pe 65 []
   obtain ⟨v194, e194, c194, rfl, r194⟩ := hk.pp 66 []
   refine Cl_ (xs := [.tmp 193, .tmp 194]) (by kernel_rfl) (by simp only [evs, ev, e193, e194]; first | done | rfl) (ldone_ok (wishR.mono (S' := fun _ => True) (fun _ _ _ => trivial) (keepE rd37 hER)) r194) ?_
   rintro _ wc ⟨cc, rfl, rc, hEc⟩
   exact qz ⟨hEc, cc, rfl, evtR.mono (fun _ _ _ => trivial) rc⟩
  ·refine wl_gyes rfl (hk.pe 62 []) ?_
   obtain ⟨v192, e192, c192, rfl, r192⟩ := hk.pp 64 []
   obtain ⟨v195, e195, c195, rfl, r195⟩ := hk.pp 67 []
   refine wl_bsliceR (r := evtR) (S := fun _ => True) (xs := [.tmp 192, .tmp 195]) (css := [c192, c195]) (l := [(callE (rdW 32 1 3)), (doneE (rdW 32 1 3) ans0)]) (by decide) sl24 rfl (by simp only [evs, ev, e192, e195, List.map_cons, List.map_nil]) (rfc r192 (rfc r195 (RF.nil _ _ _))) rfl (by simp) leB_ ?_
   rintro g wc _ gs hEc
   exact qz ⟨hEc, some ⟨g, 0, none⟩, _, rfl, gs.wid (fun _ _ => trivial)⟩
  ·refine wl_gyes rfl (hk.pe 62 []) ?_
   obtain ⟨v196, e196, A196, c196, rfl, r196⟩ := hk.pp 68 []
   refine Cl_ (xs := [.const (.int .i64 11), .const (.int .i64 1), .tmp 196]) (by kernel_rfl) (by simp only [evs, ev, e196]; first | done | rfl) (lfind_yes r196 clients_ok_f18) ?_
   rintro _ wc ⟨rfl, hEc⟩
   exact qz ⟨hEc, rfl⟩
  ·have ea := hk.pe 62 []
   have eb := hk.pe 69 []
   exact aPt (by decide) ea rfl eb qz
  ·have ea := hk.pe 70 []
   exact wl_assign (by decide) ea qz
 intro F w40 E41 hini hdo
 have e10 := dq hdo 71
 refine wk_drop [(3, pt g10 0), (2, pt g5 0), (1, pt g4 0), (4, pt g18 0), (7, pt g29 0), (9, pt g36 0), (0, .bool false), (5, .bool true), (6, .bool true), (8, .bool true), (10, .bool true)] ⟨di hini 3, di hini 2, di hini 1, di hini 4, di hini 7, di hini 9, di hini 0, di hini 5, di hini 6, di hini 8, e10, trivial⟩ ?_
 clear hini hdo e10
 replace hp := hp.ext E41
 replace hat13 := hat13.ext E41
 replace rd11 := keepE rd11 E41
 replace hat14 := hat14.ext E41
 replace rd7 := keepE rd7 E41
 replace hat15 := hat15.ext E41
 replace rd6 := keepE rd6 E41
 replace hat23 := hat23.ext E41
 replace rd19 := keepE rd19 E41
 replace hat32 := hat32.ext E41
 replace rd30 := keepE rd30 E41
 replace hat39 := hat39.ext E41
 replace rd37 := keepE rd37 E41
 refine so ?_
 refine wdL [.eq (.bool true), .eq (.bool true), .rd wishR (fun _ => True) (wrW 33 1 3 7), .rd evtR (fun _ => True) (runE 5 1 1 (wrW 33 1 3 7)), .eq (.agg q39.toArray), .rd evtR (fun _ => True) (callE (rdW 32 1 3)), .eq (.agg q39.toArray), .gs byteR (fun _ => True) (dat 7), .rd ansR (fun _ => True) (⟨0, (dat 7), 0, []⟩ : Ans), .rd evtR (fun _ => True) (doneE (rdW 32 1 3) (⟨0, (dat 7), 0, []⟩ : Ans)), .gs evtR (fun _ => True) [(runE 5 1 1 (wrW 33 1 3 7)), (callE (rdW 32 1 3)), (doneE (rdW 32 1 3) (⟨0, (dat 7), 0, []⟩ : Ans))], .eq (.bool true), .eq (.bool true), .eq (.bool true)] ?_ ?_
 ·refine ⟨?_, ?_, ?_, ?_, ?_, ?_, ?_, ?_, ?_, ?_, ?_, ?_, ?_, ?_, trivial⟩ <;> intro F wF hER hk
  ·have ea := hk.pi 10 [(13, [])]
   exact dm ea
  ·have ea := hk.pe 0 []
   exact dm ea
  ·refine wl_gyes rfl (hk.pe 1 []) ?_
   refine Cl_ (xs := [.const (.int .i64 33), .const (.int .i64 1), .const (.int .i64 3), .const (.int .u8 7)]) (by kernel_rfl) rfl (lwrite_ok (c := 33) (t := 1) (bl := 3) (b := 7) (by unfold i64; omega) j1 j3) ?_
   rintro _ wc ⟨cc, rfl, rc, hEc⟩
   exact qz ⟨hEc, cc, rfl, wishR.mono (fun _ _ _ => trivial) rc⟩
  ·refine wl_gyes rfl (hk.pe 1 []) ?_
   obtain ⟨v201, e201, c201, rfl, r201⟩ := hk.pp 2 []
   refine Cl_ (xs := [.const (.int .i64 5), .const (.int .i64 1), .const (.int .u8 1), .tmp 201]) (by kernel_rfl) (by simp only [evs, ev, e201]; first | done | rfl) (lrun_ok (a := 5) (s := 1) (b := 1) (by unfold i64; omega) j1 r201) ?_
   rintro _ wc ⟨cc, rfl, rc, hEc⟩
   exact qz ⟨hEc, cc, rfl, evtR.mono (fun _ _ _ => trivial) rc⟩
  ·refine wl_gyes rfl (hk.pe 1 []) ?_
   exact wl_loadA (by decide) ag42 (hk.pi 9) (hat39.ext hER).at_ (wishR.len rd37) qz
  ·refine wl_gyes rfl (hk.pe 1 []) ?_
   have e203 := hk.pe 4 []
   refine Cl_ (xs := [.tmp 203]) (by kernel_rfl) (by simp only [evs, ev, e203]; first | done | rfl) (lcall_ok (wishR.mono (S' := fun _ => True) (fun _ _ _ => trivial) (keepE rd37 hER))) ?_
   rintro _ wc ⟨cc, rfl, rc, hEc⟩
   exact qz ⟨hEc, cc, rfl, evtR.mono (fun _ _ _ => trivial) rc⟩
  ·refine wl_gyes rfl (hk.pe 1 []) ?_
   exact wl_loadA (by decide) ag42 (hk.pi 9) (hat39.ext hER).at_ (wishR.len rd37) qz
  ·refine wl_gyes rfl (hk.pe 1 []) ?_
   refine Cl_ (xs := [.const (.int .u8 7)]) (by kernel_rfl) rfl (ldata_ok (b := 7)) ?_
   rintro _ wc ⟨A, c, rfl, rc, hEc⟩
   exact qz ⟨hEc, A, c, rfl, rc.wid (fun _ _ => trivial)⟩
  ·refine wl_gyes rfl (hk.pe 1 []) ?_
   obtain ⟨v206, e206, A206, c206, rfl, r206⟩ := hk.pp 7 []
   refine wl_builtS (ps := [(1, .tmp 206)]) (by decide) bld44 (by simp only [evp, ev, e206]; first | done | rfl) rfl ?_
   exact qz ⟨Chg.refl _ _, _, (rfl : _ = Value.agg (anC ⟨0, (dat 7), 0, []⟩ A206 c206 none 0).toArray), ansD_rd r206⟩
  ·refine wl_gyes rfl (hk.pe 1 []) ?_
   have e205 := hk.pe 6 []
   obtain ⟨v207, e207, c207, rfl, r207⟩ := hk.pp 8 []
   refine Cl_ (xs := [.tmp 205, .tmp 207]) (by kernel_rfl) (by simp only [evs, ev, e205, e207]; first | done | rfl) (ldone_ok (wishR.mono (S' := fun _ => True) (fun _ _ _ => trivial) (keepE rd37 hER)) r207) ?_
   rintro _ wc ⟨cc, rfl, rc, hEc⟩
   exact qz ⟨hEc, cc, rfl, evtR.mono (fun _ _ _ => trivial) rc⟩
  ·refine wl_gyes rfl (hk.pe 1 []) ?_
   obtain ⟨v202, e202, c202, rfl, r202⟩ := hk.pp 3 []
   obtain ⟨v204, e204, c204, rfl, r204⟩ := hk.pp 5 []
   obtain ⟨v208, e208, c208, rfl, r208⟩ := hk.pp 9 []
   refine wl_bsliceR (r := evtR) (S := fun _ => True) (xs := [.tmp 202, .tmp 204, .tmp 208]) (css := [c202, c204, c208]) (l := [(runE 5 1 1 (wrW 33 1 3 7)), (callE (rdW 32 1 3)), (doneE (rdW 32 1 3) (⟨0, (dat 7), 0, []⟩ : Ans))]) (by decide) sl24 rfl (by simp only [evs, ev, e202, e204, e208, List.map_cons, List.map_nil]) (rfc r202 (rfc r204 (rfc r208 (RF.nil _ _ _)))) rfl (by simp) leB_ ?_
   rintro g wc _ gs hEc
   exact qz ⟨hEc, some ⟨g, 0, none⟩, _, rfl, gs.wid (fun _ _ => trivial)⟩
  ·refine wl_gyes rfl (hk.pe 1 []) ?_
   obtain ⟨v209, e209, A209, c209, rfl, r209⟩ := hk.pp 10 []
   refine Cl_ (xs := [.const (.int .i64 0), .const (.int .i64 0), .tmp 209]) (by kernel_rfl) (by simp only [evs, ev, e209]; first | done | rfl) (lfind_yes r209 clients_ok_f19) ?_
   rintro _ wc ⟨rfl, hEc⟩
   exact qz ⟨hEc, rfl⟩
  ·have ea := hk.pe 1 []
   have eb := hk.pe 11 []
   exact aPt (by decide) ea rfl eb qz
  ·have ea := hk.pe 12 []
   exact wl_assign (by decide) ea qz
 intro F w42 E43 hini hdo
 have e10 := dq hdo 13
 refine wk_drop [(3, pt g10 0), (2, pt g5 0), (1, pt g4 0), (4, pt g18 0), (7, pt g29 0), (9, pt g36 0), (0, .bool false), (5, .bool true), (6, .bool true), (8, .bool true), (10, .bool true)] ⟨di hini 3, di hini 2, di hini 1, di hini 4, di hini 7, di hini 9, di hini 0, di hini 5, di hini 6, di hini 8, e10, trivial⟩ ?_
 clear hini hdo e10
 replace hp := hp.ext E43
 replace hat13 := hat13.ext E43
 replace rd11 := keepE rd11 E43
 replace hat14 := hat14.ext E43
 replace rd7 := keepE rd7 E43
 replace hat15 := hat15.ext E43
 replace rd6 := keepE rd6 E43
 replace hat23 := hat23.ext E43
 replace rd19 := keepE rd19 E43
 replace hat32 := hat32.ext E43
 replace rd30 := keepE rd30 E43
 replace hat39 := hat39.ext E43
 replace rd37 := keepE rd37 E43
 refine so ?_
 refine Ce (lplan_ok) ?_
 rintro _ w44 ⟨rfl, E44⟩
 replace hp := hp.ext E44
 refine so ?_
 refine Alo hp (h := fun g45 w45 hp E45 => ?_)
 refine so ?_
 have rd46 : plnR.rd F39 w45 (plnC planP) planP := planP_rd
 have hl46 : (plnC planP).length = 5 := plnR.len rd46
 refine Hs 0 hp (xs := (plnC planP)) (ds := (plnC planP)) (hc := ⟨rfl⟩) (hk := hl46) (hl := by rw [hl46]; exact leB_) (h1 := plnR.one rd46) (hq := putL_all (by rw [hl46]; rfl)) (h := fun w46 hp C46 => ?_)
 replace rd46 := rdTo (F := F39) (w' := w46) rd46 mv
 have z47 : Frz F39 F39 w42 w46 := mv
 replace hat13 := hat13.to z47
 replace rd11 := rdTo rd11 z47
 replace hat14 := hat14.to z47
 replace rd7 := rdTo rd7 z47
 replace hat15 := hat15.to z47
 replace rd6 := rdTo rd6 z47
 replace hat23 := hat23.to z47
 replace rd19 := rdTo rd19 z47
 replace hat32 := hat32.to z47
 replace rd30 := rdTo rd30 z47
 replace hat39 := hat39.to z47
 replace rd37 := rdTo rd37 z47
 refine so ?_
 refine wl_hstore1 (i := 0) (o := 4) (v := .int .i64 4294967296) rfl rfl hp rfl (show szB prog 3 1 = true by kernel_rfl) (by rw [plnR.len rd46]; exact leB_) rfl (fun w48 hp C48 => ?_)
 have z49 : Frz F39 F39 w46 w48 := mv
 replace hat13 := hat13.to z49
 replace rd11 := rdTo rd11 z49
 replace hat14 := hat14.to z49
 replace rd7 := rdTo rd7 z49
 replace hat15 := hat15.to z49
 replace rd6 := rdTo rd6 z49
 replace hat23 := hat23.to z49
 replace rd19 := rdTo rd19 z49
 replace hat32 := hat32.to z49
 replace rd30 := rdTo rd30 z49
 replace hat39 := hat39.to z49
 replace rd37 := rdTo rd37 z49
 replace rd46 := rdTo rd46 z49
 replace rd46 := set_bad (x := 4294967296) (by unfold i64; omega) rd46
 obtain ⟨F50, hp, s50, hat50⟩ := HP.frzBlk hp
 replace hat13 := hat13.wid s50
 replace rd11 := rdWd s50 rd11
 replace hat14 := hat14.wid s50
 replace rd7 := rdWd s50 rd7
 replace hat15 := hat15.wid s50
 replace rd6 := rdWd s50 rd6
 replace hat23 := hat23.wid s50
 replace rd19 := rdWd s50 rd19
 replace hat32 := hat32.wid s50
 replace rd30 := rdWd s50 rd30
 replace hat39 := hat39.wid s50
 replace rd37 := rdWd s50 rd37
 replace rd46 := rdWd s50 rd46
 obtain ⟨q50, hq50⟩ : ∃ q, q = ((plnC planP).set 4 (iv 4294967296)) := ⟨_, rfl⟩
 rw [← hq50] at hat50 rd46
 refine so ?_
 refine wdL [.eq (.agg q50.toArray), .rd wishR (fun _ => True) (wrW 32 1 3 7), .rd evtR (fun _ => True) (runE 5 1 1 (wrW 32 1 3 7)), .rd wishR (fun _ => True) (rdW 31 1 3), .rd evtR (fun _ => True) (callE (rdW 31 1 3)), .rd wishR (fun _ => True) (rdW 31 1 3), .gs byteR (fun _ => True) (dat 7), .rd ansR (fun _ => True) (⟨0, (dat 7), 0, []⟩ : Ans), .rd evtR (fun _ => True) (doneE (rdW 31 1 3) (⟨0, (dat 7), 0, []⟩ : Ans)), .gs evtR (fun _ => True) [(runE 5 1 1 (wrW 32 1 3 7)), (callE (rdW 31 1 3)), (doneE (rdW 31 1 3) (⟨0, (dat 7), 0, []⟩ : Ans))], .eq (find3 (0, 0, 0)), .eq (find3 (0, 0, 0)), .eq (iv 0), .eq (iv 0), .eq (iv 0), .eq (iv 0), .eq (iv 0), .eq (iv 0)] ?_ ?_
 ·refine ⟨?_, ?_, ?_, ?_, ?_, ?_, ?_, ?_, ?_, ?_, ?_, ?_, ?_, ?_, ?_, ?_, ?_, ?_, trivial⟩ <;> intro F wF hER hk
  ·exact wl_loadA (by decide) ag23 (hk.pi 11) (hat50.ext hER).at_ (plnR.len rd46) qz
  ·refine Cl_ (xs := [.const (.int .i64 32), .const (.int .i64 1), .const (.int .i64 3), .const (.int .u8 7)]) (by kernel_rfl) rfl (lwrite_ok (c := 32) (t := 1) (bl := 3) (b := 7) (by unfold i64; omega) j1 j3) ?_
   rintro _ wc ⟨cc, rfl, rc, hEc⟩
   exact qz ⟨hEc, cc, rfl, wishR.mono (fun _ _ _ => trivial) rc⟩
  ·obtain ⟨v216, e216, c216, rfl, r216⟩ := hk.pp 1 []
   refine Cl_ (xs := [.const (.int .i64 5), .const (.int .i64 1), .const (.int .u8 1), .tmp 216]) (by kernel_rfl) (by simp only [evs, ev, e216]; first | done | rfl) (lrun_ok (a := 5) (s := 1) (b := 1) (by unfold i64; omega) j1 r216) ?_
   rintro _ wc ⟨cc, rfl, rc, hEc⟩
   exact qz ⟨hEc, cc, rfl, evtR.mono (fun _ _ _ => trivial) rc⟩
  ·refine Cl_ (xs := [.const (.int .i64 31), .const (.int .i64 1), .const (.int .i64 3)]) (by kernel_rfl) rfl (lread_ok (S := fun _ => True) (c := 31) (t := 1) (bl := 3) (by unfold i64; omega) j1 j3) ?_
   rintro _ wc ⟨cc, rfl, rc, hEc⟩
   exact qz ⟨hEc, cc, rfl, wishR.mono (fun _ _ _ => trivial) rc⟩
  ·obtain ⟨v218, e218, c218, rfl, r218⟩ := hk.pp 3 []
   refine Cl_ (xs := [.tmp 218]) (by kernel_rfl) (by simp only [evs, ev, e218]; first | done | rfl) (lcall_ok r218) ?_
   rintro _ wc ⟨cc, rfl, rc, hEc⟩
   exact qz ⟨hEc, cc, rfl, evtR.mono (fun _ _ _ => trivial) rc⟩
  ·refine Cl_ (xs := [.const (.int .i64 31), .const (.int .i64 1), .const (.int .i64 3)]) (by kernel_rfl) rfl (lread_ok (S := fun _ => True) (c := 31) (t := 1) (bl := 3) (by unfold i64; omega) j1 j3) ?_
   rintro _ wc ⟨cc, rfl, rc, hEc⟩
   exact qz ⟨hEc, cc, rfl, wishR.mono (fun _ _ _ => trivial) rc⟩
  ·refine Cl_ (xs := [.const (.int .u8 7)]) (by kernel_rfl) rfl (ldata_ok (b := 7)) ?_
   rintro _ wc ⟨A, c, rfl, rc, hEc⟩
   exact qz ⟨hEc, A, c, rfl, rc.wid (fun _ _ => trivial)⟩
  ·obtain ⟨v221, e221, A221, c221, rfl, r221⟩ := hk.pp 6 []
   refine wl_builtS (ps := [(1, .tmp 221)]) (by decide) bld44 (by simp only [evp, ev, e221]; first | done | rfl) rfl ?_
   exact qz ⟨Chg.refl _ _, _, (rfl : _ = Value.agg (anC ⟨0, (dat 7), 0, []⟩ A221 c221 none 0).toArray), ansD_rd r221⟩
  ·obtain ⟨v220, e220, c220, rfl, r220⟩ := hk.pp 5 []
   obtain ⟨v222, e222, c222, rfl, r222⟩ := hk.pp 7 []
   refine Cl_ (xs := [.tmp 220, .tmp 222]) (by kernel_rfl) (by simp only [evs, ev, e220, e222]; first | done | rfl) (ldone_ok r220 r222) ?_
   rintro _ wc ⟨cc, rfl, rc, hEc⟩
   exact qz ⟨hEc, cc, rfl, evtR.mono (fun _ _ _ => trivial) rc⟩
  ·obtain ⟨v217, e217, c217, rfl, r217⟩ := hk.pp 2 []
   obtain ⟨v219, e219, c219, rfl, r219⟩ := hk.pp 4 []
   obtain ⟨v223, e223, c223, rfl, r223⟩ := hk.pp 8 []
   refine wl_bsliceR (r := evtR) (S := fun _ => True) (xs := [.tmp 217, .tmp 219, .tmp 223]) (css := [c217, c219, c223]) (l := [(runE 5 1 1 (wrW 32 1 3 7)), (callE (rdW 31 1 3)), (doneE (rdW 31 1 3) (⟨0, (dat 7), 0, []⟩ : Ans))]) (by decide) sl24 rfl (by simp only [evs, ev, e217, e219, e223, List.map_cons, List.map_nil]) (rfc r217 (rfc r219 (rfc r223 (RF.nil _ _ _)))) rfl (by simp) leB_ ?_
   rintro g wc _ gs hEc
   exact qz ⟨hEc, some ⟨g, 0, none⟩, _, rfl, gs.wid (fun _ _ => trivial)⟩
  ·have e215 := hk.pe 0 []
   obtain ⟨v224, e224, A224, c224, rfl, r224⟩ := hk.pp 9 []
   have hq := pfind_ok (keepE rd46 hER) r224
   rw [clients_ok_f20] at hq
   refine Cl_ (xs := [.tmp 215, .tmp 224]) (by kernel_rfl) (by simp only [evs, ev, e215, e224]) hq ?_
   rintro _ wc ⟨rfl, hEc⟩
   exact qz ⟨hEc, rfl⟩
  ·have ea := hk.pe 10 []
   exact dm ea
  ·have ea := hk.pe 11 []
   exact wl_extract (by decide) ea rfl qz
  ·have ea := hk.pe 11 []
   exact wl_extract (by decide) ea rfl qz
  ·have ea := hk.pe 11 []
   exact wl_extract (by decide) ea rfl qz
  ·have ea := hk.pe 12 []
   exact wl_assign (by decide) ea qz
  ·have ea := hk.pe 13 []
   exact wl_assign (by decide) ea qz
  ·have ea := hk.pe 14 []
   exact wl_assign (by decide) ea qz
 intro F w51 E52 hini hdo
 have e12 := dq hdo 15
 have e13 := dq hdo 16
 have e14 := dq hdo 17
 refine wk_drop [(3, pt g10 0), (2, pt g5 0), (1, pt g4 0), (4, pt g18 0), (7, pt g29 0), (9, pt g36 0), (11, pt g45 0), (0, .bool false), (5, .bool true), (6, .bool true), (8, .bool true), (10, .bool true), (12, iv 0), (13, iv 0), (14, iv 0)] ⟨di hini 3, di hini 2, di hini 1, di hini 4, di hini 7, di hini 9, di hini 11, di hini 0, di hini 5, di hini 6, di hini 8, di hini 10, e12, e13, e14, trivial⟩ ?_
 clear hini hdo e12 e13 e14
 replace hp := hp.ext E52
 replace hat13 := hat13.ext E52
 replace rd11 := keepE rd11 E52
 replace hat14 := hat14.ext E52
 replace rd7 := keepE rd7 E52
 replace hat15 := hat15.ext E52
 replace rd6 := keepE rd6 E52
 replace hat23 := hat23.ext E52
 replace rd19 := keepE rd19 E52
 replace hat32 := hat32.ext E52
 replace rd30 := keepE rd30 E52
 replace hat39 := hat39.ext E52
 replace rd37 := keepE rd37 E52
 replace hat50 := hat50.ext E52
 replace rd46 := keepE rd46 E52
 refine so ?_
 refine Ce (lplan_ok) ?_
 rintro _ w53 ⟨rfl, E53⟩
 replace hp := hp.ext E53
 refine so ?_
 refine Ce (lwrite_ok (c := 32) (t := 1) (bl := 3) (b := 7) (by unfold i64; omega) j1 j3) ?_
 rintro _ w54 ⟨cs54, rfl, rd54, E54⟩
 replace hp := hp.ext E54
 refine so ?_
 refine Ce (lrun_ok (a := 5) (s := 1) (b := 1) (by unfold i64; omega) j1 (wishR.mono (S' := fun _ => True) (fun _ _ _ => trivial) (keepE rd54 me))) ?_
 rintro _ w55 ⟨cs55, rfl, rd55, E55⟩
 replace hp := hp.ext E55
 refine so ?_
 refine Ce (lread_ok (S := F50) (c := 31) (t := 1) (bl := 3) (by unfold i64; omega) j1 j3) ?_
 rintro _ w56 ⟨cs56, rfl, rd56, E56⟩
 replace hp := hp.ext E56
 refine so ?_
 refine Ce (lcall_ok (wishR.mono (S' := fun _ => True) (fun _ _ _ => trivial) (keepE rd56 me))) ?_
 rintro _ w57 ⟨cs57, rfl, rd57, E57⟩
 replace hp := hp.ext E57
 refine so ?_
 refine Ce (lread_ok (S := F50) (c := 31) (t := 1) (bl := 3) (by unfold i64; omega) j1 j3) ?_
 rintro _ w58 ⟨cs58, rfl, rd58, E58⟩
 replace hp := hp.ext E58
 refine so ?_
 refine Ce (ldata_ok (b := 7)) ?_
 rintro _ w59 ⟨A59, c59, rfl, rd59, E59⟩
 replace hp := hp.ext E59
 refine so ?_
 refine wl_builtS (ps := [(1, .tmp 236)]) (by decide) bld44 rfl rfl ?_
 refine wl_re (k := 237) (v := .agg (anC ⟨0, (dat 7), 0, []⟩ A59 c59 none 0).toArray) rfl rfl ?_
 have rd60 : ansR.rd (fun _ => True) w59 (anC ⟨0, (dat 7), 0, []⟩ A59 c59 none 0) (⟨0, (dat 7), 0, []⟩ : Ans) := ansD_rd ((GS.ext rd59 me).wid (fun _ _ => trivial))
 refine so ?_
 refine Ce (ldone_ok (wishR.mono (S' := fun _ => True) (fun _ _ _ => trivial) (keepE rd58 me)) (ansR.mono (S' := fun _ => True) (fun _ _ _ => trivial) (keepE rd60 me))) ?_
 rintro _ w61 ⟨cs61, rfl, rd61, E61⟩
 replace hp := hp.ext E61
 refine so ?_
 refine wl_bsliceR (r := evtR) (S := fun _ => True) (xs := [.tmp 232, .tmp 234, .tmp 238]) (css := [cs55, cs57, cs61]) (l := [(runE 5 1 1 (wrW 32 1 3 7)), (callE (rdW 31 1 3)), (doneE (rdW 31 1 3) (⟨0, (dat 7), 0, []⟩ : Ans))]) (by decide) sl24 rfl rfl (rfc (evtR.mono (fun _ _ _ => trivial) (keepE rd55 me)) (rfc (evtR.mono (fun _ _ _ => trivial) (keepE rd57 me)) (rfc (evtR.mono (fun _ _ _ => trivial) (keepE rd61 me)) (RF.nil _ _ _)))) rfl (by simp) leB_ ?_
 rintro g62 w62 _ gs62 E62
 replace hp := hp.ext E62
 refine so ?_
 have hq63 := pfind_ok (planP_rd (S := fun _ => True)) gs62
 rw [clients_ok_f21] at hq63
 refine Ce hq63 ?_
 rintro _ w63 ⟨rfl, E63⟩
 replace hp := hp.ext E63
 have z71 : Frz F50 F50 w51 w63 := mv
 replace hat13 := hat13.to z71
 replace rd11 := rdTo rd11 z71
 replace hat14 := hat14.to z71
 replace rd7 := rdTo rd7 z71
 replace hat15 := hat15.to z71
 replace rd6 := rdTo rd6 z71
 replace hat23 := hat23.to z71
 replace rd19 := rdTo rd19 z71
 replace hat32 := hat32.to z71
 replace rd30 := rdTo rd30 z71
 replace hat39 := hat39.to z71
 replace rd37 := rdTo rd37 z71
 replace hat50 := hat50.to z71
 replace rd46 := rdTo rd46 z71
 refine so ?_
 exact Pt ⟨_, rfl, rfl, hp.chg⟩
set_option maxHeartbeats 16000000 in
theorem epochs_ok {w : World} : Ret prog 25 #[] w (fun v w' => v = .bool true ∧ Ext w w') := by
 refine ret_of_wk func25 rfl ntmps25 leB_ ?_
 have hp := HP.begin_ w
 generalize hF0 : (fun b => b < w.heap.size) = F0 at hp
 refine so ?_
 refine Ce (lwrite_ok (c := 31) (t := 1) (bl := 3) (b := 7) (by unfold i64; omega) j1 j3) ?_
 rintro _ w2 ⟨cs2, rfl, rd2, E2⟩
 obtain ⟨F2, hp, s2, n2, _⟩ := hp.frz E2
 replace rd2 := wishR.mono (fun b hb h => n2 b h hb) rd2
 refine so ?_
 refine Alo hp (h := fun g3 w3 hp E3 => ?_)
 refine so ?_
 have rd4 := rdTo (F := F2) (w' := w3) (wishR.mono (fun _ _ h => h) rd2) mv
 have hl4 : cs2.length = 10 := wishR.len rd4
 refine Hs 0 hp (xs := cs2) (ds := cs2) (hc := ⟨rfl⟩) (hk := hl4) (hl := by rw [hl4]; exact leB_) (h1 := wishR.one rd4) (hq := putL_all (by rw [hl4]; rfl)) (h := fun w4 hp C4 => ?_)
 replace rd4 := rdTo (F := F2) (w' := w4) rd4 mv
 have z5 : Frz F0 F2 w w4 := mv
 refine so ?_
 refine Ce (lnode_ok (S := F2) (k := 6) (a := 5) (ep := 0) (s := 4) (b := 9) (by unfold i64; omega) (by unfold i64; omega) j0 (by unfold i64; omega)) ?_
 rintro _ w6 ⟨cs6, rfl, rd6, E6⟩
 replace hp := hp.ext E6
 refine so ?_
 refine Alo hp (h := fun g7 w7 hp E7 => ?_)
 refine so ?_
 have rd8 := rdTo (F := F2) (w' := w7) (evtR.mono (fun _ _ h => h) rd6) mv
 have hl8 : cs6.length = 53 := evtR.len rd8
 refine Hs 0 hp (xs := cs6) (ds := cs6) (hc := ⟨rfl⟩) (hk := hl8) (hl := by rw [hl8]; exact leB_) (h1 := evtR.one rd8) (hq := putL_all (by rw [hl8]; rfl)) (h := fun w8 hp C8 => ?_)
 replace rd8 := rdTo (F := F2) (w' := w8) rd8 mv
 have z9 : Frz F2 F2 w4 w8 := mv
 replace rd4 := rdTo rd4 z9
 obtain ⟨F10, hp, s10, hat10⟩ := HP.frzBlk hp
 replace rd4 := rdWd s10 rd4
 replace rd8 := rdWd s10 rd8
 obtain ⟨q10, hq10⟩ : ∃ q, q = cs6 := ⟨_, rfl⟩
 rw [← hq10] at hat10 rd8
 obtain ⟨F11, hp, s11, hat11⟩ := HP.frzBlk hp
 replace hat10 := hat10.wid s11
 replace rd8 := rdWd s11 rd8
 replace rd4 := rdWd s11 rd4
 obtain ⟨q11, hq11⟩ : ∃ q, q = cs2 := ⟨_, rfl⟩
 rw [← hq11] at hat11 rd4
 refine so ?_
 refine wdL [.eq (.agg q10.toArray), .eq (.agg q11.toArray), .rd evtR (fun _ => True) (runE 6 4 1 (wrW 31 1 3 7)), .rd evtR (fun _ => True) (nodeE 4 6 0 4 9), .rd evtR (fun _ => True) (nodeE 6 6 0 4 9), .gs evtR (fun _ => True) [(nodeE 6 5 0 4 9), (runE 6 4 1 (wrW 31 1 3 7)), (nodeE 4 6 0 4 9), (nodeE 6 6 0 4 9)], .eq (.bool true), .eq (.bool true), .eq (.agg q10.toArray), .rd evtR (fun _ => True) (nodeE 6 6 0 3 9), .gs evtR (fun _ => True) [(nodeE 6 5 0 4 9), (nodeE 6 6 0 3 9)], .eq (.bool true), .eq (.bool true), .eq (.bool true), .eq (.agg q10.toArray), .rd evtR (fun _ => True) (nodeE 6 6 0 4 8), .gs evtR (fun _ => True) [(nodeE 6 5 0 4 9), (nodeE 6 6 0 4 8)], .eq (.bool true), .eq (.bool true), .eq (.bool true), .eq (.agg q10.toArray), .rd evtR (fun _ => True) (nodeE 4 6 0 5 9), .gs evtR (fun _ => True) [(nodeE 6 5 0 4 9), (nodeE 4 6 0 5 9)], .eq (.bool true), .eq (.bool true), .eq (.bool true), .eq (.agg q10.toArray), .rd evtR (fun _ => True) (nodeE 4 6 1 5 9), .rd evtR (fun _ => True) (nodeE 5 6 0 9 0), .gs evtR (fun _ => True) [(nodeE 6 5 0 4 9), (nodeE 4 6 1 5 9), (nodeE 5 6 0 9 0)], .eq (.bool true), .eq (.bool true), .eq (.bool true)] ?_ ?_
 ·refine ⟨?_, ?_, ?_, ?_, ?_, ?_, ?_, ?_, ?_, ?_, ?_, ?_, ?_, ?_, ?_, ?_, ?_, ?_, ?_, ?_, ?_, ?_, ?_, ?_, ?_, ?_, ?_, ?_, ?_, ?_, ?_, ?_, ?_, trivial⟩ <;> intro F wF hER hk
  ·exact wl_loadA (by decide) ag46 (hk.pi 2) (hat10.ext hER).at_ (evtR.len rd8) qz
  ·exact wl_loadA (by decide) ag42 (hk.pi 1) (hat11.ext hER).at_ (wishR.len rd4) qz
  ·have e8 := hk.pe 1 []
   refine Cl_ (xs := [.const (.int .i64 6), .const (.int .i64 4), .const (.int .u8 1), .tmp 8]) (by kernel_rfl) (by simp only [evs, ev, e8]; first | done | rfl) (lrun_ok (a := 6) (s := 4) (b := 1) (by unfold i64; omega) (by unfold i64; omega) (wishR.mono (S' := fun _ => True) (fun _ _ _ => trivial) (keepE rd4 hER))) ?_
   rintro _ wc ⟨cc, rfl, rc, hEc⟩
   exact qz ⟨hEc, cc, rfl, evtR.mono (fun _ _ _ => trivial) rc⟩
  ·refine Cl_ (xs := [.const (.int .i64 4), .const (.int .i64 6), .const (.int .i64 0), .const (.int .i64 4), .const (.int .u8 9)]) (by kernel_rfl) rfl (lnode_ok (S := fun _ => True) (k := 4) (a := 6) (ep := 0) (s := 4) (b := 9) (by unfold i64; omega) (by unfold i64; omega) j0 (by unfold i64; omega)) ?_
   rintro _ wc ⟨cc, rfl, rc, hEc⟩
   exact qz ⟨hEc, cc, rfl, evtR.mono (fun _ _ _ => trivial) rc⟩
  ·refine Cl_ (xs := [.const (.int .i64 6), .const (.int .i64 6), .const (.int .i64 0), .const (.int .i64 4), .const (.int .u8 9)]) (by kernel_rfl) rfl (lnode_ok (S := fun _ => True) (k := 6) (a := 6) (ep := 0) (s := 4) (b := 9) (by unfold i64; omega) (by unfold i64; omega) j0 (by unfold i64; omega)) ?_
   rintro _ wc ⟨cc, rfl, rc, hEc⟩
   exact qz ⟨hEc, cc, rfl, evtR.mono (fun _ _ _ => trivial) rc⟩
  ·have e7 := hk.pe 0 []
   obtain ⟨v9, e9, c9, rfl, r9⟩ := hk.pp 2 []
   obtain ⟨v10, e10, c10, rfl, r10⟩ := hk.pp 3 []
   obtain ⟨v11, e11, c11, rfl, r11⟩ := hk.pp 4 []
   refine wl_bsliceR (r := evtR) (S := fun _ => True) (xs := [.tmp 7, .tmp 9, .tmp 10, .tmp 11]) (css := [q10, c9, c10, c11]) (l := [(nodeE 6 5 0 4 9), (runE 6 4 1 (wrW 31 1 3 7)), (nodeE 4 6 0 4 9), (nodeE 6 6 0 4 9)]) (by decide) sl24 rfl (by simp only [evs, ev, e7, e9, e10, e11, List.map_cons, List.map_nil]) (rfc (evtR.mono (fun _ _ _ => trivial) (keepE rd8 hER)) (rfc r9 (rfc r10 (rfc r11 (RF.nil _ _ _))))) rfl (by simp) leB_ ?_
   rintro g wc _ gs hEc
   exact qz ⟨hEc, some ⟨g, 0, none⟩, _, rfl, gs.wid (fun _ _ => trivial)⟩
  ·obtain ⟨v12, e12, A12, c12, rfl, r12⟩ := hk.pp 5 []
   refine Cl_ (xs := [.const (.int .i64 0), .const (.int .i64 0), .tmp 12]) (by kernel_rfl) (by simp only [evs, ev, e12]; first | done | rfl) (lfind_yes r12 epochs_ok_f1) ?_
   rintro _ wc ⟨rfl, hEc⟩
   exact qz ⟨hEc, rfl⟩
  ·have ea := hk.pe 6 []
   exact dm ea
  ·refine wl_gyes rfl (hk.pe 7 []) ?_
   exact wl_loadA (by decide) ag46 (hk.pi 2) (hat10.ext hER).at_ (evtR.len rd8) qz
  ·refine wl_gyes rfl (hk.pe 7 []) ?_
   refine Cl_ (xs := [.const (.int .i64 6), .const (.int .i64 6), .const (.int .i64 0), .const (.int .i64 3), .const (.int .u8 9)]) (by kernel_rfl) rfl (lnode_ok (S := fun _ => True) (k := 6) (a := 6) (ep := 0) (s := 3) (b := 9) (by unfold i64; omega) (by unfold i64; omega) j0 j3) ?_
   rintro _ wc ⟨cc, rfl, rc, hEc⟩
   exact qz ⟨hEc, cc, rfl, evtR.mono (fun _ _ _ => trivial) rc⟩
  ·refine wl_gyes rfl (hk.pe 7 []) ?_
   have e15 := hk.pe 8 []
   obtain ⟨v16, e16, c16, rfl, r16⟩ := hk.pp 9 []
   refine wl_bsliceR (r := evtR) (S := fun _ => True) (xs := [.tmp 15, .tmp 16]) (css := [q10, c16]) (l := [(nodeE 6 5 0 4 9), (nodeE 6 6 0 3 9)]) (by decide) sl24 rfl (by simp only [evs, ev, e15, e16, List.map_cons, List.map_nil]) (rfc (evtR.mono (fun _ _ _ => trivial) (keepE rd8 hER)) (rfc r16 (RF.nil _ _ _))) rfl (by simp) leB_ ?_
   rintro g wc _ gs hEc
   exact qz ⟨hEc, some ⟨g, 0, none⟩, _, rfl, gs.wid (fun _ _ => trivial)⟩
  ·refine wl_gyes rfl (hk.pe 7 []) ?_
   obtain ⟨v17, e17, A17, c17, rfl, r17⟩ := hk.pp 10 []
   refine Cl_ (xs := [.const (.int .i64 6), .const (.int .i64 1), .tmp 17]) (by kernel_rfl) (by simp only [evs, ev, e17]; first | done | rfl) (lfind_yes r17 epochs_ok_f2) ?_
   rintro _ wc ⟨rfl, hEc⟩
   exact qz ⟨hEc, rfl⟩
  ·have ea := hk.pe 7 []
   have eb := hk.pe 11 []
   exact aPt (by decide) ea rfl eb qz
  ·have ea := hk.pe 12 []
   exact dm ea
  ·refine wl_gyes rfl (hk.pe 13 []) ?_
   exact wl_loadA (by decide) ag46 (hk.pi 2) (hat10.ext hER).at_ (evtR.len rd8) qz
  ·refine wl_gyes rfl (hk.pe 13 []) ?_
   refine Cl_ (xs := [.const (.int .i64 6), .const (.int .i64 6), .const (.int .i64 0), .const (.int .i64 4), .const (.int .u8 8)]) (by kernel_rfl) rfl (lnode_ok (S := fun _ => True) (k := 6) (a := 6) (ep := 0) (s := 4) (b := 8) (by unfold i64; omega) (by unfold i64; omega) j0 (by unfold i64; omega)) ?_
   rintro _ wc ⟨cc, rfl, rc, hEc⟩
   exact qz ⟨hEc, cc, rfl, evtR.mono (fun _ _ _ => trivial) rc⟩
  ·refine wl_gyes rfl (hk.pe 13 []) ?_
   have e21 := hk.pe 14 []
   obtain ⟨v22, e22, c22, rfl, r22⟩ := hk.pp 15 []
   refine wl_bsliceR (r := evtR) (S := fun _ => True) (xs := [.tmp 21, .tmp 22]) (css := [q10, c22]) (l := [(nodeE 6 5 0 4 9), (nodeE 6 6 0 4 8)]) (by decide) sl24 rfl (by simp only [evs, ev, e21, e22, List.map_cons, List.map_nil]) (rfc (evtR.mono (fun _ _ _ => trivial) (keepE rd8 hER)) (rfc r22 (RF.nil _ _ _))) rfl (by simp) leB_ ?_
   rintro g wc _ gs hEc
   exact qz ⟨hEc, some ⟨g, 0, none⟩, _, rfl, gs.wid (fun _ _ => trivial)⟩
  ·refine wl_gyes rfl (hk.pe 13 []) ?_
   obtain ⟨v23, e23, A23, c23, rfl, r23⟩ := hk.pp 16 []
   refine Cl_ (xs := [.const (.int .i64 6), .const (.int .i64 1), .tmp 23]) (by kernel_rfl) (by simp only [evs, ev, e23]; first | done | rfl) (lfind_yes r23 epochs_ok_f3) ?_
   rintro _ wc ⟨rfl, hEc⟩
   exact qz ⟨hEc, rfl⟩
  ·have ea := hk.pe 13 []
   have eb := hk.pe 17 []
   exact aPt (by decide) ea rfl eb qz
  ·have ea := hk.pe 18 []
   exact dm ea
  ·refine wl_gyes rfl (hk.pe 19 []) ?_
   exact wl_loadA (by decide) ag46 (hk.pi 2) (hat10.ext hER).at_ (evtR.len rd8) qz
  ·refine wl_gyes rfl (hk.pe 19 []) ?_
   refine Cl_ (xs := [.const (.int .i64 4), .const (.int .i64 6), .const (.int .i64 0), .const (.int .i64 5), .const (.int .u8 9)]) (by kernel_rfl) rfl (lnode_ok (S := fun _ => True) (k := 4) (a := 6) (ep := 0) (s := 5) (b := 9) (by unfold i64; omega) (by unfold i64; omega) j0 (by unfold i64; omega)) ?_
   rintro _ wc ⟨cc, rfl, rc, hEc⟩
   exact qz ⟨hEc, cc, rfl, evtR.mono (fun _ _ _ => trivial) rc⟩
  ·refine wl_gyes rfl (hk.pe 19 []) ?_
   have e27 := hk.pe 20 []
   obtain ⟨v28, e28, c28, rfl, r28⟩ := hk.pp 21 []
   refine wl_bsliceR (r := evtR) (S := fun _ => True) (xs := [.tmp 27, .tmp 28]) (css := [q10, c28]) (l := [(nodeE 6 5 0 4 9), (nodeE 4 6 0 5 9)]) (by decide) sl24 rfl (by simp only [evs, ev, e27, e28, List.map_cons, List.map_nil]) (rfc (evtR.mono (fun _ _ _ => trivial) (keepE rd8 hER)) (rfc r28 (RF.nil _ _ _))) rfl (by simp) leB_ ?_
   rintro g wc _ gs hEc
   exact qz ⟨hEc, some ⟨g, 0, none⟩, _, rfl, gs.wid (fun _ _ => trivial)⟩
  ·refine wl_gyes rfl (hk.pe 19 []) ?_
   obtain ⟨v29, e29, A29, c29, rfl, r29⟩ := hk.pp 22 []
   refine Cl_ (xs := [.const (.int .i64 6), .const (.int .i64 1), .tmp 29]) (by kernel_rfl) (by simp only [evs, ev, e29]; first | done | rfl) (lfind_yes r29 epochs_ok_f4) ?_
   rintro _ wc ⟨rfl, hEc⟩
   exact qz ⟨hEc, rfl⟩
  ·have ea := hk.pe 19 []
   have eb := hk.pe 23 []
   exact aPt (by decide) ea rfl eb qz
  ·have ea := hk.pe 24 []
   exact dm ea
  ·refine wl_gyes rfl (hk.pe 25 []) ?_
   exact wl_loadA (by decide) ag46 (hk.pi 2) (hat10.ext hER).at_ (evtR.len rd8) qz
  ·refine wl_gyes rfl (hk.pe 25 []) ?_
   refine Cl_ (xs := [.const (.int .i64 4), .const (.int .i64 6), .const (.int .i64 1), .const (.int .i64 5), .const (.int .u8 9)]) (by kernel_rfl) rfl (lnode_ok (S := fun _ => True) (k := 4) (a := 6) (ep := 1) (s := 5) (b := 9) (by unfold i64; omega) (by unfold i64; omega) j1 (by unfold i64; omega)) ?_
   rintro _ wc ⟨cc, rfl, rc, hEc⟩
   exact qz ⟨hEc, cc, rfl, evtR.mono (fun _ _ _ => trivial) rc⟩
  ·refine wl_gyes rfl (hk.pe 25 []) ?_
   refine Cl_ (xs := [.const (.int .i64 5), .const (.int .i64 6), .const (.int .i64 0), .const (.int .i64 9), .const (.int .u8 0)]) (by kernel_rfl) rfl (lnode_ok (S := fun _ => True) (k := 5) (a := 6) (ep := 0) (s := 9) (b := 0) (by unfold i64; omega) (by unfold i64; omega) j0 (by unfold i64; omega)) ?_
   rintro _ wc ⟨cc, rfl, rc, hEc⟩
   exact qz ⟨hEc, cc, rfl, evtR.mono (fun _ _ _ => trivial) rc⟩
  ·refine wl_gyes rfl (hk.pe 25 []) ?_
   have e33 := hk.pe 26 []
   obtain ⟨v34, e34, c34, rfl, r34⟩ := hk.pp 27 []
   obtain ⟨v35, e35, c35, rfl, r35⟩ := hk.pp 28 []
   refine wl_bsliceR (r := evtR) (S := fun _ => True) (xs := [.tmp 33, .tmp 34, .tmp 35]) (css := [q10, c34, c35]) (l := [(nodeE 6 5 0 4 9), (nodeE 4 6 1 5 9), (nodeE 5 6 0 9 0)]) (by decide) sl24 rfl (by simp only [evs, ev, e33, e34, e35, List.map_cons, List.map_nil]) (rfc (evtR.mono (fun _ _ _ => trivial) (keepE rd8 hER)) (rfc r34 (rfc r35 (RF.nil _ _ _)))) rfl (by simp) leB_ ?_
   rintro g wc _ gs hEc
   exact qz ⟨hEc, some ⟨g, 0, none⟩, _, rfl, gs.wid (fun _ _ => trivial)⟩
  ·refine wl_gyes rfl (hk.pe 25 []) ?_
   obtain ⟨v36, e36, A36, c36, rfl, r36⟩ := hk.pp 29 []
   refine Cl_ (xs := [.const (.int .i64 0), .const (.int .i64 0), .tmp 36]) (by kernel_rfl) (by simp only [evs, ev, e36]; first | done | rfl) (lfind_yes r36 epochs_ok_f5) ?_
   rintro _ wc ⟨rfl, hEc⟩
   exact qz ⟨hEc, rfl⟩
  ·have ea := hk.pe 25 []
   have eb := hk.pe 30 []
   exact aPt (by decide) ea rfl eb qz
  ·have ea := hk.pe 31 []
   exact wl_assign (by decide) ea qz
 intro F w12 E13 hini hdo
 have e3 := dq hdo 32
 refine wk_drop [(2, pt g7 0), (1, pt g3 0), (0, .bool false), (3, .bool true)] ⟨di hini 2, di hini 1, di hini 0, e3, trivial⟩ ?_
 clear hini hdo e3
 replace hp := hp.ext E13
 replace hat10 := hat10.ext E13
 replace rd8 := keepE rd8 E13
 replace hat11 := hat11.ext E13
 replace rd4 := keepE rd4 E13
 refine so ?_
 refine wdL [.eq (.agg q10.toArray), .rd evtR (fun _ => True) (nodeE 7 6 1 0 9), .gs evtR (fun _ => True) [(nodeE 6 5 0 4 9), (nodeE 7 6 1 0 9)], .eq (.bool true), .eq (.bool true), .eq (.agg q10.toArray), .rd evtR (fun _ => True) (nodeE 7 6 1 0 8), .gs evtR (fun _ => True) [(nodeE 6 5 0 4 9), (nodeE 7 6 1 0 8)], .eq (.bool true), .eq (.bool true), .eq (.bool true), .eq (.agg q10.toArray), .rd evtR (fun _ => True) (nodeE 7 6 2 0 9), .gs evtR (fun _ => True) [(nodeE 6 5 0 4 9), (nodeE 7 6 2 0 9)], .eq (.bool true), .eq (.bool true), .eq (.bool true), .rd evtR (fun _ => True) (nodeE 7 6 0 0 9), .eq (.agg q10.toArray), .rd evtR (fun _ => True) (nodeE 7 5 0 0 9), .gs evtR (fun _ => True) [(nodeE 7 6 0 0 9), (nodeE 6 5 0 4 9), (nodeE 7 5 0 0 9)], .eq (.bool true), .eq (.bool true), .eq (.bool true), .rd evtR (fun _ => True) (nodeE 7 6 0 0 9), .rd evtR (fun _ => True) (nodeE 7 5 0 0 8), .gs evtR (fun _ => True) [(nodeE 7 6 0 0 9), (nodeE 7 5 0 0 8)], .eq (.bool true), .eq (.bool true), .eq (.bool true), .rd evtR (fun _ => True) (nodeE 7 6 0 0 9), .rd evtR (fun _ => True) (nodeE 7 5 1 0 9), .gs evtR (fun _ => True) [(nodeE 7 6 0 0 9), (nodeE 7 5 1 0 9)], .eq (.bool true), .eq (.bool true), .eq (.bool true)] ?_ ?_
 ·refine ⟨?_, ?_, ?_, ?_, ?_, ?_, ?_, ?_, ?_, ?_, ?_, ?_, ?_, ?_, ?_, ?_, ?_, ?_, ?_, ?_, ?_, ?_, ?_, ?_, ?_, ?_, ?_, ?_, ?_, ?_, ?_, ?_, ?_, ?_, ?_, ?_, trivial⟩ <;> intro F wF hER hk
  ·exact wl_loadA (by decide) ag46 (hk.pi 2) (hat10.ext hER).at_ (evtR.len rd8) qz
  ·refine Cl_ (xs := [.const (.int .i64 7), .const (.int .i64 6), .const (.int .i64 1), .const (.int .i64 0), .const (.int .u8 9)]) (by kernel_rfl) rfl (lnode_ok (S := fun _ => True) (k := 7) (a := 6) (ep := 1) (s := 0) (b := 9) (by unfold i64; omega) (by unfold i64; omega) j1 j0) ?_
   rintro _ wc ⟨cc, rfl, rc, hEc⟩
   exact qz ⟨hEc, cc, rfl, evtR.mono (fun _ _ _ => trivial) rc⟩
  ·have e39 := hk.pe 0 []
   obtain ⟨v40, e40, c40, rfl, r40⟩ := hk.pp 1 []
   refine wl_bsliceR (r := evtR) (S := fun _ => True) (xs := [.tmp 39, .tmp 40]) (css := [q10, c40]) (l := [(nodeE 6 5 0 4 9), (nodeE 7 6 1 0 9)]) (by decide) sl24 rfl (by simp only [evs, ev, e39, e40, List.map_cons, List.map_nil]) (rfc (evtR.mono (fun _ _ _ => trivial) (keepE rd8 hER)) (rfc r40 (RF.nil _ _ _))) rfl (by simp) leB_ ?_
   rintro g wc _ gs hEc
   exact qz ⟨hEc, some ⟨g, 0, none⟩, _, rfl, gs.wid (fun _ _ => trivial)⟩
  ·obtain ⟨v41, e41, A41, c41, rfl, r41⟩ := hk.pp 2 []
   refine Cl_ (xs := [.const (.int .i64 0), .const (.int .i64 0), .tmp 41]) (by kernel_rfl) (by simp only [evs, ev, e41]; first | done | rfl) (lfind_yes r41 epochs_ok_f6) ?_
   rintro _ wc ⟨rfl, hEc⟩
   exact qz ⟨hEc, rfl⟩
  ·have ea := hk.pe 3 []
   exact dm ea
  ·refine wl_gyes rfl (hk.pe 4 []) ?_
   exact wl_loadA (by decide) ag46 (hk.pi 2) (hat10.ext hER).at_ (evtR.len rd8) qz
  ·refine wl_gyes rfl (hk.pe 4 []) ?_
   refine Cl_ (xs := [.const (.int .i64 7), .const (.int .i64 6), .const (.int .i64 1), .const (.int .i64 0), .const (.int .u8 8)]) (by kernel_rfl) rfl (lnode_ok (S := fun _ => True) (k := 7) (a := 6) (ep := 1) (s := 0) (b := 8) (by unfold i64; omega) (by unfold i64; omega) j1 j0) ?_
   rintro _ wc ⟨cc, rfl, rc, hEc⟩
   exact qz ⟨hEc, cc, rfl, evtR.mono (fun _ _ _ => trivial) rc⟩
  ·refine wl_gyes rfl (hk.pe 4 []) ?_
   have e44 := hk.pe 5 []
   obtain ⟨v45, e45, c45, rfl, r45⟩ := hk.pp 6 []
   refine wl_bsliceR (r := evtR) (S := fun _ => True) (xs := [.tmp 44, .tmp 45]) (css := [q10, c45]) (l := [(nodeE 6 5 0 4 9), (nodeE 7 6 1 0 8)]) (by decide) sl24 rfl (by simp only [evs, ev, e44, e45, List.map_cons, List.map_nil]) (rfc (evtR.mono (fun _ _ _ => trivial) (keepE rd8 hER)) (rfc r45 (RF.nil _ _ _))) rfl (by simp) leB_ ?_
   rintro g wc _ gs hEc
   exact qz ⟨hEc, some ⟨g, 0, none⟩, _, rfl, gs.wid (fun _ _ => trivial)⟩
  ·refine wl_gyes rfl (hk.pe 4 []) ?_
   obtain ⟨v46, e46, A46, c46, rfl, r46⟩ := hk.pp 7 []
   refine Cl_ (xs := [.const (.int .i64 7), .const (.int .i64 1), .tmp 46]) (by kernel_rfl) (by simp only [evs, ev, e46]; first | done | rfl) (lfind_yes r46 epochs_ok_f7) ?_
   rintro _ wc ⟨rfl, hEc⟩
   exact qz ⟨hEc, rfl⟩
  ·have ea := hk.pe 4 []
   have eb := hk.pe 8 []
   exact aPt (by decide) ea rfl eb qz
  ·have ea := hk.pe 9 []
   exact dm ea
  ·refine wl_gyes rfl (hk.pe 10 []) ?_
   exact wl_loadA (by decide) ag46 (hk.pi 2) (hat10.ext hER).at_ (evtR.len rd8) qz
  ·refine wl_gyes rfl (hk.pe 10 []) ?_
   refine Cl_ (xs := [.const (.int .i64 7), .const (.int .i64 6), .const (.int .i64 2), .const (.int .i64 0), .const (.int .u8 9)]) (by kernel_rfl) rfl (lnode_ok (S := fun _ => True) (k := 7) (a := 6) (ep := 2) (s := 0) (b := 9) (by unfold i64; omega) (by unfold i64; omega) j2 j0) ?_
   rintro _ wc ⟨cc, rfl, rc, hEc⟩
   exact qz ⟨hEc, cc, rfl, evtR.mono (fun _ _ _ => trivial) rc⟩
  ·refine wl_gyes rfl (hk.pe 10 []) ?_
   have e50 := hk.pe 11 []
   obtain ⟨v51, e51, c51, rfl, r51⟩ := hk.pp 12 []
   refine wl_bsliceR (r := evtR) (S := fun _ => True) (xs := [.tmp 50, .tmp 51]) (css := [q10, c51]) (l := [(nodeE 6 5 0 4 9), (nodeE 7 6 2 0 9)]) (by decide) sl24 rfl (by simp only [evs, ev, e50, e51, List.map_cons, List.map_nil]) (rfc (evtR.mono (fun _ _ _ => trivial) (keepE rd8 hER)) (rfc r51 (RF.nil _ _ _))) rfl (by simp) leB_ ?_
   rintro g wc _ gs hEc
   exact qz ⟨hEc, some ⟨g, 0, none⟩, _, rfl, gs.wid (fun _ _ => trivial)⟩
  ·refine wl_gyes rfl (hk.pe 10 []) ?_
   obtain ⟨v52, e52, A52, c52, rfl, r52⟩ := hk.pp 13 []
   refine Cl_ (xs := [.const (.int .i64 7), .const (.int .i64 1), .tmp 52]) (by kernel_rfl) (by simp only [evs, ev, e52]; first | done | rfl) (lfind_yes r52 epochs_ok_f8) ?_
   rintro _ wc ⟨rfl, hEc⟩
   exact qz ⟨hEc, rfl⟩
  ·have ea := hk.pe 10 []
   have eb := hk.pe 14 []
   exact aPt (by decide) ea rfl eb qz
  ·have ea := hk.pe 15 []
   exact dm ea
  ·refine wl_gyes rfl (hk.pe 16 []) ?_
   refine Cl_ (xs := [.const (.int .i64 7), .const (.int .i64 6), .const (.int .i64 0), .const (.int .i64 0), .const (.int .u8 9)]) (by kernel_rfl) rfl (lnode_ok (S := fun _ => True) (k := 7) (a := 6) (ep := 0) (s := 0) (b := 9) (by unfold i64; omega) (by unfold i64; omega) j0 j0) ?_
   rintro _ wc ⟨cc, rfl, rc, hEc⟩
   exact qz ⟨hEc, cc, rfl, evtR.mono (fun _ _ _ => trivial) rc⟩
  ·refine wl_gyes rfl (hk.pe 16 []) ?_
   exact wl_loadA (by decide) ag46 (hk.pi 2) (hat10.ext hER).at_ (evtR.len rd8) qz
  ·refine wl_gyes rfl (hk.pe 16 []) ?_
   refine Cl_ (xs := [.const (.int .i64 7), .const (.int .i64 5), .const (.int .i64 0), .const (.int .i64 0), .const (.int .u8 9)]) (by kernel_rfl) rfl (lnode_ok (S := fun _ => True) (k := 7) (a := 5) (ep := 0) (s := 0) (b := 9) (by unfold i64; omega) (by unfold i64; omega) j0 j0) ?_
   rintro _ wc ⟨cc, rfl, rc, hEc⟩
   exact qz ⟨hEc, cc, rfl, evtR.mono (fun _ _ _ => trivial) rc⟩
  ·refine wl_gyes rfl (hk.pe 16 []) ?_
   obtain ⟨v56, e56, c56, rfl, r56⟩ := hk.pp 17 []
   have e57 := hk.pe 18 []
   obtain ⟨v58, e58, c58, rfl, r58⟩ := hk.pp 19 []
   refine wl_bsliceR (r := evtR) (S := fun _ => True) (xs := [.tmp 56, .tmp 57, .tmp 58]) (css := [c56, q10, c58]) (l := [(nodeE 7 6 0 0 9), (nodeE 6 5 0 4 9), (nodeE 7 5 0 0 9)]) (by decide) sl24 rfl (by simp only [evs, ev, e56, e57, e58, List.map_cons, List.map_nil]) (rfc r56 (rfc (evtR.mono (fun _ _ _ => trivial) (keepE rd8 hER)) (rfc r58 (RF.nil _ _ _)))) rfl (by simp) leB_ ?_
   rintro g wc _ gs hEc
   exact qz ⟨hEc, some ⟨g, 0, none⟩, _, rfl, gs.wid (fun _ _ => trivial)⟩
  ·refine wl_gyes rfl (hk.pe 16 []) ?_
   obtain ⟨v59, e59, A59, c59, rfl, r59⟩ := hk.pp 20 []
   refine Cl_ (xs := [.const (.int .i64 0), .const (.int .i64 0), .tmp 59]) (by kernel_rfl) (by simp only [evs, ev, e59]; first | done | rfl) (lfind_yes r59 epochs_ok_f9) ?_
   rintro _ wc ⟨rfl, hEc⟩
   exact qz ⟨hEc, rfl⟩
  ·have ea := hk.pe 16 []
   have eb := hk.pe 21 []
   exact aPt (by decide) ea rfl eb qz
  ·have ea := hk.pe 22 []
   exact dm ea
  ·refine wl_gyes rfl (hk.pe 23 []) ?_
   refine Cl_ (xs := [.const (.int .i64 7), .const (.int .i64 6), .const (.int .i64 0), .const (.int .i64 0), .const (.int .u8 9)]) (by kernel_rfl) rfl (lnode_ok (S := fun _ => True) (k := 7) (a := 6) (ep := 0) (s := 0) (b := 9) (by unfold i64; omega) (by unfold i64; omega) j0 j0) ?_
   rintro _ wc ⟨cc, rfl, rc, hEc⟩
   exact qz ⟨hEc, cc, rfl, evtR.mono (fun _ _ _ => trivial) rc⟩
  ·refine wl_gyes rfl (hk.pe 23 []) ?_
   refine Cl_ (xs := [.const (.int .i64 7), .const (.int .i64 5), .const (.int .i64 0), .const (.int .i64 0), .const (.int .u8 8)]) (by kernel_rfl) rfl (lnode_ok (S := fun _ => True) (k := 7) (a := 5) (ep := 0) (s := 0) (b := 8) (by unfold i64; omega) (by unfold i64; omega) j0 j0) ?_
   rintro _ wc ⟨cc, rfl, rc, hEc⟩
   exact qz ⟨hEc, cc, rfl, evtR.mono (fun _ _ _ => trivial) rc⟩
  ·refine wl_gyes rfl (hk.pe 23 []) ?_
   obtain ⟨v63, e63, c63, rfl, r63⟩ := hk.pp 24 []
   obtain ⟨v64, e64, c64, rfl, r64⟩ := hk.pp 25 []
   refine wl_bsliceR (r := evtR) (S := fun _ => True) (xs := [.tmp 63, .tmp 64]) (css := [c63, c64]) (l := [(nodeE 7 6 0 0 9), (nodeE 7 5 0 0 8)]) (by decide) sl24 rfl (by simp only [evs, ev, e63, e64, List.map_cons, List.map_nil]) (rfc r63 (rfc r64 (RF.nil _ _ _))) rfl (by simp) leB_ ?_
   rintro g wc _ gs hEc
   exact qz ⟨hEc, some ⟨g, 0, none⟩, _, rfl, gs.wid (fun _ _ => trivial)⟩
  ·refine wl_gyes rfl (hk.pe 23 []) ?_
   obtain ⟨v65, e65, A65, c65, rfl, r65⟩ := hk.pp 26 []
   refine Cl_ (xs := [.const (.int .i64 7), .const (.int .i64 1), .tmp 65]) (by kernel_rfl) (by simp only [evs, ev, e65]; first | done | rfl) (lfind_yes r65 epochs_ok_f10) ?_
   rintro _ wc ⟨rfl, hEc⟩
   exact qz ⟨hEc, rfl⟩
  ·have ea := hk.pe 23 []
   have eb := hk.pe 27 []
   exact aPt (by decide) ea rfl eb qz
  ·have ea := hk.pe 28 []
   exact dm ea
  ·refine wl_gyes rfl (hk.pe 29 []) ?_
   refine Cl_ (xs := [.const (.int .i64 7), .const (.int .i64 6), .const (.int .i64 0), .const (.int .i64 0), .const (.int .u8 9)]) (by kernel_rfl) rfl (lnode_ok (S := fun _ => True) (k := 7) (a := 6) (ep := 0) (s := 0) (b := 9) (by unfold i64; omega) (by unfold i64; omega) j0 j0) ?_
   rintro _ wc ⟨cc, rfl, rc, hEc⟩
   exact qz ⟨hEc, cc, rfl, evtR.mono (fun _ _ _ => trivial) rc⟩
  ·refine wl_gyes rfl (hk.pe 29 []) ?_
   refine Cl_ (xs := [.const (.int .i64 7), .const (.int .i64 5), .const (.int .i64 1), .const (.int .i64 0), .const (.int .u8 9)]) (by kernel_rfl) rfl (lnode_ok (S := fun _ => True) (k := 7) (a := 5) (ep := 1) (s := 0) (b := 9) (by unfold i64; omega) (by unfold i64; omega) j1 j0) ?_
   rintro _ wc ⟨cc, rfl, rc, hEc⟩
   exact qz ⟨hEc, cc, rfl, evtR.mono (fun _ _ _ => trivial) rc⟩
  ·refine wl_gyes rfl (hk.pe 29 []) ?_
   obtain ⟨v69, e69, c69, rfl, r69⟩ := hk.pp 30 []
   obtain ⟨v70, e70, c70, rfl, r70⟩ := hk.pp 31 []
   refine wl_bsliceR (r := evtR) (S := fun _ => True) (xs := [.tmp 69, .tmp 70]) (css := [c69, c70]) (l := [(nodeE 7 6 0 0 9), (nodeE 7 5 1 0 9)]) (by decide) sl24 rfl (by simp only [evs, ev, e69, e70, List.map_cons, List.map_nil]) (rfc r69 (rfc r70 (RF.nil _ _ _))) rfl (by simp) leB_ ?_
   rintro g wc _ gs hEc
   exact qz ⟨hEc, some ⟨g, 0, none⟩, _, rfl, gs.wid (fun _ _ => trivial)⟩
  ·refine wl_gyes rfl (hk.pe 29 []) ?_
   obtain ⟨v71, e71, A71, c71, rfl, r71⟩ := hk.pp 32 []
   refine Cl_ (xs := [.const (.int .i64 7), .const (.int .i64 1), .tmp 71]) (by kernel_rfl) (by simp only [evs, ev, e71]; first | done | rfl) (lfind_yes r71 epochs_ok_f11) ?_
   rintro _ wc ⟨rfl, hEc⟩
   exact qz ⟨hEc, rfl⟩
  ·have ea := hk.pe 29 []
   have eb := hk.pe 33 []
   exact aPt (by decide) ea rfl eb qz
  ·have ea := hk.pe 34 []
   exact wl_assign (by decide) ea qz
 intro F w14 E15 hini hdo
 have e4 := dq hdo 35
 refine wk_drop [(2, pt g7 0), (1, pt g3 0), (0, .bool false), (3, .bool true), (4, .bool true)] ⟨di hini 2, di hini 1, di hini 0, di hini 3, e4, trivial⟩ ?_
 clear hini hdo e4
 replace hp := hp.ext E15
 replace hat10 := hat10.ext E15
 replace rd8 := keepE rd8 E15
 replace hat11 := hat11.ext E15
 replace rd4 := keepE rd4 E15
 refine so ?_
 exact Pt ⟨_, rfl, rfl, hp.chg⟩
end Go.Proofs.Ytgheaedligkhoaa
