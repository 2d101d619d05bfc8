/- What each of these functions computes, for every argument that its theorem names; a part of what the proof of JudgeLine stands on. -/
import Derived.Test.YtgheaedligkhoaaCaa
import Derived.Test.YtgheaedligkhoaaAaa
import Derived.Test.YtgheaedligkhoaaAab
import Derived.Test.YtgheaedligkhoaaAac
import Derived.Test.YtgheaedligkhoaaAad
import Derived.Test.YtgheaedligkhoaaAae
import Derived.Test.YtgheaedligkhoaaAah
import Derived.Test.YtgheaedligkhoaaAam
import Derived.Test.YtgheaedligkhoaaAav
import Derived.Test.YtgheaedligkhoaaCac
namespace Go.Proofs.Ytgheaedligkhoaa
open Go.RowKit Go.Eng _root_.Go.Proofs.Try Go.Eng _root_.Go.Proofs.Try
set_option maxRecDepth 100000
variable {w0 w : World} {M0 Fz : Nat → Prop} {H : List It} {A : Option Addr} {c : Nat}
set_option maxHeartbeats 16000000 in
theorem works_ok {w : World} : Ret prog 11 #[] w (fun v w' => v = .bool true ∧ Ext w w') := by
 refine ret_of_wk func11 rfl ntmps11 leB_ ?_
 have hp := HP.begin_ w
 generalize hF0 : (fun b => b < w.heap.size) = F0 at hp
 refine so ?_
 refine Ce (lwrite_ok (c := 31) (t := 1) (bl := 3) (b := 7) (by unfold i64; omega) j1 j3) ?_
 rintro _ w2 ⟨cs2, rfl, rd2, E2⟩
 obtain ⟨F2, hp, s2, n2, _⟩ := hp.frz E2
 replace rd2 := wishR.mono (fun b hb h => n2 b h hb) rd2
 refine so ?_
 refine Alo hp (h := fun g3 w3 hp E3 => ?_)
 refine so ?_
 have rd4 := rdTo (F := F2) (w' := w3) (wishR.mono (fun _ _ h => h) rd2) mv
 have hl4 : cs2.length = 10 := wishR.len rd4
 refine Hs 0 hp (xs := cs2) (ds := cs2) (hc := ⟨rfl⟩) (hk := hl4) (hl := by rw [hl4]; exact leB_) (h1 := wishR.one rd4) (hq := putL_all (by rw [hl4]; rfl)) (h := fun w4 hp C4 => ?_)
 replace rd4 := rdTo (F := F2) (w' := w4) rd4 mv
 have z5 : Frz F0 F2 w w4 := mv
 refine so ?_
 refine Ce (lnode_ok (S := F2) (k := 6) (a := 5) (ep := 0) (s := 4) (b := 9) (by unfold i64; omega) (by unfold i64; omega) j0 (by unfold i64; omega)) ?_
 rintro _ w6 ⟨cs6, rfl, rd6, E6⟩
 replace hp := hp.ext E6
 refine so ?_
 refine Alo hp (h := fun g7 w7 hp E7 => ?_)
 refine so ?_
 have rd8 := rdTo (F := F2) (w' := w7) (evtR.mono (fun _ _ h => h) rd6) mv
 have hl8 : cs6.length = 53 := evtR.len rd8
 refine Hs 0 hp (xs := cs6) (ds := cs6) (hc := ⟨rfl⟩) (hk := hl8) (hl := by rw [hl8]; exact leB_) (h1 := evtR.one rd8) (hq := putL_all (by rw [hl8]; rfl)) (h := fun w8 hp C8 => ?_)
 replace rd8 := rdTo (F := F2) (w' := w8) rd8 mv
 have z9 : Frz F2 F2 w4 w8 := mv
 replace rd4 := rdTo rd4 z9
 obtain ⟨F10, hp, s10, hat10⟩ := HP.frzBlk hp
 replace rd4 := rdWd s10 rd4
 replace rd8 := rdWd s10 rd8
 obtain ⟨q10, hq10⟩ : ∃ q, q = cs6 := ⟨_, rfl⟩
 rw [← hq10] at hat10 rd8
 obtain ⟨F11, hp, s11, hat11⟩ := HP.frzBlk hp
 replace hat10 := hat10.wid s11
 replace rd8 := rdWd s11 rd8
 replace rd4 := rdWd s11 rd4
 obtain ⟨q11, hq11⟩ : ∃ q, q = cs2 := ⟨_, rfl⟩
 rw [← hq11] at hat11 rd4
 refine so ?_
 refine wdL [.eq (.agg q11.toArray), .rd evtR (fun _ => True) (callE (wrW 31 1 3 7)), .eq (.agg q11.toArray), .rd evtR (fun _ => True) (runE 5 1 1 (wrW 31 1 3 7)), .eq (.agg q11.toArray), .rd ansR (fun _ => True) ans0, .rd evtR (fun _ => True) (doneE (wrW 31 1 3 7) ans0), .gs evtR (fun _ => True) [(callE (wrW 31 1 3 7)), (runE 5 1 1 (wrW 31 1 3 7)), (doneE (wrW 31 1 3 7) ans0)], .eq (.bool true), .eq (.bool true), .eq (.agg q11.toArray), .rd evtR (fun _ => True) (callE (wrW 31 1 3 7)), .eq (.agg q11.toArray), .rd ansR (fun _ => True) ans0, .rd evtR (fun _ => True) (doneE (wrW 31 1 3 7) ans0), .gs evtR (fun _ => True) [(callE (wrW 31 1 3 7)), (doneE (wrW 31 1 3 7) ans0)], .eq (.bool true), .eq (.bool true), .eq (.bool true), .eq (.agg q11.toArray), .rd evtR (fun _ => True) (runE 5 1 1 (wrW 31 1 3 7)), .eq (.agg q11.toArray), .rd evtR (fun _ => True) (runE 6 1 2 (wrW 31 1 3 7)), .gs evtR (fun _ => True) [(runE 5 1 1 (wrW 31 1 3 7)), (runE 6 1 2 (wrW 31 1 3 7))], .eq (.bool true), .eq (.bool true), .eq (.bool true), .eq (.agg q10.toArray), .rd evtR (fun _ => True) (nodeE 7 9 1 0 9), .gs evtR (fun _ => True) [(nodeE 6 5 0 4 9), (nodeE 7 9 1 0 9)], .eq (.bool true), .eq (.bool true), .eq (.bool true), .eq (.agg q10.toArray), .eq (.agg q11.toArray), .rd evtR (fun _ => True) (runE 6 5 1 (wrW 31 1 3 7)), .gs evtR (fun _ => True) [(nodeE 6 5 0 4 9), (runE 6 5 1 (wrW 31 1 3 7))], .eq (.bool true), .eq (.bool true), .eq (.bool true)] ?_ ?_
 ·refine ⟨?_, ?_, ?_, ?_, ?_, ?_, ?_, ?_, ?_, ?_, ?_, ?_, ?_, ?_, ?_, ?_, ?_, ?_, ?_, ?_, ?_, ?_, ?_, ?_, ?_, ?_, ?_, ?_, ?_, ?_, ?_, ?_, ?_, ?_, ?_, ?_, ?_, ?_, ?_, ?_, trivial⟩ <;> intro F wF hER hk
  ·exact wl_loadA (by decide) ag42 (hk.pi 1) (hat11.ext hER).at_ (wishR.len rd4) qz
  ·have e5 := hk.pe 0 []
   refine Cl_ (xs := [.tmp 5]) (by kernel_rfl) (by simp only [evs, ev, e5]; first | done | rfl) (lcall_ok (wishR.mono (S' := fun _ => True) (fun _ _ _ => trivial) (keepE rd4 hER))) ?_
   rintro _ wc ⟨cc, rfl, rc, hEc⟩
   exact qz ⟨hEc, cc, rfl, evtR.mono (fun _ _ _ => trivial) rc⟩
  ·exact wl_loadA (by decide) ag42 (hk.pi 1) (hat11.ext hER).at_ (wishR.len rd4) qz
  ·have e7 := hk.pe 2 []
   refine Cl_ (xs := [.const (.int .i64 5), .const (.int .i64 1), .const (.int .u8 1), .tmp 7]) (by kernel_rfl) (by simp only [evs, ev, e7]; first | done | rfl) (lrun_ok (a := 5) (s := 1) (b := 1) (by unfold i64; omega) j1 (wishR.mono (S' := fun _ => True) (fun _ _ _ => trivial) (keepE rd4 hER))) ?_
   rintro _ wc ⟨cc, rfl, rc, hEc⟩
   exact qz ⟨hEc, cc, rfl, evtR.mono (fun _ _ _ => trivial) rc⟩
  ·exact wl_loadA (by decide) ag42 (hk.pi 1) (hat11.ext hER).at_ (wishR.len rd4) qz
  ·refine wl_builtS (ps := []) (by decide) bld44 rfl rfl ?_
   exact qz ⟨Chg.refl _ _, _, (rfl : _ = Value.agg (anC ans0 none 0 none 0).toArray), ans0_rd j0⟩
  ·have e9 := hk.pe 4 []
   obtain ⟨v10, e10, c10, rfl, r10⟩ := hk.pp 5 []
   refine Cl_ (xs := [.tmp 9, .tmp 10]) (by kernel_rfl) (by simp only [evs, ev, e9, e10]; first | done | rfl) (ldone_ok (wishR.mono (S' := fun _ => True) (fun _ _ _ => trivial) (keepE rd4 hER)) r10) ?_
   rintro _ wc ⟨cc, rfl, rc, hEc⟩
   exact qz ⟨hEc, cc, rfl, evtR.mono (fun _ _ _ => trivial) rc⟩
  ·obtain ⟨v6, e6, c6, rfl, r6⟩ := hk.pp 1 []
   obtain ⟨v8, e8, c8, rfl, r8⟩ := hk.pp 3 []
   obtain ⟨v11, e11, c11, rfl, r11⟩ := hk.pp 6 []
   refine wl_bsliceR (r := evtR) (S := fun _ => True) (xs := [.tmp 6, .tmp 8, .tmp 11]) (css := [c6, c8, c11]) (l := [(callE (wrW 31 1 3 7)), (runE 5 1 1 (wrW 31 1 3 7)), (doneE (wrW 31 1 3 7) ans0)]) (by decide) sl24 rfl (by simp only [evs, ev, e6, e8, e11, List.map_cons, List.map_nil]) (rfc r6 (rfc r8 (rfc r11 (RF.nil _ _ _)))) rfl (by simp) leB_ ?_
   rintro g wc _ gs hEc
   exact qz ⟨hEc, some ⟨g, 0, none⟩, _, rfl, gs.wid (fun _ _ => trivial)⟩
  ·obtain ⟨v12, e12, A12, c12, rfl, r12⟩ := hk.pp 7 []
   refine Cl_ (xs := [.const (.int .i64 0), .const (.int .i64 0), .tmp 12]) (by kernel_rfl) (by simp only [evs, ev, e12]; first | done | rfl) (lfind_yes r12 works_ok_f1) ?_
   rintro _ wc ⟨rfl, hEc⟩
   exact qz ⟨hEc, rfl⟩
  ·have ea := hk.pe 8 []
   exact dm ea
  ·refine wl_gyes rfl (hk.pe 9 []) ?_
   exact wl_loadA (by decide) ag42 (hk.pi 1) (hat11.ext hER).at_ (wishR.len rd4) qz
  ·refine wl_gyes rfl (hk.pe 9 []) ?_
   have e15 := hk.pe 10 []
   refine Cl_ (xs := [.tmp 15]) (by kernel_rfl) (by simp only [evs, ev, e15]; first | done | rfl) (lcall_ok (wishR.mono (S' := fun _ => True) (fun _ _ _ => trivial) (keepE rd4 hER))) ?_
   rintro _ wc ⟨cc, rfl, rc, hEc⟩
   exact qz ⟨hEc, cc, rfl, evtR.mono (fun _ _ _ => trivial) rc⟩
  ·refine wl_gyes rfl (hk.pe 9 []) ?_
   exact wl_loadA (by decide) ag42 (hk.pi 1) (hat11.ext hER).at_ (wishR.len rd4) qz
  ·refine wl_gyes rfl (hk.pe 9 []) ?_
   refine wl_builtS (ps := []) (by decide) bld44 rfl rfl ?_
   exact qz ⟨Chg.refl _ _, _, (rfl : _ = Value.agg (anC ans0 none 0 none 0).toArray), ans0_rd j0⟩
  ·refine wl_gyes rfl (hk.pe 9 []) ?_
   have e17 := hk.pe 12 []
   obtain ⟨v18, e18, c18, rfl, r18⟩ := hk.pp 13 []
   refine Cl_ (xs := [.tmp 17, .tmp 18]) (by kernel_rfl) (by simp only [evs, ev, e17, e18]; first | done | rfl) (ldone_ok (wishR.mono (S' := fun _ => True) (fun _ _ _ => trivial) (keepE rd4 hER)) r18) ?_
   rintro _ wc ⟨cc, rfl, rc, hEc⟩
   exact qz ⟨hEc, cc, rfl, evtR.mono (fun _ _ _ => trivial) rc⟩
  ·refine wl_gyes rfl (hk.pe 9 []) ?_
   obtain ⟨v16, e16, c16, rfl, r16⟩ := hk.pp 11 []
   obtain ⟨v19, e19, c19, rfl, r19⟩ := hk.pp 14 []
   refine wl_bsliceR (r := evtR) (S := fun _ => True) (xs := [.tmp 16, .tmp 19]) (css := [c16, c19]) (l := [(callE (wrW 31 1 3 7)), (doneE (wrW 31 1 3 7) ans0)]) (by decide) sl24 rfl (by simp only [evs, ev, e16, e19, List.map_cons, List.map_nil]) (rfc r16 (rfc r19 (RF.nil _ _ _))) rfl (by simp) leB_ ?_
   rintro g wc _ gs hEc
   exact qz ⟨hEc, some ⟨g, 0, none⟩, _, rfl, gs.wid (fun _ _ => trivial)⟩
  ·refine wl_gyes rfl (hk.pe 9 []) ?_
   obtain ⟨v20, e20, A20, c20, rfl, r20⟩ := hk.pp 15 []
   refine Cl_ (xs := [.const (.int .i64 10), .const (.int .i64 1), .tmp 20]) (by kernel_rfl) (by simp only [evs, ev, e20]; first | done | rfl) (lfind_yes r20 works_ok_f2) ?_
   rintro _ wc ⟨rfl, hEc⟩
   exact qz ⟨hEc, rfl⟩
  ·have ea := hk.pe 9 []
   have eb := hk.pe 16 []
   exact aPt (by decide) ea rfl eb qz
  ·have ea := hk.pe 17 []
   exact dm ea
  ·refine wl_gyes rfl (hk.pe 18 []) ?_
   exact wl_loadA (by decide) ag42 (hk.pi 1) (hat11.ext hER).at_ (wishR.len rd4) qz
  ·refine wl_gyes rfl (hk.pe 18 []) ?_
   have e24 := hk.pe 19 []
   refine Cl_ (xs := [.const (.int .i64 5), .const (.int .i64 1), .const (.int .u8 1), .tmp 24]) (by kernel_rfl) (by simp only [evs, ev, e24]; first | done | rfl) (lrun_ok (a := 5) (s := 1) (b := 1) (by unfold i64; omega) j1 (wishR.mono (S' := fun _ => True) (fun _ _ _ => trivial) (keepE rd4 hER))) ?_
   rintro _ wc ⟨cc, rfl, rc, hEc⟩
   exact qz ⟨hEc, cc, rfl, evtR.mono (fun _ _ _ => trivial) rc⟩
  ·refine wl_gyes rfl (hk.pe 18 []) ?_
   exact wl_loadA (by decide) ag42 (hk.pi 1) (hat11.ext hER).at_ (wishR.len rd4) qz
  ·refine wl_gyes rfl (hk.pe 18 []) ?_
   have e26 := hk.pe 21 []
   refine Cl_ (xs := [.const (.int .i64 6), .const (.int .i64 1), .const (.int .u8 2), .tmp 26]) (by kernel_rfl) (by simp only [evs, ev, e26]; first | done | rfl) (lrun_ok (a := 6) (s := 1) (b := 2) (by unfold i64; omega) j1 (wishR.mono (S' := fun _ => True) (fun _ _ _ => trivial) (keepE rd4 hER))) ?_
   rintro _ wc ⟨cc, rfl, rc, hEc⟩
   exact qz ⟨hEc, cc, rfl, evtR.mono (fun _ _ _ => trivial) rc⟩
  ·refine wl_gyes rfl (hk.pe 18 []) ?_
   obtain ⟨v25, e25, c25, rfl, r25⟩ := hk.pp 20 []
   obtain ⟨v27, e27, c27, rfl, r27⟩ := hk.pp 22 []
   refine wl_bsliceR (r := evtR) (S := fun _ => True) (xs := [.tmp 25, .tmp 27]) (css := [c25, c27]) (l := [(runE 5 1 1 (wrW 31 1 3 7)), (runE 6 1 2 (wrW 31 1 3 7))]) (by decide) sl24 rfl (by simp only [evs, ev, e25, e27, List.map_cons, List.map_nil]) (rfc r25 (rfc r27 (RF.nil _ _ _))) rfl (by simp) leB_ ?_
   rintro g wc _ gs hEc
   exact qz ⟨hEc, some ⟨g, 0, none⟩, _, rfl, gs.wid (fun _ _ => trivial)⟩
  ·refine wl_gyes rfl (hk.pe 18 []) ?_
   obtain ⟨v28, e28, A28, c28, rfl, r28⟩ := hk.pp 23 []
   refine Cl_ (xs := [.const (.int .i64 4), .const (.int .i64 1), .tmp 28]) (by kernel_rfl) (by simp only [evs, ev, e28]; first | done | rfl) (lfind_yes r28 works_ok_f3) ?_
   rintro _ wc ⟨rfl, hEc⟩
   exact qz ⟨hEc, rfl⟩
  ·have ea := hk.pe 18 []
   have eb := hk.pe 24 []
   exact aPt (by decide) ea rfl eb qz
  ·have ea := hk.pe 25 []
   exact dm ea
  ·refine wl_gyes rfl (hk.pe 26 []) ?_
   exact wl_loadA (by decide) ag46 (hk.pi 2) (hat10.ext hER).at_ (evtR.len rd8) qz
  ·refine wl_gyes rfl (hk.pe 26 []) ?_
   refine Cl_ (xs := [.const (.int .i64 7), .const (.int .i64 9), .const (.int .i64 1), .const (.int .i64 0), .const (.int .u8 9)]) (by kernel_rfl) rfl (lnode_ok (S := fun _ => True) (k := 7) (a := 9) (ep := 1) (s := 0) (b := 9) (by unfold i64; omega) (by unfold i64; omega) j1 j0) ?_
   rintro _ wc ⟨cc, rfl, rc, hEc⟩
   exact qz ⟨hEc, cc, rfl, evtR.mono (fun _ _ _ => trivial) rc⟩
  ·refine wl_gyes rfl (hk.pe 26 []) ?_
   have e32 := hk.pe 27 []
   obtain ⟨v33, e33, c33, rfl, r33⟩ := hk.pp 28 []
   refine wl_bsliceR (r := evtR) (S := fun _ => True) (xs := [.tmp 32, .tmp 33]) (css := [q10, c33]) (l := [(nodeE 6 5 0 4 9), (nodeE 7 9 1 0 9)]) (by decide) sl24 rfl (by simp only [evs, ev, e32, e33, List.map_cons, List.map_nil]) (rfc (evtR.mono (fun _ _ _ => trivial) (keepE rd8 hER)) (rfc r33 (RF.nil _ _ _))) rfl (by simp) leB_ ?_
   rintro g wc _ gs hEc
   exact qz ⟨hEc, some ⟨g, 0, none⟩, _, rfl, gs.wid (fun _ _ => trivial)⟩
  ·refine wl_gyes rfl (hk.pe 26 []) ?_
   obtain ⟨v34, e34, A34, c34, rfl, r34⟩ := hk.pp 29 []
   refine Cl_ (xs := [.const (.int .i64 1), .const (.int .i64 1), .tmp 34]) (by kernel_rfl) (by simp only [evs, ev, e34]; first | done | rfl) (lfind_yes r34 works_ok_f4) ?_
   rintro _ wc ⟨rfl, hEc⟩
   exact qz ⟨hEc, rfl⟩
  ·have ea := hk.pe 26 []
   have eb := hk.pe 30 []
   exact aPt (by decide) ea rfl eb qz
  ·have ea := hk.pe 31 []
   exact dm ea
  ·refine wl_gyes rfl (hk.pe 32 []) ?_
   exact wl_loadA (by decide) ag46 (hk.pi 2) (hat10.ext hER).at_ (evtR.len rd8) qz
  ·refine wl_gyes rfl (hk.pe 32 []) ?_
   exact wl_loadA (by decide) ag42 (hk.pi 1) (hat11.ext hER).at_ (wishR.len rd4) qz
  ·refine wl_gyes rfl (hk.pe 32 []) ?_
   have e39 := hk.pe 34 []
   refine Cl_ (xs := [.const (.int .i64 6), .const (.int .i64 5), .const (.int .u8 1), .tmp 39]) (by kernel_rfl) (by simp only [evs, ev, e39]; first | done | rfl) (lrun_ok (a := 6) (s := 5) (b := 1) (by unfold i64; omega) (by unfold i64; omega) (wishR.mono (S' := fun _ => True) (fun _ _ _ => trivial) (keepE rd4 hER))) ?_
   rintro _ wc ⟨cc, rfl, rc, hEc⟩
   exact qz ⟨hEc, cc, rfl, evtR.mono (fun _ _ _ => trivial) rc⟩
  ·refine wl_gyes rfl (hk.pe 32 []) ?_
   have e38 := hk.pe 33 []
   obtain ⟨v40, e40, c40, rfl, r40⟩ := hk.pp 35 []
   refine wl_bsliceR (r := evtR) (S := fun _ => True) (xs := [.tmp 38, .tmp 40]) (css := [q10, c40]) (l := [(nodeE 6 5 0 4 9), (runE 6 5 1 (wrW 31 1 3 7))]) (by decide) sl24 rfl (by simp only [evs, ev, e38, e40, List.map_cons, List.map_nil]) (rfc (evtR.mono (fun _ _ _ => trivial) (keepE rd8 hER)) (rfc r40 (RF.nil _ _ _))) rfl (by simp) leB_ ?_
   rintro g wc _ gs hEc
   exact qz ⟨hEc, some ⟨g, 0, none⟩, _, rfl, gs.wid (fun _ _ => trivial)⟩
  ·refine wl_gyes rfl (hk.pe 32 []) ?_
   obtain ⟨v41, e41, A41, c41, rfl, r41⟩ := hk.pp 36 []
   refine Cl_ (xs := [.const (.int .i64 6), .const (.int .i64 1), .tmp 41]) (by kernel_rfl) (by simp only [evs, ev, e41]; first | done | rfl) (lfind_yes r41 works_ok_f5) ?_
   rintro _ wc ⟨rfl, hEc⟩
   exact qz ⟨hEc, rfl⟩
  ·have ea := hk.pe 32 []
   have eb := hk.pe 37 []
   exact aPt (by decide) ea rfl eb qz
  ·have ea := hk.pe 38 []
   exact wl_assign (by decide) ea qz
 intro F w12 E13 hini hdo
 have e0 := dq hdo 39
 refine wk_drop [(2, pt g7 0), (1, pt g3 0), (0, .bool true)] ⟨di hini 2, di hini 1, e0, trivial⟩ ?_
 clear hini hdo e0
 replace hp := hp.ext E13
 replace hat10 := hat10.ext E13
 replace rd8 := keepE rd8 E13
 replace hat11 := hat11.ext E13
 replace rd4 := keepE rd4 E13
 refine so ?_
 exact Pt ⟨_, rfl, rfl, hp.chg⟩
end Go.Proofs.Ytgheaedligkhoaa
