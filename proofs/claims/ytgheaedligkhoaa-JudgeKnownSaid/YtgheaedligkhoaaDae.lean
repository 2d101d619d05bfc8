/- What each of these functions computes, for every argument that its theorem names; a part of what the proof of JudgeKnown stands on. -/
import Derived.Test.YtgheaedligkhoaaDaa
import Derived.Test.YtgheaedligkhoaaAaa
import Derived.Test.YtgheaedligkhoaaAab
import Derived.Test.YtgheaedligkhoaaAac
import Derived.Test.YtgheaedligkhoaaAad
import Derived.Test.YtgheaedligkhoaaAah
import Derived.Test.YtgheaedligkhoaaAav
import Derived.Test.YtgheaedligkhoaaDab
import Derived.Test.YtgheaedligkhoaaDac
import Derived.Test.YtgheaedligkhoaaDad
namespace Go.Proofs.Ytgheaedligkhoaa
open Go.RowKit Go.Eng _root_.Go.Proofs.Try Go.Eng _root_.Go.Proofs.Try
set_option maxRecDepth 100000
variable {w0 w : World} {M0 Fz : Nat → Prop} {H : List It} {A : Option Addr} {c : Nat}
set_option maxHeartbeats 16000000 in
theorem judgeKnown_ok {w : World} : Ret prog 8 #[] w (fun v w' => v = .bool true ∧ Ext w w') := by
 refine ret_of_wk func8 rfl ntmps8 leB_ ?_
 have hp := HP.begin_ w
 generalize hF0 : (fun b => b < w.heap.size) = F0 at hp
 refine so ?_
 refine Ce (lwrite_ok (c := 31) (t := 1) (bl := 3) (b := 7) (by unfold i64; omega) j1 j3) ?_
 rintro _ w2 ⟨cs2, rfl, rd2, E2⟩
 obtain ⟨F2, hp, s2, n2, _⟩ := hp.frz E2
 replace rd2 := wishR.mono (fun b hb h => n2 b h hb) rd2
 refine so ?_
 refine Ce (lwrite_ok (c := 32) (t := 1) (bl := 3) (b := 8) (by unfold i64; omega) j1 j3) ?_
 rintro _ w3 ⟨cs3, rfl, rd3, E3⟩
 obtain ⟨F3, hp, s3, n3, _⟩ := hp.frz E3
 replace rd3 := wishR.mono (fun b hb h => n3 b h hb) rd3
 refine so ?_
 refine Alo hp (h := fun g4 w4 hp E4 => ?_)
 refine so ?_
 refine Alo hp (h := fun g5 w5 hp E5 => ?_)
 refine so ?_
 have rd6 := rdTo (F := F3) (w' := w5) (wishR.mono (fun _ _ h => h) rd2) mv
 have hl6 : cs2.length = 10 := wishR.len rd6
 refine Hs 1 hp (xs := cs2) (ds := cs2) (hc := ⟨rfl⟩) (hk := hl6) (hl := by rw [hl6]; exact leB_) (h1 := wishR.one rd6) (hq := putL_all (by rw [hl6]; rfl)) (h := fun w6 hp C6 => ?_)
 replace rd6 := rdTo (F := F3) (w' := w6) rd6 mv
 refine so ?_
 have rd7 := rdTo (F := F3) (w' := w6) (wishR.mono (fun _ _ h => h) rd3) mv
 have hl7 : cs3.length = 10 := wishR.len rd7
 refine Hs 0 hp (xs := cs3) (ds := cs3) (hc := ⟨rfl⟩) (hk := hl7) (hl := by rw [hl7]; exact leB_) (h1 := wishR.one rd7) (hq := putL_all (by rw [hl7]; rfl)) (h := fun w7 hp C7 => ?_)
 replace rd7 := rdTo (F := F3) (w' := w7) rd7 mv
 have z8 : Frz F0 F3 w w7 := mv
 replace rd6 := rdTo (F := F3) (w' := w7) rd6 mv
 obtain ⟨F9, hp, s9, hat9⟩ := HP.frzBlk hp
 replace rd6 := rdWd s9 rd6
 replace rd7 := rdWd s9 rd7
 obtain ⟨q9, hq9⟩ : ∃ q, q = cs3 := ⟨_, rfl⟩
 rw [← hq9] at hat9 rd7
 obtain ⟨F10, hp, s10, hat10⟩ := HP.frzBlk hp
 replace hat9 := hat9.wid s10
 replace rd7 := rdWd s10 rd7
 replace rd6 := rdWd s10 rd6
 obtain ⟨q10, hq10⟩ : ∃ q, q = cs2 := ⟨_, rfl⟩
 rw [← hq10] at hat10 rd6
 refine so ?_
 obtain ⟨A11, c11, B11, d11, rce11, hce11⟩ := lcallD_ok rd6
 apply wc_drawW 7 4 5 6 3 4 46 (evC evt0 none 0 none 0 none 0 none 0) (evC (callE (wrW 31 1 3 7)) A11 c11 B11 d11 none 0 none 0) [SP.eq (.agg q10.toArray), SP.eq (.agg ((evC (callE (wrW 31 1 3 7)) A11 c11 B11 d11 none 0 none 0) : List Value).toArray), SP.eq (.agg q10.toArray), SP.eq (.agg ((evC (callE (wrW 31 1 3 7)) A11 c11 B11 d11 none 0 none 0) : List Value).toArray), SP.any, SP.any, SP.any] (by kernel_rfl) (by kernel_rfl) (by kernel_rfl) (by kernel_rfl) ⟨.inr (fun _ _ _ _ h => h), .inr (fun _ _ _ _ h => h), .inr (fun _ _ _ _ h => h), .inr (fun _ _ _ _ h => h), .inr (fun _ _ _ _ _ => trivial), .inr (fun _ _ _ _ _ => trivial), .inr (fun _ _ _ _ _ => trivial), trivial⟩ (Nat.le_of_ble_eq_true rfl)
 ·refine ⟨?_, ?_, ?_, ?_, ?_, ?_, ?_, trivial⟩ <;> intro F wF hER hk hEE
  ·exact wl_loadA (by decide) ag42 (hk.pi 1) (hat10.ext hER).at_ (wishR.len rd6) (wl_nil (qr_some ⟨RlW.o (by decide) (by decide) (by decide) (Chg.refl _ _), rfl⟩))
  ·have ea := hk.pe 0 []
   exact wl_call (xs := [.tmp 19]) (by decide) (by kernel_rfl) (by simp only [evs, ev, ea]) (hce11 _ hER) (by rintro _ wc ⟨rfl, hEc⟩; exact wl_nil (qr_some ⟨RlW.o (by decide) (by decide) (by decide) hEc, rfl⟩))
  ·exact wl_loadA (by decide) ag42 (hk.pi 1) (hat10.ext hER).at_ (wishR.len rd6) (wl_nil (qr_some ⟨RlW.o (by decide) (by decide) (by decide) (Chg.refl _ _), rfl⟩))
  ·have ea := hk.pe 2 []
   exact wl_call (xs := [.tmp 21]) (by decide) (by kernel_rfl) (by simp only [evs, ev, ea]) (hce11 _ hER) (by rintro _ wc ⟨rfl, hEc⟩; exact wl_nil (qr_some ⟨RlW.o (by decide) (by decide) (by decide) hEc, rfl⟩))
  ·refine wl_alloc (by decide) ZrC.h ?_
   rintro g7 w7 hg7 hb7 hE7
   subst hg7
   exact wl_nil (qr_some ⟨RlW.a (.inl rfl) (by decide) hb7 hE7, trivial⟩)
  ·refine wl_alloc (by decide) ZrC.h ?_
   rintro g7 w7 hg7 hb7 hE7
   subst hg7
   exact wl_nil (qr_some ⟨RlW.a (.inr rfl) (by decide) hb7 hE7, trivial⟩)
  ·have ea := hk.pe 1 []
   obtain ⟨g7, hg7, hb7⟩ := hEE rfl
   refine wl_storeB2 hg7 ea hb7 sz46 (Nat.le_of_ble_eq_true rfl) (evtR.one rce11) ?_
   intro w7 hb8 hC7
   exact wl_nil (qr_none ⟨RlW.f hg7 hC7 hb8, trivial⟩)
 intro F w11 E11 hini hdo hWW
 obtain ⟨ga11, gb11, hWn, hWA, hWB, e3, e4, hbA, hbB⟩ := hWW
 have e5 := dr hdo 3
 refine wl_drop [(2, pt g5 0), (1, pt g4 0), (0, .bool false), (3, pt ga11 0), (4, pt gb11 0), (22, _)] ⟨di hini 2, di hini 1, di hini 0, e3, e4, e5, trivial⟩ ?_
 clear hini hdo e3 e4 e5
 replace hp := hp.add2 E11 hbA hbB hWn hWA hWB
 replace rce11 := keepE rce11 E11
 replace hat9 := hat9.ext E11
 replace rd7 := keepE rd7 E11
 replace hat10 := hat10.ext E11
 replace rd6 := keepE rd6 E11
 refine Hs 1 hp (h := fun w12 hp C12 => ?_)
 have z12 : Frz F10 F10 w11 w12 := mv
 replace hat9 := hat9.to z12
 replace rd7 := rdTo rd7 z12
 replace hat10 := hat10.to z12
 replace rd6 := rdTo rd6 z12
 have rc11a := rdTo rce11 z12
 have rc11b := rc11a
 refine so ?_
 refine wl_hstore1 (i := 0) (o := 0) (v := .int .i64 5) rfl rfl hp rfl (show szB prog 3 1 = true by kernel_rfl) (by rw [evtR.len rc11a]; exact leB_) rfl (fun w13 hp C13 => ?_)
 have z14 : Frz F10 F10 w12 w13 := mv
 replace hat9 := hat9.to z14
 replace rd7 := rdTo rd7 z14
 replace hat10 := hat10.to z14
 replace rd6 := rdTo rd6 z14
 replace rc11a := rdTo rc11a z14
 replace rc11b := rdTo rc11b z14
 replace rc11a := set_time (x := 5) (by unfold i64; omega) rc11a
 refine so ?_
 refine wl_hstore1 (i := 1) (o := 1) (v := .int .i64 10) rfl rfl hp rfl (show szB prog 3 1 = true by kernel_rfl) (by rw [evtR.len rc11b]; exact leB_) rfl (fun w15 hp C15 => ?_)
 have z16 : Frz F10 F10 w13 w15 := mv
 replace hat9 := hat9.to z16
 replace rd7 := rdTo rd7 z16
 replace hat10 := hat10.to z16
 replace rd6 := rdTo rd6 z16
 replace rc11a := rdTo rc11a z16
 replace rc11b := rdTo rc11b z16
 replace rc11b := set_kind (x := 10) (by unfold i64; omega) rc11b
 obtain ⟨F17, hp, s17, hat17⟩ := HP.frzBlk hp
 replace hat9 := hat9.wid s17
 replace rd7 := rdWd s17 rd7
 replace hat10 := hat10.wid s17
 replace rd6 := rdWd s17 rd6
 replace rc11b := rdWd s17 rc11b
 replace rc11a := rdWd s17 rc11a
 obtain ⟨q17, hq17⟩ : ∃ q, q = ((evC (callE (wrW 31 1 3 7)) A11 c11 B11 d11 none 0 none 0).set 0 (iv 5)) := ⟨_, rfl⟩
 rw [← hq17] at hat17 rc11a
 obtain ⟨F18, hp, s18, hat18⟩ := HP.frzBlk hp
 replace hat9 := hat9.wid s18
 replace rd7 := rdWd s18 rd7
 replace hat10 := hat10.wid s18
 replace rd6 := rdWd s18 rd6
 replace hat17 := hat17.wid s18
 replace rc11a := rdWd s18 rc11a
 replace rc11b := rdWd s18 rc11b
 obtain ⟨q18, hq18⟩ : ∃ q, q = ((evC (callE (wrW 31 1 3 7)) A11 c11 B11 d11 none 0 none 0).set 1 (iv 10)) := ⟨_, rfl⟩
 rw [← hq18] at hat18 rc11b
 refine so ?_
 refine wl_loadA (by decide) ag46 rfl (hat17.ext me).at_ (evtR.len rc11a) ?_
 refine so ?_
 refine Alo hp (h := fun g20 w20 hp E20 => ?_)
 refine so ?_
 have rd21 := rdTo (F := F18) (w' := w20) rc11a mv
 have hl21 : q17.length = 53 := evtR.len rd21
 refine Hs 0 hp (xs := q17) (ds := q17) (hc := ⟨rfl⟩) (hk := hl21) (hl := by rw [hl21]; exact leB_) (h1 := evtR.one rd21) (hq := putL_all (by rw [hl21]; rfl)) (h := fun w21 hp C21 => ?_)
 replace rd21 := rdTo (F := F18) (w' := w21) rd21 mv
 have z22 : Frz F18 F18 w15 w21 := mv
 replace hat9 := hat9.to z22
 replace rd7 := rdTo rd7 z22
 replace hat10 := hat10.to z22
 replace rd6 := rdTo rd6 z22
 replace hat17 := hat17.to z22
 replace rc11a := rdTo rc11a z22
 replace hat18 := hat18.to z22
 replace rc11b := rdTo rc11b z22
 refine so ?_
 refine wl_hstore1 (i := 0) (o := 0) (v := .int .i64 (-1)) rfl rfl hp rfl (show szB prog 3 1 = true by kernel_rfl) (by rw [evtR.len rd21]; exact leB_) rfl (fun w23 hp C23 => ?_)
 have z24 : Frz F18 F18 w21 w23 := mv
 replace hat9 := hat9.to z24
 replace rd7 := rdTo rd7 z24
 replace hat10 := hat10.to z24
 replace rd6 := rdTo rd6 z24
 replace hat17 := hat17.to z24
 replace rc11a := rdTo rc11a z24
 replace hat18 := hat18.to z24
 replace rc11b := rdTo rc11b z24
 replace rd21 := rdTo rd21 z24
 replace rd21 := set_time (x := (-1)) (by unfold i64; omega) rd21
 refine so ?_
 refine Ce (lnode_ok (S := F18) (k := 8) (a := 5) (ep := 0) (s := 0) (b := 0) (by unfold i64; omega) (by unfold i64; omega) j0 j0) ?_
 rintro _ w25 ⟨cs25, rfl, rd25, E25⟩
 replace hp := hp.ext E25
 refine so ?_
 refine Ce (lnode_ok (S := F18) (k := 9) (a := 5) (ep := 0) (s := 0) (b := 0) (by unfold i64; omega) (by unfold i64; omega) j0 j0) ?_
 rintro _ w26 ⟨cs26, rfl, rd26, E26⟩
 replace hp := hp.ext E26
 refine so ?_
 refine Alo hp (h := fun g27 w27 hp E27 => ?_)
 refine so ?_
 refine Alo hp (h := fun g28 w28 hp E28 => ?_)
 refine so ?_
 have rd29 := rdTo (F := F18) (w' := w28) (evtR.mono (fun _ _ h => h) rd25) mv
 have hl29 : cs25.length = 53 := evtR.len rd29
 refine Hs 1 hp (xs := cs25) (ds := cs25) (hc := ⟨rfl⟩) (hk := hl29) (hl := by rw [hl29]; exact leB_) (h1 := evtR.one rd29) (hq := putL_all (by rw [hl29]; rfl)) (h := fun w29 hp C29 => ?_)
 replace rd29 := rdTo (F := F18) (w' := w29) rd29 mv
 refine so ?_
 have rd30 := rdTo (F := F18) (w' := w29) (evtR.mono (fun _ _ h => h) rd26) mv
 have hl30 : cs26.length = 53 := evtR.len rd30
 refine Hs 0 hp (xs := cs26) (ds := cs26) (hc := ⟨rfl⟩) (hk := hl30) (hl := by rw [hl30]; exact leB_) (h1 := evtR.one rd30) (hq := putL_all (by rw [hl30]; rfl)) (h := fun w30 hp C30 => ?_)
 replace rd30 := rdTo (F := F18) (w' := w30) rd30 mv
 have z31 : Frz F18 F18 w23 w30 := mv
 replace hat9 := hat9.to z31
 replace rd7 := rdTo rd7 z31
 replace hat10 := hat10.to z31
 replace rd6 := rdTo rd6 z31
 replace hat17 := hat17.to z31
 replace rc11a := rdTo rc11a z31
 replace hat18 := hat18.to z31
 replace rc11b := rdTo rc11b z31
 replace rd21 := rdTo rd21 z31
 replace rd29 := rdTo (F := F18) (w' := w30) rd29 mv
 obtain ⟨F32, hp, s32, hat32⟩ := HP.frzBlk hp
 replace hat9 := hat9.wid s32
 replace rd7 := rdWd s32 rd7
 replace hat10 := hat10.wid s32
 replace rd6 := rdWd s32 rd6
 replace hat17 := hat17.wid s32
 replace rc11a := rdWd s32 rc11a
 replace hat18 := hat18.wid s32
 replace rc11b := rdWd s32 rc11b
 replace rd21 := rdWd s32 rd21
 replace rd29 := rdWd s32 rd29
 replace rd30 := rdWd s32 rd30
 obtain ⟨q32, hq32⟩ : ∃ q, q = cs26 := ⟨_, rfl⟩
 rw [← hq32] at hat32 rd30
 obtain ⟨F33, hp, s33, hat33⟩ := HP.frzBlk hp
 replace hat9 := hat9.wid s33
 replace rd7 := rdWd s33 rd7
 replace hat10 := hat10.wid s33
 replace rd6 := rdWd s33 rd6
 replace hat17 := hat17.wid s33
 replace rc11a := rdWd s33 rc11a
 replace hat18 := hat18.wid s33
 replace rc11b := rdWd s33 rc11b
 replace hat32 := hat32.wid s33
 replace rd30 := rdWd s33 rd30
 replace rd21 := rdWd s33 rd21
 replace rd29 := rdWd s33 rd29
 obtain ⟨q33, hq33⟩ : ∃ q, q = cs25 := ⟨_, rfl⟩
 rw [← hq33] at hat33 rd29
 obtain ⟨F34, hp, s34, hat34⟩ := HP.frzBlk hp
 replace hat9 := hat9.wid s34
 replace rd7 := rdWd s34 rd7
 replace hat10 := hat10.wid s34
 replace rd6 := rdWd s34 rd6
 replace hat17 := hat17.wid s34
 replace rc11a := rdWd s34 rc11a
 replace hat18 := hat18.wid s34
 replace rc11b := rdWd s34 rc11b
 replace hat32 := hat32.wid s34
 replace rd30 := rdWd s34 rd30
 replace hat33 := hat33.wid s34
 replace rd29 := rdWd s34 rd29
 replace rd21 := rdWd s34 rd21
 obtain ⟨q34, hq34⟩ : ∃ q, q = (q17.set 0 (iv (-1))) := ⟨_, rfl⟩
 rw [← hq34] at hat34 rd21
 refine so ?_
 refine wdL [.eq (.agg q17.toArray), .eq (.agg q9.toArray), .rd evtR (fun _ => True) (callE (wrW 32 1 3 8)), .gs evtR (fun _ => True) [({ (callE (wrW 31 1 3 7)) with time := 5 } : Evt), (callE (wrW 32 1 3 8))], .eq (.bool true), .eq (.bool true), .eq (.agg q34.toArray), .gs evtR (fun _ => True) [({ ({ (callE (wrW 31 1 3 7)) with time := 5 } : Evt) with time := (-1) } : Evt)], .eq (.bool true), .eq (.bool true), .eq (.bool true), .eq (.agg q18.toArray), .gs evtR (fun _ => True) [({ (callE (wrW 31 1 3 7)) with kind := 10 } : Evt)], .eq (.bool true), .eq (.bool true), .eq (.bool true), .rd evtR (fun _ => True) evt0, .gs evtR (fun _ => True) [evt0], .eq (.bool true), .eq (.bool true), .eq (.bool true), .eq (.agg q10.toArray), .rd evtR (fun _ => True) (runE 0 1 1 (wrW 31 1 3 7)), .gs evtR (fun _ => True) [(runE 0 1 1 (wrW 31 1 3 7))], .eq (.bool true), .eq (.bool true), .eq (.bool true), .eq (.agg q10.toArray), .rd evtR (fun _ => True) (runE 9 1 1 (wrW 31 1 3 7)), .gs evtR (fun _ => True) [(runE 9 1 1 (wrW 31 1 3 7))], .eq (.bool true), .eq (.bool true), .eq (.bool true), .rd wishR (fun _ => True) (wrW 33 1 3 7), .rd evtR (fun _ => True) (callE (wrW 33 1 3 7)), .gs evtR (fun _ => True) [(callE (wrW 33 1 3 7))], .eq (.bool true), .eq (.bool true), .eq (.bool true), .rd wishR (fun _ => True) (wrW 30 1 3 7), .rd evtR (fun _ => True) (callE (wrW 30 1 3 7)), .gs evtR (fun _ => True) [(callE (wrW 30 1 3 7))], .eq (.bool true), .eq (.bool true), .eq (.bool true), .rd wishR (fun _ => True) (⟨34, 1, 0, 0, 4, 0, [], 0, 0, []⟩ : Wsh), .rd evtR (fun _ => True) (callE (⟨34, 1, 0, 0, 4, 0, [], 0, 0, []⟩ : Wsh)), .gs evtR (fun _ => True) [(callE (⟨34, 1, 0, 0, 4, 0, [], 0, 0, []⟩ : Wsh))], .eq (.bool true), .eq (.bool true), .eq (.bool true)] ?_ ?_
 ·refine ⟨?_, ?_, ?_, ?_, ?_, ?_, ?_, ?_, ?_, ?_, ?_, ?_, ?_, ?_, ?_, ?_, ?_, ?_, ?_, ?_, ?_, ?_, ?_, ?_, ?_, ?_, ?_, ?_, ?_, ?_, ?_, ?_, ?_, ?_, ?_, ?_, ?_, ?_, ?_, ?_, ?_, ?_, ?_, ?_, ?_, ?_, ?_, ?_, ?_, ?_, ?_, trivial⟩ <;> intro F wF hER hk
  ·exact wl_loadA (by decide) ag46 (hk.pi 3) (hat17.ext hER).at_ (evtR.len rc11a) qz
  ·exact wl_loadA (by decide) ag42 (hk.pi 2) (hat9.ext hER).at_ (wishR.len rd7) qz
  ·have e30 := hk.pe 1 []
   refine Cl_ (xs := [.tmp 30]) (by kernel_rfl) (by simp only [evs, ev, e30]; first | done | rfl) (lcall_ok (wishR.mono (S' := fun _ => True) (fun _ _ _ => trivial) (keepE rd7 hER))) ?_
   rintro _ wc ⟨cc, rfl, rc, hEc⟩
   exact qz ⟨hEc, cc, rfl, evtR.mono (fun _ _ _ => trivial) rc⟩
  ·have e29 := hk.pe 0 []
   obtain ⟨v31, e31, c31, rfl, r31⟩ := hk.pp 2 []
   refine wl_bsliceR (r := evtR) (S := fun _ => True) (xs := [.tmp 29, .tmp 31]) (css := [q17, c31]) (l := [({ (callE (wrW 31 1 3 7)) with time := 5 } : Evt), (callE (wrW 32 1 3 8))]) (by decide) sl24 rfl (by simp only [evs, ev, e29, e31, List.map_cons, List.map_nil]) (rfc (evtR.mono (fun _ _ _ => trivial) (keepE rc11a hER)) (rfc r31 (RF.nil _ _ _))) rfl (by simp) leB_ ?_
   rintro g wc _ gs hEc
   exact qz ⟨hEc, some ⟨g, 0, none⟩, _, rfl, gs.wid (fun _ _ => trivial)⟩
  ·obtain ⟨v32, e32, A32, c32, rfl, r32⟩ := hk.pp 3 []
   refine Cl_ (xs := [.const (.int .i64 1), .const (.int .i64 1), .tmp 32]) (by kernel_rfl) (by simp only [evs, ev, e32]; first | done | rfl) (lfind_yes r32 judgeKnown_ok_f1) ?_
   rintro _ wc ⟨rfl, hEc⟩
   exact qz ⟨hEc, rfl⟩
  ·have ea := hk.pe 4 []
   exact dm ea
  ·refine wl_gyes rfl (hk.pe 5 []) ?_
   exact wl_loadA (by decide) ag46 (hk.pi 5) (hat34.ext hER).at_ (evtR.len rd21) qz
  ·refine wl_gyes rfl (hk.pe 5 []) ?_
   have e35 := hk.pe 6 []
   refine wl_bsliceR (r := evtR) (S := fun _ => True) (xs := [.tmp 35]) (css := [q34]) (l := [({ ({ (callE (wrW 31 1 3 7)) with time := 5 } : Evt) with time := (-1) } : Evt)]) (by decide) sl24 rfl (by simp only [evs, ev, e35, List.map_cons, List.map_nil]) (rfc (evtR.mono (fun _ _ _ => trivial) (keepE rd21 hER)) (RF.nil _ _ _)) rfl (by simp) leB_ ?_
   rintro g wc _ gs hEc
   exact qz ⟨hEc, some ⟨g, 0, none⟩, _, rfl, gs.wid (fun _ _ => trivial)⟩
  ·refine wl_gyes rfl (hk.pe 5 []) ?_
   obtain ⟨v36, e36, A36, c36, rfl, r36⟩ := hk.pp 7 []
   refine Cl_ (xs := [.const (.int .i64 1), .const (.int .i64 0), .tmp 36]) (by kernel_rfl) (by simp only [evs, ev, e36]; first | done | rfl) (lfind_yes r36 judgeKnown_ok_f2) ?_
   rintro _ wc ⟨rfl, hEc⟩
   exact qz ⟨hEc, rfl⟩
  ·have ea := hk.pe 5 []
   have eb := hk.pe 8 []
   exact aPt (by decide) ea rfl eb qz
  ·have ea := hk.pe 9 []
   exact dm ea
  ·refine wl_gyes rfl (hk.pe 10 []) ?_
   exact wl_loadA (by decide) ag46 (hk.pi 4) (hat18.ext hER).at_ (evtR.len rc11b) qz
  ·refine wl_gyes rfl (hk.pe 10 []) ?_
   have e40 := hk.pe 11 []
   refine wl_bsliceR (r := evtR) (S := fun _ => True) (xs := [.tmp 40]) (css := [q18]) (l := [({ (callE (wrW 31 1 3 7)) with kind := 10 } : Evt)]) (by decide) sl24 rfl (by simp only [evs, ev, e40, List.map_cons, List.map_nil]) (rfc (evtR.mono (fun _ _ _ => trivial) (keepE rc11b hER)) (RF.nil _ _ _)) rfl (by simp) leB_ ?_
   rintro g wc _ gs hEc
   exact qz ⟨hEc, some ⟨g, 0, none⟩, _, rfl, gs.wid (fun _ _ => trivial)⟩
  ·refine wl_gyes rfl (hk.pe 10 []) ?_
   obtain ⟨v41, e41, A41, c41, rfl, r41⟩ := hk.pp 12 []
   refine Cl_ (xs := [.const (.int .i64 1), .const (.int .i64 0), .tmp 41]) (by kernel_rfl) (by simp only [evs, ev, e41]; first | done | rfl) (lfind_yes r41 judgeKnown_ok_f3) ?_
   rintro _ wc ⟨rfl, hEc⟩
   exact qz ⟨hEc, rfl⟩
  ·have ea := hk.pe 10 []
   have eb := hk.pe 13 []
   exact aPt (by decide) ea rfl eb qz
  ·have ea := hk.pe 14 []
   exact dm ea
  ·refine wl_gyes rfl (hk.pe 15 []) ?_
   refine wl_builtS (ps := []) (by decide) bld46 rfl rfl ?_
   exact qz ⟨Chg.refl _ _, _, (rfl : _ = Value.agg (evC evt0 none 0 none 0 none 0 none 0).toArray), evt0_rd⟩
  ·refine wl_gyes rfl (hk.pe 15 []) ?_
   obtain ⟨v45, e45, c45, rfl, r45⟩ := hk.pp 16 []
   refine wl_bsliceR (r := evtR) (S := fun _ => True) (xs := [.tmp 45]) (css := [c45]) (l := [evt0]) (by decide) sl24 rfl (by simp only [evs, ev, e45, List.map_cons, List.map_nil]) (rfc r45 (RF.nil _ _ _)) rfl (by simp) leB_ ?_
   rintro g wc _ gs hEc
   exact qz ⟨hEc, some ⟨g, 0, none⟩, _, rfl, gs.wid (fun _ _ => trivial)⟩
  ·refine wl_gyes rfl (hk.pe 15 []) ?_
   obtain ⟨v46, e46, A46, c46, rfl, r46⟩ := hk.pp 17 []
   refine Cl_ (xs := [.const (.int .i64 1), .const (.int .i64 0), .tmp 46]) (by kernel_rfl) (by simp only [evs, ev, e46]; first | done | rfl) (lfind_yes r46 judgeKnown_ok_f4) ?_
   rintro _ wc ⟨rfl, hEc⟩
   exact qz ⟨hEc, rfl⟩
  ·have ea := hk.pe 15 []
   have eb := hk.pe 18 []
   exact aPt (by decide) ea rfl eb qz
  ·have ea := hk.pe 19 []
   exact dm ea
  ·refine wl_gyes rfl (hk.pe 20 []) ?_
   exact wl_loadA (by decide) ag42 (hk.pi 1) (hat10.ext hER).at_ (wishR.len rd6) qz
  ·refine wl_gyes rfl (hk.pe 20 []) ?_
   have e50 := hk.pe 21 []
   refine Cl_ (xs := [.const (.int .i64 0), .const (.int .i64 1), .const (.int .u8 1), .tmp 50]) (by kernel_rfl) (by simp only [evs, ev, e50]; first | done | rfl) (lrun_ok (a := 0) (s := 1) (b := 1) j0 j1 (wishR.mono (S' := fun _ => True) (fun _ _ _ => trivial) (keepE rd6 hER))) ?_
   rintro _ wc ⟨cc, rfl, rc, hEc⟩
   exact qz ⟨hEc, cc, rfl, evtR.mono (fun _ _ _ => trivial) rc⟩
  ·refine wl_gyes rfl (hk.pe 20 []) ?_
   obtain ⟨v51, e51, c51, rfl, r51⟩ := hk.pp 22 []
   refine wl_bsliceR (r := evtR) (S := fun _ => True) (xs := [.tmp 51]) (css := [c51]) (l := [(runE 0 1 1 (wrW 31 1 3 7))]) (by decide) sl24 rfl (by simp only [evs, ev, e51, List.map_cons, List.map_nil]) (rfc r51 (RF.nil _ _ _)) rfl (by simp) leB_ ?_
   rintro g wc _ gs hEc
   exact qz ⟨hEc, some ⟨g, 0, none⟩, _, rfl, gs.wid (fun _ _ => trivial)⟩
  ·refine wl_gyes rfl (hk.pe 20 []) ?_
   obtain ⟨v52, e52, A52, c52, rfl, r52⟩ := hk.pp 23 []
   refine Cl_ (xs := [.const (.int .i64 1), .const (.int .i64 0), .tmp 52]) (by kernel_rfl) (by simp only [evs, ev, e52]; first | done | rfl) (lfind_yes r52 judgeKnown_ok_f5) ?_
   rintro _ wc ⟨rfl, hEc⟩
   exact qz ⟨hEc, rfl⟩
  ·have ea := hk.pe 20 []
   have eb := hk.pe 24 []
   exact aPt (by decide) ea rfl eb qz
  ·have ea := hk.pe 25 []
   exact dm ea
  ·refine wl_gyes rfl (hk.pe 26 []) ?_
   exact wl_loadA (by decide) ag42 (hk.pi 1) (hat10.ext hER).at_ (wishR.len rd6) qz
  ·refine wl_gyes rfl (hk.pe 26 []) ?_
   have e56 := hk.pe 27 []
   refine Cl_ (xs := [.const (.int .i64 9), .const (.int .i64 1), .const (.int .u8 1), .tmp 56]) (by kernel_rfl) (by simp only [evs, ev, e56]; first | done | rfl) (lrun_ok (a := 9) (s := 1) (b := 1) (by unfold i64; omega) j1 (wishR.mono (S' := fun _ => True) (fun _ _ _ => trivial) (keepE rd6 hER))) ?_
   rintro _ wc ⟨cc, rfl, rc, hEc⟩
   exact qz ⟨hEc, cc, rfl, evtR.mono (fun _ _ _ => trivial) rc⟩
  ·refine wl_gyes rfl (hk.pe 26 []) ?_
   obtain ⟨v57, e57, c57, rfl, r57⟩ := hk.pp 28 []
   refine wl_bsliceR (r := evtR) (S := fun _ => True) (xs := [.tmp 57]) (css := [c57]) (l := [(runE 9 1 1 (wrW 31 1 3 7))]) (by decide) sl24 rfl (by simp only [evs, ev, e57, List.map_cons, List.map_nil]) (rfc r57 (RF.nil _ _ _)) rfl (by simp) leB_ ?_
   rintro g wc _ gs hEc
   exact qz ⟨hEc, some ⟨g, 0, none⟩, _, rfl, gs.wid (fun _ _ => trivial)⟩
  ·refine wl_gyes rfl (hk.pe 26 []) ?_
   obtain ⟨v58, e58, A58, c58, rfl, r58⟩ := hk.pp 29 []
   refine Cl_ (xs := [.const (.int .i64 1), .const (.int .i64 0), .tmp 58]) (by kernel_rfl) (by simp only [evs, ev, e58]; first | done | rfl) (lfind_yes r58 judgeKnown_ok_f6) ?_
   rintro _ wc ⟨rfl, hEc⟩
   exact qz ⟨hEc, rfl⟩
  ·have ea := hk.pe 26 []
   have eb := hk.pe 30 []
   exact aPt (by decide) ea rfl eb qz
  ·have ea := hk.pe 31 []
   exact dm ea
  ·refine wl_gyes rfl (hk.pe 32 []) ?_
   refine Cl_ (xs := [.const (.int .i64 33), .const (.int .i64 1), .const (.int .i64 3), .const (.int .u8 7)]) (by kernel_rfl) rfl (lwrite_ok (c := 33) (t := 1) (bl := 3) (b := 7) (by unfold i64; omega) j1 j3) ?_
   rintro _ wc ⟨cc, rfl, rc, hEc⟩
   exact qz ⟨hEc, cc, rfl, wishR.mono (fun _ _ _ => trivial) rc⟩
  ·refine wl_gyes rfl (hk.pe 32 []) ?_
   obtain ⟨v62, e62, c62, rfl, r62⟩ := hk.pp 33 []
   refine Cl_ (xs := [.tmp 62]) (by kernel_rfl) (by simp only [evs, ev, e62]; first | done | rfl) (lcall_ok r62) ?_
   rintro _ wc ⟨cc, rfl, rc, hEc⟩
   exact qz ⟨hEc, cc, rfl, evtR.mono (fun _ _ _ => trivial) rc⟩
  ·refine wl_gyes rfl (hk.pe 32 []) ?_
   obtain ⟨v63, e63, c63, rfl, r63⟩ := hk.pp 34 []
   refine wl_bsliceR (r := evtR) (S := fun _ => True) (xs := [.tmp 63]) (css := [c63]) (l := [(callE (wrW 33 1 3 7))]) (by decide) sl24 rfl (by simp only [evs, ev, e63, List.map_cons, List.map_nil]) (rfc r63 (RF.nil _ _ _)) rfl (by simp) leB_ ?_
   rintro g wc _ gs hEc
   exact qz ⟨hEc, some ⟨g, 0, none⟩, _, rfl, gs.wid (fun _ _ => trivial)⟩
  ·refine wl_gyes rfl (hk.pe 32 []) ?_
   obtain ⟨v64, e64, A64, c64, rfl, r64⟩ := hk.pp 35 []
   refine Cl_ (xs := [.const (.int .i64 1), .const (.int .i64 0), .tmp 64]) (by kernel_rfl) (by simp only [evs, ev, e64]; first | done | rfl) (lfind_yes r64 judgeKnown_ok_f7) ?_
   rintro _ wc ⟨rfl, hEc⟩
   exact qz ⟨hEc, rfl⟩
  ·have ea := hk.pe 32 []
   have eb := hk.pe 36 []
   exact aPt (by decide) ea rfl eb qz
  ·have ea := hk.pe 37 []
   exact dm ea
  ·refine wl_gyes rfl (hk.pe 38 []) ?_
   refine Cl_ (xs := [.const (.int .i64 30), .const (.int .i64 1), .const (.int .i64 3), .const (.int .u8 7)]) (by kernel_rfl) rfl (lwrite_ok (c := 30) (t := 1) (bl := 3) (b := 7) (by unfold i64; omega) j1 j3) ?_
   rintro _ wc ⟨cc, rfl, rc, hEc⟩
   exact qz ⟨hEc, cc, rfl, wishR.mono (fun _ _ _ => trivial) rc⟩
  ·refine wl_gyes rfl (hk.pe 38 []) ?_
   obtain ⟨v68, e68, c68, rfl, r68⟩ := hk.pp 39 []
   refine Cl_ (xs := [.tmp 68]) (by kernel_rfl) (by simp only [evs, ev, e68]; first | done | rfl) (lcall_ok r68) ?_
   rintro _ wc ⟨cc, rfl, rc, hEc⟩
   exact qz ⟨hEc, cc, rfl, evtR.mono (fun _ _ _ => trivial) rc⟩
  ·refine wl_gyes rfl (hk.pe 38 []) ?_
   obtain ⟨v69, e69, c69, rfl, r69⟩ := hk.pp 40 []
   refine wl_bsliceR (r := evtR) (S := fun _ => True) (xs := [.tmp 69]) (css := [c69]) (l := [(callE (wrW 30 1 3 7))]) (by decide) sl24 rfl (by simp only [evs, ev, e69, List.map_cons, List.map_nil]) (rfc r69 (RF.nil _ _ _)) rfl (by simp) leB_ ?_
   rintro g wc _ gs hEc
   exact qz ⟨hEc, some ⟨g, 0, none⟩, _, rfl, gs.wid (fun _ _ => trivial)⟩
  ·refine wl_gyes rfl (hk.pe 38 []) ?_
   obtain ⟨v70, e70, A70, c70, rfl, r70⟩ := hk.pp 41 []
   refine Cl_ (xs := [.const (.int .i64 1), .const (.int .i64 0), .tmp 70]) (by kernel_rfl) (by simp only [evs, ev, e70]; first | done | rfl) (lfind_yes r70 judgeKnown_ok_f8) ?_
   rintro _ wc ⟨rfl, hEc⟩
   exact qz ⟨hEc, rfl⟩
  ·have ea := hk.pe 38 []
   have eb := hk.pe 42 []
   exact aPt (by decide) ea rfl eb qz
  ·have ea := hk.pe 43 []
   exact dm ea
  ·refine wl_gyes rfl (hk.pe 44 []) ?_
   refine wl_builtS (ps := [(4, .const (.int .i64 4)), (0, .const (.int .i64 34)), (1, .const (.int .i64 1))]) (by decide) bld42 rfl rfl ?_
   exact qz ⟨Chg.refl _ _, _, (rfl : _ = Value.agg (wsC (⟨34, 1, 0, 0, 4, 0, [], 0, 0, []⟩ : Wsh) none 0 none 0).toArray), wsK_rd (by unfold i64; omega) j1 (by unfold i64; omega)⟩
  ·refine wl_gyes rfl (hk.pe 44 []) ?_
   obtain ⟨v74, e74, c74, rfl, r74⟩ := hk.pp 45 []
   refine Cl_ (xs := [.tmp 74]) (by kernel_rfl) (by simp only [evs, ev, e74]; first | done | rfl) (lcall_ok r74) ?_
   rintro _ wc ⟨cc, rfl, rc, hEc⟩
   exact qz ⟨hEc, cc, rfl, evtR.mono (fun _ _ _ => trivial) rc⟩
  ·refine wl_gyes rfl (hk.pe 44 []) ?_
   obtain ⟨v75, e75, c75, rfl, r75⟩ := hk.pp 46 []
   refine wl_bsliceR (r := evtR) (S := fun _ => True) (xs := [.tmp 75]) (css := [c75]) (l := [(callE (⟨34, 1, 0, 0, 4, 0, [], 0, 0, []⟩ : Wsh))]) (by decide) sl24 rfl (by simp only [evs, ev, e75, List.map_cons, List.map_nil]) (rfc r75 (RF.nil _ _ _)) rfl (by simp) leB_ ?_
   rintro g wc _ gs hEc
   exact qz ⟨hEc, some ⟨g, 0, none⟩, _, rfl, gs.wid (fun _ _ => trivial)⟩
  ·refine wl_gyes rfl (hk.pe 44 []) ?_
   obtain ⟨v76, e76, A76, c76, rfl, r76⟩ := hk.pp 47 []
   refine Cl_ (xs := [.const (.int .i64 0), .const (.int .i64 0), .tmp 76]) (by kernel_rfl) (by simp only [evs, ev, e76]; first | done | rfl) (lfind_yes r76 judgeKnown_ok_f9) ?_
   rintro _ wc ⟨rfl, hEc⟩
   exact qz ⟨hEc, rfl⟩
  ·have ea := hk.pe 44 []
   have eb := hk.pe 48 []
   exact aPt (by decide) ea rfl eb qz
  ·have ea := hk.pe 49 []
   exact wl_assign (by decide) ea qz
 intro F w35 E36 hini hdo
 have e8 := dq hdo 50
 refine wk_drop [(2, pt g5 0), (1, pt g4 0), (3, pt ga11 0), (4, pt gb11 0), (7, pt g28 0), (6, pt g27 0), (5, pt g20 0), (0, .bool false), (8, .bool true)] ⟨di hini 2, di hini 1, di hini 3, di hini 4, di hini 7, di hini 6, di hini 5, di hini 0, e8, trivial⟩ ?_
 clear hini hdo e8
 replace hp := hp.ext E36
 replace hat9 := hat9.ext E36
 replace rd7 := keepE rd7 E36
 replace hat10 := hat10.ext E36
 replace rd6 := keepE rd6 E36
 replace hat17 := hat17.ext E36
 replace rc11a := keepE rc11a E36
 replace hat18 := hat18.ext E36
 replace rc11b := keepE rc11b E36
 replace hat32 := hat32.ext E36
 replace rd30 := keepE rd30 E36
 replace hat33 := hat33.ext E36
 replace rd29 := keepE rd29 E36
 replace hat34 := hat34.ext E36
 replace rd21 := keepE rd21 E36
 refine so ?_
 refine wdL [.eq (.agg q32.toArray), .gs evtR (fun _ => True) [(nodeE 9 5 0 0 0)], .eq (.bool true), .eq (.bool true), .eq (.agg q33.toArray), .eq (.agg q33.toArray), .gs evtR (fun _ => True) [(nodeE 8 5 0 0 0), (nodeE 8 5 0 0 0)], .eq (.bool true), .eq (.bool true), .eq (.bool true), .eq (.agg q33.toArray), .eq (.agg q10.toArray), .rd evtR (fun _ => True) (runE 5 1 1 (wrW 31 1 3 7)), .gs evtR (fun _ => True) [(nodeE 8 5 0 0 0), (runE 5 1 1 (wrW 31 1 3 7))], .eq (.bool true), .eq (.bool true), .eq (.bool true), .eq (.agg q33.toArray), .eq (.agg q10.toArray), .rd evtR (fun _ => True) (runE 6 1 1 (wrW 31 1 3 7)), .eq (.agg q32.toArray), .eq (.agg q33.toArray), .gs evtR (fun _ => True) [(nodeE 8 5 0 0 0), (runE 6 1 1 (wrW 31 1 3 7)), (nodeE 9 5 0 0 0), (nodeE 8 5 0 0 0)], .eq (.bool true), .eq (.bool true), .eq (.bool true), .eq (.agg q33.toArray), .rd evtR (fun _ => True) (nodeE 5 5 0 0 0), .gs evtR (fun _ => True) [(nodeE 8 5 0 0 0), (nodeE 5 5 0 0 0)], .eq (.bool true), .eq (.bool true), .eq (.bool true)] ?_ ?_
 ·refine ⟨?_, ?_, ?_, ?_, ?_, ?_, ?_, ?_, ?_, ?_, ?_, ?_, ?_, ?_, ?_, ?_, ?_, ?_, ?_, ?_, ?_, ?_, ?_, ?_, ?_, ?_, ?_, ?_, ?_, ?_, ?_, ?_, trivial⟩ <;> intro F wF hER hk
  ·exact wl_loadA (by decide) ag46 (hk.pi 7) (hat32.ext hER).at_ (evtR.len rd30) qz
  ·have e79 := hk.pe 0 []
   refine wl_bsliceR (r := evtR) (S := fun _ => True) (xs := [.tmp 79]) (css := [q32]) (l := [(nodeE 9 5 0 0 0)]) (by decide) sl24 rfl (by simp only [evs, ev, e79, List.map_cons, List.map_nil]) (rfc (evtR.mono (fun _ _ _ => trivial) (keepE rd30 hER)) (RF.nil _ _ _)) rfl (by simp) leB_ ?_
   rintro g wc _ gs hEc
   exact qz ⟨hEc, some ⟨g, 0, none⟩, _, rfl, gs.wid (fun _ _ => trivial)⟩
  ·obtain ⟨v80, e80, A80, c80, rfl, r80⟩ := hk.pp 1 []
   refine Cl_ (xs := [.const (.int .i64 2), .const (.int .i64 0), .tmp 80]) (by kernel_rfl) (by simp only [evs, ev, e80]; first | done | rfl) (lfind_yes r80 judgeKnown_ok_f10) ?_
   rintro _ wc ⟨rfl, hEc⟩
   exact qz ⟨hEc, rfl⟩
  ·have ea := hk.pe 2 []
   exact dm ea
  ·refine wl_gyes rfl (hk.pe 3 []) ?_
   exact wl_loadA (by decide) ag46 (hk.pi 6) (hat33.ext hER).at_ (evtR.len rd29) qz
  ·refine wl_gyes rfl (hk.pe 3 []) ?_
   exact wl_loadA (by decide) ag46 (hk.pi 6) (hat33.ext hER).at_ (evtR.len rd29) qz
  ·refine wl_gyes rfl (hk.pe 3 []) ?_
   have e83 := hk.pe 4 []
   have e84 := hk.pe 5 []
   refine wl_bsliceR (r := evtR) (S := fun _ => True) (xs := [.tmp 83, .tmp 84]) (css := [q33, q33]) (l := [(nodeE 8 5 0 0 0), (nodeE 8 5 0 0 0)]) (by decide) sl24 rfl (by simp only [evs, ev, e83, e84, List.map_cons, List.map_nil]) (rfc (evtR.mono (fun _ _ _ => trivial) (keepE rd29 hER)) (rfc (evtR.mono (fun _ _ _ => trivial) (keepE rd29 hER)) (RF.nil _ _ _))) rfl (by simp) leB_ ?_
   rintro g wc _ gs hEc
   exact qz ⟨hEc, some ⟨g, 0, none⟩, _, rfl, gs.wid (fun _ _ => trivial)⟩
  ·refine wl_gyes rfl (hk.pe 3 []) ?_
   obtain ⟨v85, e85, A85, c85, rfl, r85⟩ := hk.pp 6 []
   refine Cl_ (xs := [.const (.int .i64 2), .const (.int .i64 1), .tmp 85]) (by kernel_rfl) (by simp only [evs, ev, e85]; first | done | rfl) (lfind_yes r85 judgeKnown_ok_f11) ?_
   rintro _ wc ⟨rfl, hEc⟩
   exact qz ⟨hEc, rfl⟩
  ·have ea := hk.pe 3 []
   have eb := hk.pe 7 []
   exact aPt (by decide) ea rfl eb qz
  ·have ea := hk.pe 8 []
   exact dm ea
  ·refine wl_gyes rfl (hk.pe 9 []) ?_
   exact wl_loadA (by decide) ag46 (hk.pi 6) (hat33.ext hER).at_ (evtR.len rd29) qz
  ·refine wl_gyes rfl (hk.pe 9 []) ?_
   exact wl_loadA (by decide) ag42 (hk.pi 1) (hat10.ext hER).at_ (wishR.len rd6) qz
  ·refine wl_gyes rfl (hk.pe 9 []) ?_
   have e90 := hk.pe 11 []
   refine Cl_ (xs := [.const (.int .i64 5), .const (.int .i64 1), .const (.int .u8 1), .tmp 90]) (by kernel_rfl) (by simp only [evs, ev, e90]; first | done | rfl) (lrun_ok (a := 5) (s := 1) (b := 1) (by unfold i64; omega) j1 (wishR.mono (S' := fun _ => True) (fun _ _ _ => trivial) (keepE rd6 hER))) ?_
   rintro _ wc ⟨cc, rfl, rc, hEc⟩
   exact qz ⟨hEc, cc, rfl, evtR.mono (fun _ _ _ => trivial) rc⟩
  ·refine wl_gyes rfl (hk.pe 9 []) ?_
   have e89 := hk.pe 10 []
   obtain ⟨v91, e91, c91, rfl, r91⟩ := hk.pp 12 []
   refine wl_bsliceR (r := evtR) (S := fun _ => True) (xs := [.tmp 89, .tmp 91]) (css := [q33, c91]) (l := [(nodeE 8 5 0 0 0), (runE 5 1 1 (wrW 31 1 3 7))]) (by decide) sl24 rfl (by simp only [evs, ev, e89, e91, List.map_cons, List.map_nil]) (rfc (evtR.mono (fun _ _ _ => trivial) (keepE rd29 hER)) (rfc r91 (RF.nil _ _ _))) rfl (by simp) leB_ ?_
   rintro g wc _ gs hEc
   exact qz ⟨hEc, some ⟨g, 0, none⟩, _, rfl, gs.wid (fun _ _ => trivial)⟩
  ·refine wl_gyes rfl (hk.pe 9 []) ?_
   obtain ⟨v92, e92, A92, c92, rfl, r92⟩ := hk.pp 13 []
   refine Cl_ (xs := [.const (.int .i64 2), .const (.int .i64 1), .tmp 92]) (by kernel_rfl) (by simp only [evs, ev, e92]; first | done | rfl) (lfind_yes r92 judgeKnown_ok_f12) ?_
   rintro _ wc ⟨rfl, hEc⟩
   exact qz ⟨hEc, rfl⟩
  ·have ea := hk.pe 9 []
   have eb := hk.pe 14 []
   exact aPt (by decide) ea rfl eb qz
  ·have ea := hk.pe 15 []
   exact dm ea
  ·refine wl_gyes rfl (hk.pe 16 []) ?_
   exact wl_loadA (by decide) ag46 (hk.pi 6) (hat33.ext hER).at_ (evtR.len rd29) qz
  ·refine wl_gyes rfl (hk.pe 16 []) ?_
   exact wl_loadA (by decide) ag42 (hk.pi 1) (hat10.ext hER).at_ (wishR.len rd6) qz
  ·refine wl_gyes rfl (hk.pe 16 []) ?_
   have e97 := hk.pe 18 []
   refine Cl_ (xs := [.const (.int .i64 6), .const (.int .i64 1), .const (.int .u8 1), .tmp 97]) (by kernel_rfl) (by simp only [evs, ev, e97]; first | done | rfl) (lrun_ok (a := 6) (s := 1) (b := 1) (by unfold i64; omega) j1 (wishR.mono (S' := fun _ => True) (fun _ _ _ => trivial) (keepE rd6 hER))) ?_
   rintro _ wc ⟨cc, rfl, rc, hEc⟩
   exact qz ⟨hEc, cc, rfl, evtR.mono (fun _ _ _ => trivial) rc⟩
  ·refine wl_gyes rfl (hk.pe 16 []) ?_
   exact wl_loadA (by decide) ag46 (hk.pi 7) (hat32.ext hER).at_ (evtR.len rd30) qz
  ·refine wl_gyes rfl (hk.pe 16 []) ?_
   exact wl_loadA (by decide) ag46 (hk.pi 6) (hat33.ext hER).at_ (evtR.len rd29) qz
  ·refine wl_gyes rfl (hk.pe 16 []) ?_
   have e96 := hk.pe 17 []
   obtain ⟨v98, e98, c98, rfl, r98⟩ := hk.pp 19 []
   have e99 := hk.pe 20 []
   have e100 := hk.pe 21 []
   refine wl_bsliceR (r := evtR) (S := fun _ => True) (xs := [.tmp 96, .tmp 98, .tmp 99, .tmp 100]) (css := [q33, c98, q32, q33]) (l := [(nodeE 8 5 0 0 0), (runE 6 1 1 (wrW 31 1 3 7)), (nodeE 9 5 0 0 0), (nodeE 8 5 0 0 0)]) (by decide) sl24 rfl (by simp only [evs, ev, e96, e98, e99, e100, List.map_cons, List.map_nil]) (rfc (evtR.mono (fun _ _ _ => trivial) (keepE rd29 hER)) (rfc r98 (rfc (evtR.mono (fun _ _ _ => trivial) (keepE rd30 hER)) (rfc (evtR.mono (fun _ _ _ => trivial) (keepE rd29 hER)) (RF.nil _ _ _))))) rfl (by simp) leB_ ?_
   rintro g wc _ gs hEc
   exact qz ⟨hEc, some ⟨g, 0, none⟩, _, rfl, gs.wid (fun _ _ => trivial)⟩
  ·refine wl_gyes rfl (hk.pe 16 []) ?_
   obtain ⟨v101, e101, A101, c101, rfl, r101⟩ := hk.pp 22 []
   refine Cl_ (xs := [.const (.int .i64 0), .const (.int .i64 0), .tmp 101]) (by kernel_rfl) (by simp only [evs, ev, e101]; first | done | rfl) (lfind_yes r101 judgeKnown_ok_f13) ?_
   rintro _ wc ⟨rfl, hEc⟩
   exact qz ⟨hEc, rfl⟩
  ·have ea := hk.pe 16 []
   have eb := hk.pe 23 []
   exact aPt (by decide) ea rfl eb qz
  ·have ea := hk.pe 24 []
   exact dm ea
  ·refine wl_gyes rfl (hk.pe 25 []) ?_
   exact wl_loadA (by decide) ag46 (hk.pi 6) (hat33.ext hER).at_ (evtR.len rd29) qz
  ·refine wl_gyes rfl (hk.pe 25 []) ?_
   refine Cl_ (xs := [.const (.int .i64 5), .const (.int .i64 5), .const (.int .i64 0), .const (.int .i64 0), .const (.int .u8 0)]) (by kernel_rfl) rfl (lnode_ok (S := fun _ => True) (k := 5) (a := 5) (ep := 0) (s := 0) (b := 0) (by unfold i64; omega) (by unfold i64; omega) j0 j0) ?_
   rintro _ wc ⟨cc, rfl, rc, hEc⟩
   exact qz ⟨hEc, cc, rfl, evtR.mono (fun _ _ _ => trivial) rc⟩
  ·refine wl_gyes rfl (hk.pe 25 []) ?_
   have e105 := hk.pe 26 []
   obtain ⟨v106, e106, c106, rfl, r106⟩ := hk.pp 27 []
   refine wl_bsliceR (r := evtR) (S := fun _ => True) (xs := [.tmp 105, .tmp 106]) (css := [q33, c106]) (l := [(nodeE 8 5 0 0 0), (nodeE 5 5 0 0 0)]) (by decide) sl24 rfl (by simp only [evs, ev, e105, e106, List.map_cons, List.map_nil]) (rfc (evtR.mono (fun _ _ _ => trivial) (keepE rd29 hER)) (rfc r106 (RF.nil _ _ _))) rfl (by simp) leB_ ?_
   rintro g wc _ gs hEc
   exact qz ⟨hEc, some ⟨g, 0, none⟩, _, rfl, gs.wid (fun _ _ => trivial)⟩
  ·refine wl_gyes rfl (hk.pe 25 []) ?_
   obtain ⟨v107, e107, A107, c107, rfl, r107⟩ := hk.pp 28 []
   refine Cl_ (xs := [.const (.int .i64 2), .const (.int .i64 1), .tmp 107]) (by kernel_rfl) (by simp only [evs, ev, e107]; first | done | rfl) (lfind_yes r107 judgeKnown_ok_f14) ?_
   rintro _ wc ⟨rfl, hEc⟩
   exact qz ⟨hEc, rfl⟩
  ·have ea := hk.pe 25 []
   have eb := hk.pe 29 []
   exact aPt (by decide) ea rfl eb qz
  ·have ea := hk.pe 30 []
   exact wl_assign (by decide) ea qz
 intro F w37 E38 hini hdo
 have e9 := dq hdo 31
 refine wk_drop [(2, pt g5 0), (1, pt g4 0), (3, pt ga11 0), (4, pt gb11 0), (7, pt g28 0), (6, pt g27 0), (5, pt g20 0), (0, .bool false), (8, .bool true), (9, .bool true)] ⟨di hini 2, di hini 1, di hini 3, di hini 4, di hini 7, di hini 6, di hini 5, di hini 0, di hini 8, e9, trivial⟩ ?_
 clear hini hdo e9
 replace hp := hp.ext E38
 replace hat9 := hat9.ext E38
 replace rd7 := keepE rd7 E38
 replace hat10 := hat10.ext E38
 replace rd6 := keepE rd6 E38
 replace hat17 := hat17.ext E38
 replace rc11a := keepE rc11a E38
 replace hat18 := hat18.ext E38
 replace rc11b := keepE rc11b E38
 replace hat32 := hat32.ext E38
 replace rd30 := keepE rd30 E38
 replace hat33 := hat33.ext E38
 replace rd29 := keepE rd29 E38
 replace hat34 := hat34.ext E38
 replace rd21 := keepE rd21 E38
 refine so ?_
 refine Ce (lnode_ok (S := F34) (k := 5) (a := 5) (ep := 0) (s := 0) (b := 0) (by unfold i64; omega) (by unfold i64; omega) j0 j0) ?_
 rintro _ w39 ⟨cs39, rfl, rd39, E39⟩
 replace hp := hp.ext E39
 refine so ?_
 refine Ce (lnode_ok (S := F34) (k := 7) (a := 5) (ep := (-1)) (s := 0) (b := 0) (by unfold i64; omega) (by unfold i64; omega) (by unfold i64; omega) j0) ?_
 rintro _ w40 ⟨cs40, rfl, rd40, E40⟩
 replace hp := hp.ext E40
 refine so ?_
 refine Alo hp (h := fun g41 w41 hp E41 => ?_)
 refine so ?_
 refine Alo hp (h := fun g42 w42 hp E42 => ?_)
 refine so ?_
 have rd43 := rdTo (F := F34) (w' := w42) (evtR.mono (fun _ _ h => h) rd39) mv
 have hl43 : cs39.length = 53 := evtR.len rd43
 refine Hs 1 hp (xs := cs39) (ds := cs39) (hc := ⟨rfl⟩) (hk := hl43) (hl := by rw [hl43]; exact leB_) (h1 := evtR.one rd43) (hq := putL_all (by rw [hl43]; rfl)) (h := fun w43 hp C43 => ?_)
 replace rd43 := rdTo (F := F34) (w' := w43) rd43 mv
 refine so ?_
 have rd44 := rdTo (F := F34) (w' := w43) (evtR.mono (fun _ _ h => h) rd40) mv
 have hl44 : cs40.length = 53 := evtR.len rd44
 refine Hs 0 hp (xs := cs40) (ds := cs40) (hc := ⟨rfl⟩) (hk := hl44) (hl := by rw [hl44]; exact leB_) (h1 := evtR.one rd44) (hq := putL_all (by rw [hl44]; rfl)) (h := fun w44 hp C44 => ?_)
 replace rd44 := rdTo (F := F34) (w' := w44) rd44 mv
 have z45 : Frz F34 F34 w37 w44 := mv
 replace hat9 := hat9.to z45
 replace rd7 := rdTo rd7 z45
 replace hat10 := hat10.to z45
 replace rd6 := rdTo rd6 z45
 replace hat17 := hat17.to z45
 replace rc11a := rdTo rc11a z45
 replace hat18 := hat18.to z45
 replace rc11b := rdTo rc11b z45
 replace hat32 := hat32.to z45
 replace rd30 := rdTo rd30 z45
 replace hat33 := hat33.to z45
 replace rd29 := rdTo rd29 z45
 replace hat34 := hat34.to z45
 replace rd21 := rdTo rd21 z45
 replace rd43 := rdTo (F := F34) (w' := w44) rd43 mv
 refine so ?_
 refine wl_hstore1 (i := 1) (o := 4) (v := .int .i64 2) rfl rfl hp rfl (show szB prog 3 1 = true by kernel_rfl) (by rw [evtR.len rd43]; exact leB_) rfl (fun w46 hp C46 => ?_)
 have z47 : Frz F34 F34 w44 w46 := mv
 replace hat9 := hat9.to z47
 replace rd7 := rdTo rd7 z47
 replace hat10 := hat10.to z47
 replace rd6 := rdTo rd6 z47
 replace hat17 := hat17.to z47
 replace rc11a := rdTo rc11a z47
 replace hat18 := hat18.to z47
 replace rc11b := rdTo rc11b z47
 replace hat32 := hat32.to z47
 replace rd30 := rdTo rd30 z47
 replace hat33 := hat33.to z47
 replace rd29 := rdTo rd29 z47
 replace hat34 := hat34.to z47
 replace rd21 := rdTo rd21 z47
 replace rd43 := rdTo rd43 z47
 replace rd44 := rdTo rd44 z47
 replace rd43 := set_group (x := 2) j2 rd43
 obtain ⟨F48, hp, s48, hat48⟩ := HP.frzBlk hp
 replace hat9 := hat9.wid s48
 replace rd7 := rdWd s48 rd7
 replace hat10 := hat10.wid s48
 replace rd6 := rdWd s48 rd6
 replace hat17 := hat17.wid s48
 replace rc11a := rdWd s48 rc11a
 replace hat18 := hat18.wid s48
 replace rc11b := rdWd s48 rc11b
 replace hat32 := hat32.wid s48
 replace rd30 := rdWd s48 rd30
 replace hat33 := hat33.wid s48
 replace rd29 := rdWd s48 rd29
 replace hat34 := hat34.wid s48
 replace rd21 := rdWd s48 rd21
 replace rd43 := rdWd s48 rd43
 replace rd44 := rdWd s48 rd44
 obtain ⟨q48, hq48⟩ : ∃ q, q = cs40 := ⟨_, rfl⟩
 rw [← hq48] at hat48 rd44
 obtain ⟨F49, hp, s49, hat49⟩ := HP.frzBlk hp
 replace hat9 := hat9.wid s49
 replace rd7 := rdWd s49 rd7
 replace hat10 := hat10.wid s49
 replace rd6 := rdWd s49 rd6
 replace hat17 := hat17.wid s49
 replace rc11a := rdWd s49 rc11a
 replace hat18 := hat18.wid s49
 replace rc11b := rdWd s49 rc11b
 replace hat32 := hat32.wid s49
 replace rd30 := rdWd s49 rd30
 replace hat33 := hat33.wid s49
 replace rd29 := rdWd s49 rd29
 replace hat34 := hat34.wid s49
 replace rd21 := rdWd s49 rd21
 replace hat48 := hat48.wid s49
 replace rd44 := rdWd s49 rd44
 replace rd43 := rdWd s49 rd43
 obtain ⟨q49, hq49⟩ : ∃ q, q = (cs39.set 4 (iv 2)) := ⟨_, rfl⟩
 rw [← hq49] at hat49 rd43
 refine so ?_
 refine wl_loadA (by decide) ag46 rfl (hat49.ext me).at_ (evtR.len rd43) ?_
 refine so ?_
 refine wl_bsliceR (r := evtR) (S := fun _ => True) (xs := [.tmp 113]) (css := [q49]) (l := [({ (nodeE 5 5 0 0 0) with group := 2 } : Evt)]) (by decide) sl24 rfl rfl (rfc (evtR.mono (fun _ _ _ => trivial) (keepE rd43 me)) (RF.nil _ _ _)) rfl (by simp) leB_ ?_
 rintro g51 w51 _ gs51 E51
 replace hp := hp.ext E51
 refine so ?_
 refine Ce (lfind_yes gs51 judgeKnown_ok_f15) ?_
 rintro _ w52 ⟨rfl, E52⟩
 replace hp := hp.ext E52
 refine so ?_
 refine wl_loadA (by decide) ag46 rfl (hat48.ext me).at_ (evtR.len rd44) ?_
 refine so ?_
 refine wl_bsliceR (r := evtR) (S := fun _ => True) (xs := [.tmp 117]) (css := [q48]) (l := [(nodeE 7 5 (-1) 0 0)]) (by decide) sl24 rfl rfl (rfc (evtR.mono (fun _ _ _ => trivial) (keepE rd44 me)) (RF.nil _ _ _)) rfl (by simp) leB_ ?_
 rintro g55 w55 _ gs55 E55
 replace hp := hp.ext E55
 refine so ?_
 refine Ce (lfind_yes gs55 judgeKnown_ok_f16) ?_
 rintro _ w56 ⟨rfl, E56⟩
 replace hp := hp.ext E56
 refine so ?_
 refine wl_loadA (by decide) ag42 rfl (hat10.ext me).at_ (wishR.len rd6) ?_
 refine so ?_
 refine Ce (lrun_ok (a := 5) (s := 0) (b := 1) (by unfold i64; omega) j0 (wishR.mono (S' := fun _ => True) (fun _ _ _ => trivial) (keepE rd6 me))) ?_
 rintro _ w60 ⟨cs60, rfl, rd60, E60⟩
 replace hp := hp.ext E60
 refine so ?_
 refine wl_bsliceR (r := evtR) (S := fun _ => True) (xs := [.tmp 123]) (css := [cs60]) (l := [(runE 5 0 1 (wrW 31 1 3 7))]) (by decide) sl24 rfl rfl (rfc (evtR.mono (fun _ _ _ => trivial) (keepE rd60 me)) (RF.nil _ _ _)) rfl (by simp) leB_ ?_
 rintro g61 w61 _ gs61 E61
 replace hp := hp.ext E61
 refine so ?_
 refine Ce (lfind_yes gs61 judgeKnown_ok_f17) ?_
 rintro _ w62 ⟨rfl, E62⟩
 replace hp := hp.ext E62
 refine so ?_
 refine Ce (lnode_ok (S := F49) (k := 4) (a := 5) (ep := 0) (s := 9007199254740992) (b := 1) (by unfold i64; omega) (by unfold i64; omega) j0 (by unfold i64; omega)) ?_
 rintro _ w65 ⟨cs65, rfl, rd65, E65⟩
 replace hp := hp.ext E65
 refine so ?_
 refine wl_bsliceR (r := evtR) (S := fun _ => True) (xs := [.tmp 128]) (css := [cs65]) (l := [(nodeE 4 5 0 9007199254740992 1)]) (by decide) sl24 rfl rfl (rfc (evtR.mono (fun _ _ _ => trivial) (keepE rd65 me)) (RF.nil _ _ _)) rfl (by simp) leB_ ?_
 rintro g66 w66 _ gs66 E66
 replace hp := hp.ext E66
 refine so ?_
 refine Ce (lfind_yes gs66 judgeKnown_ok_f18) ?_
 rintro _ w67 ⟨rfl, E67⟩
 replace hp := hp.ext E67
 refine so ?_
 refine Ce (lnode_ok (S := F49) (k := 6) (a := 5) (ep := 0) (s := (-1)) (b := 1) (by unfold i64; omega) (by unfold i64; omega) j0 (by unfold i64; omega)) ?_
 rintro _ w70 ⟨cs70, rfl, rd70, E70⟩
 replace hp := hp.ext E70
 refine so ?_
 refine wl_bsliceR (r := evtR) (S := fun _ => True) (xs := [.tmp 133]) (css := [cs70]) (l := [(nodeE 6 5 0 (-1) 1)]) (by decide) sl24 rfl rfl (rfc (evtR.mono (fun _ _ _ => trivial) (keepE rd70 me)) (RF.nil _ _ _)) rfl (by simp) leB_ ?_
 rintro g71 w71 _ gs71 E71
 replace hp := hp.ext E71
 refine so ?_
 refine Ce (lfind_yes gs71 judgeKnown_ok_f19) ?_
 rintro _ w72 ⟨rfl, E72⟩
 replace hp := hp.ext E72
 refine so ?_
 refine Ce (lnode_ok (S := F49) (k := 5) (a := 5) (ep := 1048576) (s := (-1)) (b := 0) (by unfold i64; omega) (by unfold i64; omega) (by unfold i64; omega) (by unfold i64; omega)) ?_
 rintro _ w75 ⟨cs75, rfl, rd75, E75⟩
 replace hp := hp.ext E75
 refine so ?_
 refine wl_bsliceR (r := evtR) (S := fun _ => True) (xs := [.tmp 138]) (css := [cs75]) (l := [(nodeE 5 5 1048576 (-1) 0)]) (by decide) sl24 rfl rfl (rfc (evtR.mono (fun _ _ _ => trivial) (keepE rd75 me)) (RF.nil _ _ _)) rfl (by simp) leB_ ?_
 rintro g76 w76 _ gs76 E76
 replace hp := hp.ext E76
 refine so ?_
 refine Ce (lfind_yes gs76 judgeKnown_ok_f20) ?_
 rintro _ w77 ⟨rfl, E77⟩
 replace hp := hp.ext E77
 refine so ?_
 refine Ce (lnode_ok (S := F49) (k := 5) (a := 5) (ep := 1048577) (s := 0) (b := 0) (by unfold i64; omega) (by unfold i64; omega) (by unfold i64; omega) j0) ?_
 rintro _ w80 ⟨cs80, rfl, rd80, E80⟩
 replace hp := hp.ext E80
 refine so ?_
 refine wl_bsliceR (r := evtR) (S := fun _ => True) (xs := [.tmp 143]) (css := [cs80]) (l := [(nodeE 5 5 1048577 0 0)]) (by decide) sl24 rfl rfl (rfc (evtR.mono (fun _ _ _ => trivial) (keepE rd80 me)) (RF.nil _ _ _)) rfl (by simp) leB_ ?_
 rintro g81 w81 _ gs81 E81
 replace hp := hp.ext E81
 refine so ?_
 refine Ce (lfind_yes gs81 judgeKnown_ok_f21) ?_
 rintro _ w82 ⟨rfl, E82⟩
 replace hp := hp.ext E82
 have z85 : Frz F49 F49 w46 w82 := mv
 replace hat9 := hat9.to z85
 replace rd7 := rdTo rd7 z85
 replace hat10 := hat10.to z85
 replace rd6 := rdTo rd6 z85
 replace hat17 := hat17.to z85
 replace rc11a := rdTo rc11a z85
 replace hat18 := hat18.to z85
 replace rc11b := rdTo rc11b z85
 replace hat32 := hat32.to z85
 replace rd30 := rdTo rd30 z85
 replace hat33 := hat33.to z85
 replace rd29 := rdTo rd29 z85
 replace hat34 := hat34.to z85
 replace rd21 := rdTo rd21 z85
 replace hat48 := hat48.to z85
 replace rd44 := rdTo rd44 z85
 replace hat49 := hat49.to z85
 replace rd43 := rdTo rd43 z85
 refine so ?_
 refine Ce (lnode_ok (S := F49) (k := 4) (a := 6) (ep := 0) (s := 4) (b := 1) (by unfold i64; omega) (by unfold i64; omega) j0 (by unfold i64; omega)) ?_
 rintro _ w86 ⟨cs86, rfl, rd86, E86⟩
 replace hp := hp.ext E86
 refine so ?_
 refine Alo hp (h := fun g87 w87 hp E87 => ?_)
 refine so ?_
 have rd88 := rdTo (F := F49) (w' := w87) (evtR.mono (fun _ _ h => h) rd86) mv
 have hl88 : cs86.length = 53 := evtR.len rd88
 refine Hs 0 hp (xs := cs86) (ds := cs86) (hc := ⟨rfl⟩) (hk := hl88) (hl := by rw [hl88]; exact leB_) (h1 := evtR.one rd88) (hq := putL_all (by rw [hl88]; rfl)) (h := fun w88 hp C88 => ?_)
 replace rd88 := rdTo (F := F49) (w' := w88) rd88 mv
 have z89 : Frz F49 F49 w82 w88 := mv
 replace hat9 := hat9.to z89
 replace rd7 := rdTo rd7 z89
 replace hat10 := hat10.to z89
 replace rd6 := rdTo rd6 z89
 replace hat17 := hat17.to z89
 replace rc11a := rdTo rc11a z89
 replace hat18 := hat18.to z89
 replace rc11b := rdTo rc11b z89
 replace hat32 := hat32.to z89
 replace rd30 := rdTo rd30 z89
 replace hat33 := hat33.to z89
 replace rd29 := rdTo rd29 z89
 replace hat34 := hat34.to z89
 replace rd21 := rdTo rd21 z89
 replace hat48 := hat48.to z89
 replace rd44 := rdTo rd44 z89
 replace hat49 := hat49.to z89
 replace rd43 := rdTo rd43 z89
 obtain ⟨F90, hp, s90, hat90⟩ := HP.frzBlk hp
 replace hat9 := hat9.wid s90
 replace rd7 := rdWd s90 rd7
 replace hat10 := hat10.wid s90
 replace rd6 := rdWd s90 rd6
 replace hat17 := hat17.wid s90
 replace rc11a := rdWd s90 rc11a
 replace hat18 := hat18.wid s90
 replace rc11b := rdWd s90 rc11b
 replace hat32 := hat32.wid s90
 replace rd30 := rdWd s90 rd30
 replace hat33 := hat33.wid s90
 replace rd29 := rdWd s90 rd29
 replace hat34 := hat34.wid s90
 replace rd21 := rdWd s90 rd21
 replace hat48 := hat48.wid s90
 replace rd44 := rdWd s90 rd44
 replace hat49 := hat49.wid s90
 replace rd43 := rdWd s90 rd43
 replace rd88 := rdWd s90 rd88
 obtain ⟨q90, hq90⟩ : ∃ q, q = cs86 := ⟨_, rfl⟩
 rw [← hq90] at hat90 rd88
 refine so ?_
 refine wdL [.eq (.agg q90.toArray), .rd evtR (fun _ => True) (nodeE 4 5 0 4 2), .gs evtR (fun _ => True) [(nodeE 4 6 0 4 1), (nodeE 4 5 0 4 2)], .eq (.bool true), .eq (.bool true), .eq (.agg q90.toArray), .rd evtR (fun _ => True) (nodeE 4 5 1 4 2), .rd evtR (fun _ => True) (nodeE 4 5 0 5 2), .eq (.agg q10.toArray), .rd evtR (fun _ => True) (runE 5 4 2 (wrW 31 1 3 7)), .gs evtR (fun _ => True) [(nodeE 4 6 0 4 1), (nodeE 4 5 1 4 2), (nodeE 4 5 0 5 2), (runE 5 4 2 (wrW 31 1 3 7))], .eq (.bool true), .eq (.bool true), .eq (.bool true), .eq (.agg q10.toArray), .rd evtR (fun _ => True) (runE 5 1 1 (wrW 31 1 3 7)), .eq (.agg q10.toArray), .rd evtR (fun _ => True) (runE 5 1 2 (wrW 31 1 3 7)), .gs evtR (fun _ => True) [(runE 5 1 1 (wrW 31 1 3 7)), (runE 5 1 2 (wrW 31 1 3 7))], .eq (.bool true), .eq (.bool true), .eq (.bool true)] ?_ ?_
 ·refine ⟨?_, ?_, ?_, ?_, ?_, ?_, ?_, ?_, ?_, ?_, ?_, ?_, ?_, ?_, ?_, ?_, ?_, ?_, ?_, ?_, ?_, ?_, trivial⟩ <;> intro F wF hER hk
  ·exact wl_loadA (by decide) ag46 (hk.pi 13) (hat90.ext hER).at_ (evtR.len rd88) qz
  ·refine Cl_ (xs := [.const (.int .i64 4), .const (.int .i64 5), .const (.int .i64 0), .const (.int .i64 4), .const (.int .u8 2)]) (by kernel_rfl) rfl (lnode_ok (S := fun _ => True) (k := 4) (a := 5) (ep := 0) (s := 4) (b := 2) (by unfold i64; omega) (by unfold i64; omega) j0 (by unfold i64; omega)) ?_
   rintro _ wc ⟨cc, rfl, rc, hEc⟩
   exact qz ⟨hEc, cc, rfl, evtR.mono (fun _ _ _ => trivial) rc⟩
  ·have e148 := hk.pe 0 []
   obtain ⟨v149, e149, c149, rfl, r149⟩ := hk.pp 1 []
   refine wl_bsliceR (r := evtR) (S := fun _ => True) (xs := [.tmp 148, .tmp 149]) (css := [q90, c149]) (l := [(nodeE 4 6 0 4 1), (nodeE 4 5 0 4 2)]) (by decide) sl24 rfl (by simp only [evs, ev, e148, e149, List.map_cons, List.map_nil]) (rfc (evtR.mono (fun _ _ _ => trivial) (keepE rd88 hER)) (rfc r149 (RF.nil _ _ _))) rfl (by simp) leB_ ?_
   rintro g wc _ gs hEc
   exact qz ⟨hEc, some ⟨g, 0, none⟩, _, rfl, gs.wid (fun _ _ => trivial)⟩
  ·obtain ⟨v150, e150, A150, c150, rfl, r150⟩ := hk.pp 2 []
   refine Cl_ (xs := [.const (.int .i64 4), .const (.int .i64 1), .tmp 150]) (by kernel_rfl) (by simp only [evs, ev, e150]; first | done | rfl) (lfind_yes r150 judgeKnown_ok_f22) ?_
   rintro _ wc ⟨rfl, hEc⟩
   exact qz ⟨hEc, rfl⟩
  ·have ea := hk.pe 3 []
   exact dm ea
  ·refine wl_gyes rfl (hk.pe 4 []) ?_
   exact wl_loadA (by decide) ag46 (hk.pi 13) (hat90.ext hER).at_ (evtR.len rd88) qz
  ·refine wl_gyes rfl (hk.pe 4 []) ?_
   refine Cl_ (xs := [.const (.int .i64 4), .const (.int .i64 5), .const (.int .i64 1), .const (.int .i64 4), .const (.int .u8 2)]) (by kernel_rfl) rfl (lnode_ok (S := fun _ => True) (k := 4) (a := 5) (ep := 1) (s := 4) (b := 2) (by unfold i64; omega) (by unfold i64; omega) j1 (by unfold i64; omega)) ?_
   rintro _ wc ⟨cc, rfl, rc, hEc⟩
   exact qz ⟨hEc, cc, rfl, evtR.mono (fun _ _ _ => trivial) rc⟩
  ·refine wl_gyes rfl (hk.pe 4 []) ?_
   refine Cl_ (xs := [.const (.int .i64 4), .const (.int .i64 5), .const (.int .i64 0), .const (.int .i64 5), .const (.int .u8 2)]) (by kernel_rfl) rfl (lnode_ok (S := fun _ => True) (k := 4) (a := 5) (ep := 0) (s := 5) (b := 2) (by unfold i64; omega) (by unfold i64; omega) j0 (by unfold i64; omega)) ?_
   rintro _ wc ⟨cc, rfl, rc, hEc⟩
   exact qz ⟨hEc, cc, rfl, evtR.mono (fun _ _ _ => trivial) rc⟩
  ·refine wl_gyes rfl (hk.pe 4 []) ?_
   exact wl_loadA (by decide) ag42 (hk.pi 1) (hat10.ext hER).at_ (wishR.len rd6) qz
  ·refine wl_gyes rfl (hk.pe 4 []) ?_
   have e156 := hk.pe 8 []
   refine Cl_ (xs := [.const (.int .i64 5), .const (.int .i64 4), .const (.int .u8 2), .tmp 156]) (by kernel_rfl) (by simp only [evs, ev, e156]; first | done | rfl) (lrun_ok (a := 5) (s := 4) (b := 2) (by unfold i64; omega) (by unfold i64; omega) (wishR.mono (S' := fun _ => True) (fun _ _ _ => trivial) (keepE rd6 hER))) ?_
   rintro _ wc ⟨cc, rfl, rc, hEc⟩
   exact qz ⟨hEc, cc, rfl, evtR.mono (fun _ _ _ => trivial) rc⟩
  ·refine wl_gyes rfl (hk.pe 4 []) ?_
   have e153 := hk.pe 5 []
   obtain ⟨v154, e154, c154, rfl, r154⟩ := hk.pp 6 []
   obtain ⟨v155, e155, c155, rfl, r155⟩ := hk.pp 7 []
   obtain ⟨v157, e157, c157, rfl, r157⟩ := hk.pp 9 []
   refine wl_bsliceR (r := evtR) (S := fun _ => True) (xs := [.tmp 153, .tmp 154, .tmp 155, .tmp 157]) (css := [q90, c154, c155, c157]) (l := [(nodeE 4 6 0 4 1), (nodeE 4 5 1 4 2), (nodeE 4 5 0 5 2), (runE 5 4 2 (wrW 31 1 3 7))]) (by decide) sl24 rfl (by simp only [evs, ev, e153, e154, e155, e157, List.map_cons, List.map_nil]) (rfc (evtR.mono (fun _ _ _ => trivial) (keepE rd88 hER)) (rfc r154 (rfc r155 (rfc r157 (RF.nil _ _ _))))) rfl (by simp) leB_ ?_
   rintro g wc _ gs hEc
   exact qz ⟨hEc, some ⟨g, 0, none⟩, _, rfl, gs.wid (fun _ _ => trivial)⟩
  ·refine wl_gyes rfl (hk.pe 4 []) ?_
   obtain ⟨v158, e158, A158, c158, rfl, r158⟩ := hk.pp 10 []
   refine Cl_ (xs := [.const (.int .i64 0), .const (.int .i64 0), .tmp 158]) (by kernel_rfl) (by simp only [evs, ev, e158]; first | done | rfl) (lfind_yes r158 judgeKnown_ok_f23) ?_
   rintro _ wc ⟨rfl, hEc⟩
   exact qz ⟨hEc, rfl⟩
  ·have ea := hk.pe 4 []
   have eb := hk.pe 11 []
   exact aPt (by decide) ea rfl eb qz
  ·have ea := hk.pe 12 []
   exact dm ea
  ·refine wl_gyes rfl (hk.pe 13 []) ?_
   exact wl_loadA (by decide) ag42 (hk.pi 1) (hat10.ext hER).at_ (wishR.len rd6) qz
  ·refine wl_gyes rfl (hk.pe 13 []) ?_
   have e162 := hk.pe 14 []
   refine Cl_ (xs := [.const (.int .i64 5), .const (.int .i64 1), .const (.int .u8 1), .tmp 162]) (by kernel_rfl) (by simp only [evs, ev, e162]; first | done | rfl) (lrun_ok (a := 5) (s := 1) (b := 1) (by unfold i64; omega) j1 (wishR.mono (S' := fun _ => True) (fun _ _ _ => trivial) (keepE rd6 hER))) ?_
   rintro _ wc ⟨cc, rfl, rc, hEc⟩
   exact qz ⟨hEc, cc, rfl, evtR.mono (fun _ _ _ => trivial) rc⟩
  ·refine wl_gyes rfl (hk.pe 13 []) ?_
   exact wl_loadA (by decide) ag42 (hk.pi 1) (hat10.ext hER).at_ (wishR.len rd6) qz
  ·refine wl_gyes rfl (hk.pe 13 []) ?_
   have e164 := hk.pe 16 []
   refine Cl_ (xs := [.const (.int .i64 5), .const (.int .i64 1), .const (.int .u8 2), .tmp 164]) (by kernel_rfl) (by simp only [evs, ev, e164]; first | done | rfl) (lrun_ok (a := 5) (s := 1) (b := 2) (by unfold i64; omega) j1 (wishR.mono (S' := fun _ => True) (fun _ _ _ => trivial) (keepE rd6 hER))) ?_
   rintro _ wc ⟨cc, rfl, rc, hEc⟩
   exact qz ⟨hEc, cc, rfl, evtR.mono (fun _ _ _ => trivial) rc⟩
  ·refine wl_gyes rfl (hk.pe 13 []) ?_
   obtain ⟨v163, e163, c163, rfl, r163⟩ := hk.pp 15 []
   obtain ⟨v165, e165, c165, rfl, r165⟩ := hk.pp 17 []
   refine wl_bsliceR (r := evtR) (S := fun _ => True) (xs := [.tmp 163, .tmp 165]) (css := [c163, c165]) (l := [(runE 5 1 1 (wrW 31 1 3 7)), (runE 5 1 2 (wrW 31 1 3 7))]) (by decide) sl24 rfl (by simp only [evs, ev, e163, e165, List.map_cons, List.map_nil]) (rfc r163 (rfc r165 (RF.nil _ _ _))) rfl (by simp) leB_ ?_
   rintro g wc _ gs hEc
   exact qz ⟨hEc, some ⟨g, 0, none⟩, _, rfl, gs.wid (fun _ _ => trivial)⟩
  ·refine wl_gyes rfl (hk.pe 13 []) ?_
   obtain ⟨v166, e166, A166, c166, rfl, r166⟩ := hk.pp 18 []
   refine Cl_ (xs := [.const (.int .i64 4), .const (.int .i64 1), .tmp 166]) (by kernel_rfl) (by simp only [evs, ev, e166]; first | done | rfl) (lfind_yes r166 judgeKnown_ok_f24) ?_
   rintro _ wc ⟨rfl, hEc⟩
   exact qz ⟨hEc, rfl⟩
  ·have ea := hk.pe 13 []
   have eb := hk.pe 19 []
   exact aPt (by decide) ea rfl eb qz
  ·have ea := hk.pe 20 []
   exact wl_assign (by decide) ea qz
 intro F w91 E92 hini hdo
 have e14 := dq hdo 21
 refine wk_drop [(2, pt g5 0), (1, pt g4 0), (3, pt ga11 0), (4, pt gb11 0), (7, pt g28 0), (6, pt g27 0), (5, pt g20 0), (11, pt g42 0), (10, pt g41 0), (13, pt g87 0), (0, .bool false), (8, .bool true), (9, .bool true), (12, .bool true), (14, .bool true)] ⟨di hini 2, di hini 1, di hini 3, di hini 4, di hini 7, di hini 6, di hini 5, di hini 11, di hini 10, di hini 13, di hini 0, di hini 8, di hini 9, di hini 12, e14, trivial⟩ ?_
 clear hini hdo e14
 replace hp := hp.ext E92
 replace hat9 := hat9.ext E92
 replace rd7 := keepE rd7 E92
 replace hat10 := hat10.ext E92
 replace rd6 := keepE rd6 E92
 replace hat17 := hat17.ext E92
 replace rc11a := keepE rc11a E92
 replace hat18 := hat18.ext E92
 replace rc11b := keepE rc11b E92
 replace hat32 := hat32.ext E92
 replace rd30 := keepE rd30 E92
 replace hat33 := hat33.ext E92
 replace rd29 := keepE rd29 E92
 replace hat34 := hat34.ext E92
 replace rd21 := keepE rd21 E92
 replace hat48 := hat48.ext E92
 replace rd44 := keepE rd44 E92
 replace hat49 := hat49.ext E92
 replace rd43 := keepE rd43 E92
 replace hat90 := hat90.ext E92
 replace rd88 := keepE rd88 E92
 refine so ?_
 refine wl_loadA (by decide) ag42 rfl (hat10.ext me).at_ (wishR.len rd6) ?_
 refine so ?_
 refine Ce (lrun_ok (a := 6) (s := 1) (b := 1) (by unfold i64; omega) j1 (keepE rd6 me)) ?_
 rintro _ w94 ⟨cs94, rfl, rd94, E94⟩
 replace hp := hp.ext E94
 refine so ?_
 refine Alo hp (h := fun g95 w95 hp E95 => ?_)
 refine so ?_
 have rd96 := rdTo (F := F90) (w' := w95) (evtR.mono (fun _ _ h => h) rd94) mv
 have hl96 : cs94.length = 53 := evtR.len rd96
 refine Hs 0 hp (xs := cs94) (ds := cs94) (hc := ⟨rfl⟩) (hk := hl96) (hl := by rw [hl96]; exact leB_) (h1 := evtR.one rd96) (hq := putL_all (by rw [hl96]; rfl)) (h := fun w96 hp C96 => ?_)
 replace rd96 := rdTo (F := F90) (w' := w96) rd96 mv
 have z97 : Frz F90 F90 w91 w96 := mv
 replace hat9 := hat9.to z97
 replace rd7 := rdTo rd7 z97
 replace hat10 := hat10.to z97
 replace rd6 := rdTo rd6 z97
 replace hat17 := hat17.to z97
 replace rc11a := rdTo rc11a z97
 replace hat18 := hat18.to z97
 replace rc11b := rdTo rc11b z97
 replace hat32 := hat32.to z97
 replace rd30 := rdTo rd30 z97
 replace hat33 := hat33.to z97
 replace rd29 := rdTo rd29 z97
 replace hat34 := hat34.to z97
 replace rd21 := rdTo rd21 z97
 replace hat48 := hat48.to z97
 replace rd44 := rdTo rd44 z97
 replace hat49 := hat49.to z97
 replace rd43 := rdTo rd43 z97
 replace hat90 := hat90.to z97
 replace rd88 := rdTo rd88 z97
 refine so ?_
 refine wl_hstore1 (i := 0) (o := 49) (v := .int .i64 172) rfl rfl hp rfl (show szB prog 25 1 = true by kernel_rfl) (by rw [evtR.len rd96]; exact leB_) rfl (fun w98 hp C98 => ?_)
 have z99 : Frz F90 F90 w96 w98 := mv
 replace hat9 := hat9.to z99
 replace rd7 := rdTo rd7 z99
 replace hat10 := hat10.to z99
 replace rd6 := rdTo rd6 z99
 replace hat17 := hat17.to z99
 replace rc11a := rdTo rc11a z99
 replace hat18 := hat18.to z99
 replace rc11b := rdTo rc11b z99
 replace hat32 := hat32.to z99
 replace rd30 := rdTo rd30 z99
 replace hat33 := hat33.to z99
 replace rd29 := rdTo rd29 z99
 replace hat34 := hat34.to z99
 replace rd21 := rdTo rd21 z99
 replace hat48 := hat48.to z99
 replace rd44 := rdTo rd44 z99
 replace hat49 := hat49.to z99
 replace rd43 := rdTo rd43 z99
 replace hat90 := hat90.to z99
 replace rd88 := rdTo rd88 z99
 replace rd96 := rdTo rd96 z99
 replace rd96 := set_err (x := 172) (by unfold i64; omega) rd96
 obtain ⟨F100, hp, s100, hat100⟩ := HP.frzBlk hp
 replace hat9 := hat9.wid s100
 replace rd7 := rdWd s100 rd7
 replace hat10 := hat10.wid s100
 replace rd6 := rdWd s100 rd6
 replace hat17 := hat17.wid s100
 replace rc11a := rdWd s100 rc11a
 replace hat18 := hat18.wid s100
 replace rc11b := rdWd s100 rc11b
 replace hat32 := hat32.wid s100
 replace rd30 := rdWd s100 rd30
 replace hat33 := hat33.wid s100
 replace rd29 := rdWd s100 rd29
 replace hat34 := hat34.wid s100
 replace rd21 := rdWd s100 rd21
 replace hat48 := hat48.wid s100
 replace rd44 := rdWd s100 rd44
 replace hat49 := hat49.wid s100
 replace rd43 := rdWd s100 rd43
 replace hat90 := hat90.wid s100
 replace rd88 := rdWd s100 rd88
 replace rd96 := rdWd s100 rd96
 obtain ⟨q100, hq100⟩ : ∃ q, q = (cs94.set 49 (iv 172)) := ⟨_, rfl⟩
 rw [← hq100] at hat100 rd96
 refine so ?_
 refine wdL [.eq (.agg q10.toArray), .rd evtR (fun _ => True) (runE 5 1 1 (wrW 31 1 3 7)), .eq (.agg q9.toArray), .rd evtR (fun _ => True) (runE 6 1 1 (wrW 32 1 3 8)), .gs evtR (fun _ => True) [(runE 5 1 1 (wrW 31 1 3 7)), (runE 6 1 1 (wrW 32 1 3 8))], .eq (.bool true), .eq (.bool true), .eq (.agg q10.toArray), .rd evtR (fun _ => True) (runE 5 1 1 (wrW 31 1 3 7)), .eq (.agg q100.toArray), .gs evtR (fun _ => True) [(runE 5 1 1 (wrW 31 1 3 7)), ({ (runE 6 1 1 (wrW 31 1 3 7)) with ans := { (runE 6 1 1 (wrW 31 1 3 7)).ans with err := 172 } } : Evt)], .eq (.bool true), .eq (.bool true), .eq (.bool true), .eq (.agg q10.toArray), .rd evtR (fun _ => True) (runE 5 1 1 (wrW 31 1 3 7)), .eq (.agg q9.toArray), .rd evtR (fun _ => True) (runE 5 1 1 (wrW 32 1 3 8)), .eq (.agg q10.toArray), .rd evtR (fun _ => True) (runE 6 1 1 (wrW 31 1 3 7)), .eq (.agg q9.toArray), .rd evtR (fun _ => True) (runE 6 1 1 (wrW 32 1 3 8)), .gs evtR (fun _ => True) [(runE 5 1 1 (wrW 31 1 3 7)), (runE 5 1 1 (wrW 32 1 3 8)), (runE 6 1 1 (wrW 31 1 3 7)), (runE 6 1 1 (wrW 32 1 3 8))], .eq (.bool true), .eq (.bool true), .eq (.bool true), .eq (.agg q10.toArray), .rd evtR (fun _ => True) (runE 5 1 1 (wrW 31 1 3 7)), .eq (.agg q9.toArray), .rd evtR (fun _ => True) (runE 5 1 1 (wrW 32 1 3 8)), .eq (.agg q10.toArray), .rd evtR (fun _ => True) (runE 6 1 1 (wrW 31 1 3 7)), .eq (.agg q10.toArray), .rd evtR (fun _ => True) (runE 6 1 1 (wrW 31 1 3 7)), .gs evtR (fun _ => True) [(runE 5 1 1 (wrW 31 1 3 7)), (runE 5 1 1 (wrW 32 1 3 8)), (runE 6 1 1 (wrW 31 1 3 7)), (runE 6 1 1 (wrW 31 1 3 7))], .eq (.bool true), .eq (.bool true), .eq (.bool true), .eq (.agg q10.toArray), .rd evtR (fun _ => True) (runE 5 1 1 (wrW 31 1 3 7)), .eq (.agg q33.toArray), .eq (.agg q32.toArray), .eq (.agg q10.toArray), .rd evtR (fun _ => True) (runE 5 1 1 (wrW 31 1 3 7)), .eq (.agg q10.toArray), .rd evtR (fun _ => True) (runE 6 1 1 (wrW 31 1 3 7)), .eq (.agg q9.toArray), .rd evtR (fun _ => True) (runE 5 1 1 (wrW 32 1 3 8)), .eq (.agg q9.toArray), .rd evtR (fun _ => True) (runE 6 1 1 (wrW 32 1 3 8)), .gs evtR (fun _ => True) [(runE 5 1 1 (wrW 31 1 3 7)), (nodeE 8 5 0 0 0), (nodeE 9 5 0 0 0), (runE 5 1 1 (wrW 31 1 3 7)), (runE 6 1 1 (wrW 31 1 3 7)), (runE 5 1 1 (wrW 32 1 3 8)), (runE 6 1 1 (wrW 32 1 3 8))], .eq (.bool true), .eq (.bool true), .eq (.bool true)] ?_ ?_
 ·refine ⟨?_, ?_, ?_, ?_, ?_, ?_, ?_, ?_, ?_, ?_, ?_, ?_, ?_, ?_, ?_, ?_, ?_, ?_, ?_, ?_, ?_, ?_, ?_, ?_, ?_, ?_, ?_, ?_, ?_, ?_, ?_, ?_, ?_, ?_, ?_, ?_, ?_, ?_, ?_, ?_, ?_, ?_, ?_, ?_, ?_, ?_, ?_, ?_, ?_, ?_, ?_, ?_, ?_, ?_, trivial⟩ <;> intro F wF hER hk
  ·exact wl_loadA (by decide) ag42 (hk.pi 1) (hat10.ext hER).at_ (wishR.len rd6) qz
  ·have e173 := hk.pe 0 []
   refine Cl_ (xs := [.const (.int .i64 5), .const (.int .i64 1), .const (.int .u8 1), .tmp 173]) (by kernel_rfl) (by simp only [evs, ev, e173]; first | done | rfl) (lrun_ok (a := 5) (s := 1) (b := 1) (by unfold i64; omega) j1 (wishR.mono (S' := fun _ => True) (fun _ _ _ => trivial) (keepE rd6 hER))) ?_
   rintro _ wc ⟨cc, rfl, rc, hEc⟩
   exact qz ⟨hEc, cc, rfl, evtR.mono (fun _ _ _ => trivial) rc⟩
  ·exact wl_loadA (by decide) ag42 (hk.pi 2) (hat9.ext hER).at_ (wishR.len rd7) qz
  ·have e175 := hk.pe 2 []
   refine Cl_ (xs := [.const (.int .i64 6), .const (.int .i64 1), .const (.int .u8 1), .tmp 175]) (by kernel_rfl) (by simp only [evs, ev, e175]; first | done | rfl) (lrun_ok (a := 6) (s := 1) (b := 1) (by unfold i64; omega) j1 (wishR.mono (S' := fun _ => True) (fun _ _ _ => trivial) (keepE rd7 hER))) ?_
   rintro _ wc ⟨cc, rfl, rc, hEc⟩
   exact qz ⟨hEc, cc, rfl, evtR.mono (fun _ _ _ => trivial) rc⟩
  ·obtain ⟨v174, e174, c174, rfl, r174⟩ := hk.pp 1 []
   obtain ⟨v176, e176, c176, rfl, r176⟩ := hk.pp 3 []
   refine wl_bsliceR (r := evtR) (S := fun _ => True) (xs := [.tmp 174, .tmp 176]) (css := [c174, c176]) (l := [(runE 5 1 1 (wrW 31 1 3 7)), (runE 6 1 1 (wrW 32 1 3 8))]) (by decide) sl24 rfl (by simp only [evs, ev, e174, e176, List.map_cons, List.map_nil]) (rfc r174 (rfc r176 (RF.nil _ _ _))) rfl (by simp) leB_ ?_
   rintro g wc _ gs hEc
   exact qz ⟨hEc, some ⟨g, 0, none⟩, _, rfl, gs.wid (fun _ _ => trivial)⟩
  ·obtain ⟨v177, e177, A177, c177, rfl, r177⟩ := hk.pp 4 []
   refine Cl_ (xs := [.const (.int .i64 5), .const (.int .i64 1), .tmp 177]) (by kernel_rfl) (by simp only [evs, ev, e177]; first | done | rfl) (lfind_yes r177 judgeKnown_ok_f25) ?_
   rintro _ wc ⟨rfl, hEc⟩
   exact qz ⟨hEc, rfl⟩
  ·have ea := hk.pe 5 []
   exact dm ea
  ·refine wl_gyes rfl (hk.pe 6 []) ?_
   exact wl_loadA (by decide) ag42 (hk.pi 1) (hat10.ext hER).at_ (wishR.len rd6) qz
  ·refine wl_gyes rfl (hk.pe 6 []) ?_
   have e180 := hk.pe 7 []
   refine Cl_ (xs := [.const (.int .i64 5), .const (.int .i64 1), .const (.int .u8 1), .tmp 180]) (by kernel_rfl) (by simp only [evs, ev, e180]; first | done | rfl) (lrun_ok (a := 5) (s := 1) (b := 1) (by unfold i64; omega) j1 (wishR.mono (S' := fun _ => True) (fun _ _ _ => trivial) (keepE rd6 hER))) ?_
   rintro _ wc ⟨cc, rfl, rc, hEc⟩
   exact qz ⟨hEc, cc, rfl, evtR.mono (fun _ _ _ => trivial) rc⟩
  ·refine wl_gyes rfl (hk.pe 6 []) ?_
   exact wl_loadA (by decide) ag46 (hk.pi 15) (hat100.ext hER).at_ (evtR.len rd96) qz
  ·refine wl_gyes rfl (hk.pe 6 []) ?_
   obtain ⟨v181, e181, c181, rfl, r181⟩ := hk.pp 8 []
   have e182 := hk.pe 9 []
   refine wl_bsliceR (r := evtR) (S := fun _ => True) (xs := [.tmp 181, .tmp 182]) (css := [c181, q100]) (l := [(runE 5 1 1 (wrW 31 1 3 7)), ({ (runE 6 1 1 (wrW 31 1 3 7)) with ans := { (runE 6 1 1 (wrW 31 1 3 7)).ans with err := 172 } } : Evt)]) (by decide) sl24 rfl (by simp only [evs, ev, e181, e182, List.map_cons, List.map_nil]) (rfc r181 (rfc (evtR.mono (fun _ _ _ => trivial) (keepE rd96 hER)) (RF.nil _ _ _))) rfl (by simp) leB_ ?_
   rintro g wc _ gs hEc
   exact qz ⟨hEc, some ⟨g, 0, none⟩, _, rfl, gs.wid (fun _ _ => trivial)⟩
  ·refine wl_gyes rfl (hk.pe 6 []) ?_
   obtain ⟨v183, e183, A183, c183, rfl, r183⟩ := hk.pp 10 []
   refine Cl_ (xs := [.const (.int .i64 5), .const (.int .i64 1), .tmp 183]) (by kernel_rfl) (by simp only [evs, ev, e183]; first | done | rfl) (lfind_yes r183 judgeKnown_ok_f26) ?_
   rintro _ wc ⟨rfl, hEc⟩
   exact qz ⟨hEc, rfl⟩
  ·have ea := hk.pe 6 []
   have eb := hk.pe 11 []
   exact aPt (by decide) ea rfl eb qz
  ·have ea := hk.pe 12 []
   exact dm ea
  ·refine wl_gyes rfl (hk.pe 13 []) ?_
   exact wl_loadA (by decide) ag42 (hk.pi 1) (hat10.ext hER).at_ (wishR.len rd6) qz
  ·refine wl_gyes rfl (hk.pe 13 []) ?_
   have e187 := hk.pe 14 []
   refine Cl_ (xs := [.const (.int .i64 5), .const (.int .i64 1), .const (.int .u8 1), .tmp 187]) (by kernel_rfl) (by simp only [evs, ev, e187]; first | done | rfl) (lrun_ok (a := 5) (s := 1) (b := 1) (by unfold i64; omega) j1 (wishR.mono (S' := fun _ => True) (fun _ _ _ => trivial) (keepE rd6 hER))) ?_
   rintro _ wc ⟨cc, rfl, rc, hEc⟩
   exact qz ⟨hEc, cc, rfl, evtR.mono (fun _ _ _ => trivial) rc⟩
  ·refine wl_gyes rfl (hk.pe 13 []) ?_
   exact wl_loadA (by decide) ag42 (hk.pi 2) (hat9.ext hER).at_ (wishR.len rd7) qz
  ·refine wl_gyes rfl (hk.pe 13 []) ?_
   have e189 := hk.pe 16 []
   refine Cl_ (xs := [.const (.int .i64 5), .const (.int .i64 1), .const (.int .u8 1), .tmp 189]) (by kernel_rfl) (by simp only [evs, ev, e189]; first | done | rfl) (lrun_ok (a := 5) (s := 1) (b := 1) (by unfold i64; omega) j1 (wishR.mono (S' := fun _ => True) (fun _ _ _ => trivial) (keepE rd7 hER))) ?_
   rintro _ wc ⟨cc, rfl, rc, hEc⟩
   exact qz ⟨hEc, cc, rfl, evtR.mono (fun _ _ _ => trivial) rc⟩
  ·refine wl_gyes rfl (hk.pe 13 []) ?_
   exact wl_loadA (by decide) ag42 (hk.pi 1) (hat10.ext hER).at_ (wishR.len rd6) qz
  ·refine wl_gyes rfl (hk.pe 13 []) ?_
   have e191 := hk.pe 18 []
   refine Cl_ (xs := [.const (.int .i64 6), .const (.int .i64 1), .const (.int .u8 1), .tmp 191]) (by kernel_rfl) (by simp only [evs, ev, e191]; first | done | rfl) (lrun_ok (a := 6) (s := 1) (b := 1) (by unfold i64; omega) j1 (wishR.mono (S' := fun _ => True) (fun _ _ _ => trivial) (keepE rd6 hER))) ?_
   rintro _ wc ⟨cc, rfl, rc, hEc⟩
   exact qz ⟨hEc, cc, rfl, evtR.mono (fun _ _ _ => trivial) rc⟩
  ·refine wl_gyes rfl (hk.pe 13 []) ?_
   exact wl_loadA (by decide) ag42 (hk.pi 2) (hat9.ext hER).at_ (wishR.len rd7) qz
  ·refine wl_gyes rfl (hk.pe 13 []) ?_
   have e193 := hk.pe 20 []
   refine Cl_ (xs := [.const (.int .i64 6), .const (.int .i64 1), .const (.int .u8 1), .tmp 193]) (by kernel_rfl) (by simp only [evs, ev, e193]; first | done | rfl) (lrun_ok (a := 6) (s := 1) (b := 1) (by unfold i64; omega) j1 (wishR.mono (S' := fun _ => True) (fun _ _ _ => trivial) (keepE rd7 hER))) ?_
   rintro _ wc ⟨cc, rfl, rc, hEc⟩
   exact qz ⟨hEc, cc, rfl, evtR.mono (fun _ _ _ => trivial) rc⟩
  ·refine wl_gyes rfl (hk.pe 13 []) ?_
   obtain ⟨v188, e188, c188, rfl, r188⟩ := hk.pp 15 []
   obtain ⟨v190, e190, c190, rfl, r190⟩ := hk.pp 17 []
   obtain ⟨v192, e192, c192, rfl, r192⟩ := hk.pp 19 []
   obtain ⟨v194, e194, c194, rfl, r194⟩ := hk.pp 21 []
   refine wl_bsliceR (r := evtR) (S := fun _ => True) (xs := [.tmp 188, .tmp 190, .tmp 192, .tmp 194]) (css := [c188, c190, c192, c194]) (l := [(runE 5 1 1 (wrW 31 1 3 7)), (runE 5 1 1 (wrW 32 1 3 8)), (runE 6 1 1 (wrW 31 1 3 7)), (runE 6 1 1 (wrW 32 1 3 8))]) (by decide) sl24 rfl (by simp only [evs, ev, e188, e190, e192, e194, List.map_cons, List.map_nil]) (rfc r188 (rfc r190 (rfc r192 (rfc r194 (RF.nil _ _ _))))) rfl (by simp) leB_ ?_
   rintro g wc _ gs hEc
   exact qz ⟨hEc, some ⟨g, 0, none⟩, _, rfl, gs.wid (fun _ _ => trivial)⟩
  ·refine wl_gyes rfl (hk.pe 13 []) ?_
   obtain ⟨v195, e195, A195, c195, rfl, r195⟩ := hk.pp 22 []
   refine Cl_ (xs := [.const (.int .i64 0), .const (.int .i64 0), .tmp 195]) (by kernel_rfl) (by simp only [evs, ev, e195]; first | done | rfl) (lfind_yes r195 judgeKnown_ok_f27) ?_
   rintro _ wc ⟨rfl, hEc⟩
   exact qz ⟨hEc, rfl⟩
  ·have ea := hk.pe 13 []
   have eb := hk.pe 23 []
   exact aPt (by decide) ea rfl eb qz
  ·have ea := hk.pe 24 []
   exact dm ea
  ·refine wl_gyes rfl (hk.pe 25 []) ?_
   exact wl_loadA (by decide) ag42 (hk.pi 1) (hat10.ext hER).at_ (wishR.len rd6) qz
  ·refine wl_gyes rfl (hk.pe 25 []) ?_
   have e199 := hk.pe 26 []
   refine Cl_ (xs := [.const (.int .i64 5), .const (.int .i64 1), .const (.int .u8 1), .tmp 199]) (by kernel_rfl) (by simp only [evs, ev, e199]; first | done | rfl) (lrun_ok (a := 5) (s := 1) (b := 1) (by unfold i64; omega) j1 (wishR.mono (S' := fun _ => True) (fun _ _ _ => trivial) (keepE rd6 hER))) ?_
   rintro _ wc ⟨cc, rfl, rc, hEc⟩
   exact qz ⟨hEc, cc, rfl, evtR.mono (fun _ _ _ => trivial) rc⟩
  ·refine wl_gyes rfl (hk.pe 25 []) ?_
   exact wl_loadA (by decide) ag42 (hk.pi 2) (hat9.ext hER).at_ (wishR.len rd7) qz
  ·refine wl_gyes rfl (hk.pe 25 []) ?_
   have e201 := hk.pe 28 []
   refine Cl_ (xs := [.const (.int .i64 5), .const (.int .i64 1), .const (.int .u8 1), .tmp 201]) (by kernel_rfl) (by simp only [evs, ev, e201]; first | done | rfl) (lrun_ok (a := 5) (s := 1) (b := 1) (by unfold i64; omega) j1 (wishR.mono (S' := fun _ => True) (fun _ _ _ => trivial) (keepE rd7 hER))) ?_
   rintro _ wc ⟨cc, rfl, rc, hEc⟩
   exact qz ⟨hEc, cc, rfl, evtR.mono (fun _ _ _ => trivial) rc⟩
  ·refine wl_gyes rfl (hk.pe 25 []) ?_
   exact wl_loadA (by decide) ag42 (hk.pi 1) (hat10.ext hER).at_ (wishR.len rd6) qz
  ·refine wl_gyes rfl (hk.pe 25 []) ?_
   have e203 := hk.pe 30 []
   refine Cl_ (xs := [.const (.int .i64 6), .const (.int .i64 1), .const (.int .u8 1), .tmp 203]) (by kernel_rfl) (by simp only [evs, ev, e203]; first | done | rfl) (lrun_ok (a := 6) (s := 1) (b := 1) (by unfold i64; omega) j1 (wishR.mono (S' := fun _ => True) (fun _ _ _ => trivial) (keepE rd6 hER))) ?_
   rintro _ wc ⟨cc, rfl, rc, hEc⟩
   exact qz ⟨hEc, cc, rfl, evtR.mono (fun _ _ _ => trivial) rc⟩
  ·refine wl_gyes rfl (hk.pe 25 []) ?_
   exact wl_loadA (by decide) ag42 (hk.pi 1) (hat10.ext hER).at_ (wishR.len rd6) qz
  ·refine wl_gyes rfl (hk.pe 25 []) ?_
   have e205 := hk.pe 32 []
   refine Cl_ (xs := [.const (.int .i64 6), .const (.int .i64 1), .const (.int .u8 1), .tmp 205]) (by kernel_rfl) (by simp only [evs, ev, e205]; first | done | rfl) (lrun_ok (a := 6) (s := 1) (b := 1) (by unfold i64; omega) j1 (wishR.mono (S' := fun _ => True) (fun _ _ _ => trivial) (keepE rd6 hER))) ?_
   rintro _ wc ⟨cc, rfl, rc, hEc⟩
   exact qz ⟨hEc, cc, rfl, evtR.mono (fun _ _ _ => trivial) rc⟩
  ·refine wl_gyes rfl (hk.pe 25 []) ?_
   obtain ⟨v200, e200, c200, rfl, r200⟩ := hk.pp 27 []
   obtain ⟨v202, e202, c202, rfl, r202⟩ := hk.pp 29 []
   obtain ⟨v204, e204, c204, rfl, r204⟩ := hk.pp 31 []
   obtain ⟨v206, e206, c206, rfl, r206⟩ := hk.pp 33 []
   refine wl_bsliceR (r := evtR) (S := fun _ => True) (xs := [.tmp 200, .tmp 202, .tmp 204, .tmp 206]) (css := [c200, c202, c204, c206]) (l := [(runE 5 1 1 (wrW 31 1 3 7)), (runE 5 1 1 (wrW 32 1 3 8)), (runE 6 1 1 (wrW 31 1 3 7)), (runE 6 1 1 (wrW 31 1 3 7))]) (by decide) sl24 rfl (by simp only [evs, ev, e200, e202, e204, e206, List.map_cons, List.map_nil]) (rfc r200 (rfc r202 (rfc r204 (rfc r206 (RF.nil _ _ _))))) rfl (by simp) leB_ ?_
   rintro g wc _ gs hEc
   exact qz ⟨hEc, some ⟨g, 0, none⟩, _, rfl, gs.wid (fun _ _ => trivial)⟩
  ·refine wl_gyes rfl (hk.pe 25 []) ?_
   obtain ⟨v207, e207, A207, c207, rfl, r207⟩ := hk.pp 34 []
   refine Cl_ (xs := [.const (.int .i64 5), .const (.int .i64 3), .tmp 207]) (by kernel_rfl) (by simp only [evs, ev, e207]; first | done | rfl) (lfind_yes r207 judgeKnown_ok_f28) ?_
   rintro _ wc ⟨rfl, hEc⟩
   exact qz ⟨hEc, rfl⟩
  ·have ea := hk.pe 25 []
   have eb := hk.pe 35 []
   exact aPt (by decide) ea rfl eb qz
  ·have ea := hk.pe 36 []
   exact dm ea
  ·refine wl_gyes rfl (hk.pe 37 []) ?_
   exact wl_loadA (by decide) ag42 (hk.pi 1) (hat10.ext hER).at_ (wishR.len rd6) qz
  ·refine wl_gyes rfl (hk.pe 37 []) ?_
   have e211 := hk.pe 38 []
   refine Cl_ (xs := [.const (.int .i64 5), .const (.int .i64 1), .const (.int .u8 1), .tmp 211]) (by kernel_rfl) (by simp only [evs, ev, e211]; first | done | rfl) (lrun_ok (a := 5) (s := 1) (b := 1) (by unfold i64; omega) j1 (wishR.mono (S' := fun _ => True) (fun _ _ _ => trivial) (keepE rd6 hER))) ?_
   rintro _ wc ⟨cc, rfl, rc, hEc⟩
   exact qz ⟨hEc, cc, rfl, evtR.mono (fun _ _ _ => trivial) rc⟩
  ·refine wl_gyes rfl (hk.pe 37 []) ?_
   exact wl_loadA (by decide) ag46 (hk.pi 6) (hat33.ext hER).at_ (evtR.len rd29) qz
  ·refine wl_gyes rfl (hk.pe 37 []) ?_
   exact wl_loadA (by decide) ag46 (hk.pi 7) (hat32.ext hER).at_ (evtR.len rd30) qz
  ·refine wl_gyes rfl (hk.pe 37 []) ?_
   exact wl_loadA (by decide) ag42 (hk.pi 1) (hat10.ext hER).at_ (wishR.len rd6) qz
  ·refine wl_gyes rfl (hk.pe 37 []) ?_
   have e215 := hk.pe 42 []
   refine Cl_ (xs := [.const (.int .i64 5), .const (.int .i64 1), .const (.int .u8 1), .tmp 215]) (by kernel_rfl) (by simp only [evs, ev, e215]; first | done | rfl) (lrun_ok (a := 5) (s := 1) (b := 1) (by unfold i64; omega) j1 (wishR.mono (S' := fun _ => True) (fun _ _ _ => trivial) (keepE rd6 hER))) ?_
   rintro _ wc ⟨cc, rfl, rc, hEc⟩
   exact qz ⟨hEc, cc, rfl, evtR.mono (fun _ _ _ => trivial) rc⟩
  ·refine wl_gyes rfl (hk.pe 37 []) ?_
   exact wl_loadA (by decide) ag42 (hk.pi 1) (hat10.ext hER).at_ (wishR.len rd6) qz
  ·refine wl_gyes rfl (hk.pe 37 []) ?_
   have e217 := hk.pe 44 []
   refine Cl_ (xs := [.const (.int .i64 6), .const (.int .i64 1), .const (.int .u8 1), .tmp 217]) (by kernel_rfl) (by simp only [evs, ev, e217]; first | done | rfl) (lrun_ok (a := 6) (s := 1) (b := 1) (by unfold i64; omega) j1 (wishR.mono (S' := fun _ => True) (fun _ _ _ => trivial) (keepE rd6 hER))) ?_
   rintro _ wc ⟨cc, rfl, rc, hEc⟩
   exact qz ⟨hEc, cc, rfl, evtR.mono (fun _ _ _ => trivial) rc⟩
  ·refine wl_gyes rfl (hk.pe 37 []) ?_
   exact wl_loadA (by decide) ag42 (hk.pi 2) (hat9.ext hER).at_ (wishR.len rd7) qz
  ·refine wl_gyes rfl (hk.pe 37 []) ?_
   have e219 := hk.pe 46 []
   refine Cl_ (xs := [.const (.int .i64 5), .const (.int .i64 1), .const (.int .u8 1), .tmp 219]) (by kernel_rfl) (by simp only [evs, ev, e219]; first | done | rfl) (lrun_ok (a := 5) (s := 1) (b := 1) (by unfold i64; omega) j1 (wishR.mono (S' := fun _ => True) (fun _ _ _ => trivial) (keepE rd7 hER))) ?_
   rintro _ wc ⟨cc, rfl, rc, hEc⟩
   exact qz ⟨hEc, cc, rfl, evtR.mono (fun _ _ _ => trivial) rc⟩
  ·refine wl_gyes rfl (hk.pe 37 []) ?_
   exact wl_loadA (by decide) ag42 (hk.pi 2) (hat9.ext hER).at_ (wishR.len rd7) qz
  ·refine wl_gyes rfl (hk.pe 37 []) ?_
   have e221 := hk.pe 48 []
   refine Cl_ (xs := [.const (.int .i64 6), .const (.int .i64 1), .const (.int .u8 1), .tmp 221]) (by kernel_rfl) (by simp only [evs, ev, e221]; first | done | rfl) (lrun_ok (a := 6) (s := 1) (b := 1) (by unfold i64; omega) j1 (wishR.mono (S' := fun _ => True) (fun _ _ _ => trivial) (keepE rd7 hER))) ?_
   rintro _ wc ⟨cc, rfl, rc, hEc⟩
   exact qz ⟨hEc, cc, rfl, evtR.mono (fun _ _ _ => trivial) rc⟩
  ·refine wl_gyes rfl (hk.pe 37 []) ?_
   obtain ⟨v212, e212, c212, rfl, r212⟩ := hk.pp 39 []
   have e213 := hk.pe 40 []
   have e214 := hk.pe 41 []
   obtain ⟨v216, e216, c216, rfl, r216⟩ := hk.pp 43 []
   obtain ⟨v218, e218, c218, rfl, r218⟩ := hk.pp 45 []
   obtain ⟨v220, e220, c220, rfl, r220⟩ := hk.pp 47 []
   obtain ⟨v222, e222, c222, rfl, r222⟩ := hk.pp 49 []
   refine wl_bsliceR (r := evtR) (S := fun _ => True) (xs := [.tmp 212, .tmp 213, .tmp 214, .tmp 216, .tmp 218, .tmp 220, .tmp 222]) (css := [c212, q33, q32, c216, c218, c220, c222]) (l := [(runE 5 1 1 (wrW 31 1 3 7)), (nodeE 8 5 0 0 0), (nodeE 9 5 0 0 0), (runE 5 1 1 (wrW 31 1 3 7)), (runE 6 1 1 (wrW 31 1 3 7)), (runE 5 1 1 (wrW 32 1 3 8)), (runE 6 1 1 (wrW 32 1 3 8))]) (by decide) sl24 rfl (by simp only [evs, ev, e212, e213, e214, e216, e218, e220, e222, List.map_cons, List.map_nil]) (rfc r212 (rfc (evtR.mono (fun _ _ _ => trivial) (keepE rd29 hER)) (rfc (evtR.mono (fun _ _ _ => trivial) (keepE rd30 hER)) (rfc r216 (rfc r218 (rfc r220 (rfc r222 (RF.nil _ _ _)))))))) rfl (by simp) leB_ ?_
   rintro g wc _ gs hEc
   exact qz ⟨hEc, some ⟨g, 0, none⟩, _, rfl, gs.wid (fun _ _ => trivial)⟩
  ·refine wl_gyes rfl (hk.pe 37 []) ?_
   obtain ⟨v223, e223, A223, c223, rfl, r223⟩ := hk.pp 50 []
   refine Cl_ (xs := [.const (.int .i64 0), .const (.int .i64 0), .tmp 223]) (by kernel_rfl) (by simp only [evs, ev, e223]; first | done | rfl) (lfind_yes r223 judgeKnown_ok_f29) ?_
   rintro _ wc ⟨rfl, hEc⟩
   exact qz ⟨hEc, rfl⟩
  ·have ea := hk.pe 37 []
   have eb := hk.pe 51 []
   exact aPt (by decide) ea rfl eb qz
  ·have ea := hk.pe 52 []
   exact wl_assign (by decide) ea qz
 intro F w101 E102 hini hdo
 have e16 := dq hdo 53
 refine wk_drop [(2, pt g5 0), (1, pt g4 0), (3, pt ga11 0), (4, pt gb11 0), (7, pt g28 0), (6, pt g27 0), (5, pt g20 0), (11, pt g42 0), (10, pt g41 0), (13, pt g87 0), (15, pt g95 0), (0, .bool false), (8, .bool true), (9, .bool true), (12, .bool true), (14, .bool true), (16, .bool true)] ⟨di hini 2, di hini 1, di hini 3, di hini 4, di hini 7, di hini 6, di hini 5, di hini 11, di hini 10, di hini 13, di hini 15, di hini 0, di hini 8, di hini 9, di hini 12, di hini 14, e16, trivial⟩ ?_
 clear hini hdo e16
 replace hp := hp.ext E102
 replace hat9 := hat9.ext E102
 replace rd7 := keepE rd7 E102
 replace hat10 := hat10.ext E102
 replace rd6 := keepE rd6 E102
 replace hat17 := hat17.ext E102
 replace rc11a := keepE rc11a E102
 replace hat18 := hat18.ext E102
 replace rc11b := keepE rc11b E102
 replace hat32 := hat32.ext E102
 replace rd30 := keepE rd30 E102
 replace hat33 := hat33.ext E102
 replace rd29 := keepE rd29 E102
 replace hat34 := hat34.ext E102
 replace rd21 := keepE rd21 E102
 replace hat48 := hat48.ext E102
 replace rd44 := keepE rd44 E102
 replace hat49 := hat49.ext E102
 replace rd43 := keepE rd43 E102
 replace hat90 := hat90.ext E102
 replace rd88 := keepE rd88 E102
 replace hat100 := hat100.ext E102
 replace rd96 := keepE rd96 E102
 refine so ?_
 refine Ce (works_ok) ?_
 rintro _ w104 ⟨rfl, E104⟩
 replace hp := hp.ext E104
 refine so ?_
 refine Ce (epochs_ok) ?_
 rintro _ w122 ⟨rfl, E122⟩
 replace hp := hp.ext E122
 refine so ?_
 refine Ce (clients_ok) ?_
 rintro _ w125 ⟨rfl, E125⟩
 replace hp := hp.ext E125
 refine so ?_
 refine Ce (limits_ok) ?_
 rintro _ w128 ⟨rfl, E128⟩
 replace hp := hp.ext E128
 have z131 : Frz F100 F100 w101 w128 := mv
 replace hat9 := hat9.to z131
 replace rd7 := rdTo rd7 z131
 replace hat10 := hat10.to z131
 replace rd6 := rdTo rd6 z131
 replace hat17 := hat17.to z131
 replace rc11a := rdTo rc11a z131
 replace hat18 := hat18.to z131
 replace rc11b := rdTo rc11b z131
 replace hat32 := hat32.to z131
 replace rd30 := rdTo rd30 z131
 replace hat33 := hat33.to z131
 replace rd29 := rdTo rd29 z131
 replace hat34 := hat34.to z131
 replace rd21 := rdTo rd21 z131
 replace hat48 := hat48.to z131
 replace rd44 := rdTo rd44 z131
 replace hat49 := hat49.to z131
 replace rd43 := rdTo rd43 z131
 replace hat90 := hat90.to z131
 replace rd88 := rdTo rd88 z131
 replace hat100 := hat100.to z131
 replace rd96 := rdTo rd96 z131
 refine so ?_
 exact Pt ⟨_, rfl, rfl, hp.chg⟩
end Go.Proofs.Ytgheaedligkhoaa
