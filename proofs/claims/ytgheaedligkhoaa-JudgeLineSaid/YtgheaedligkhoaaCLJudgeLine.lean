/- JudgeLine is true: what the program answers is what the statement says, for every argument (no further condition). -/
import Derived.Test.YtgheaedligkhoaaCaa
import Derived.Test.YtgheaedligkhoaaAaa
import Derived.Test.YtgheaedligkhoaaAab
import Derived.Test.YtgheaedligkhoaaAac
import Derived.Test.YtgheaedligkhoaaAad
import Derived.Test.YtgheaedligkhoaaAah
import Derived.Test.YtgheaedligkhoaaAam
import Derived.Test.YtgheaedligkhoaaAar
import Derived.Test.YtgheaedligkhoaaAav
import Derived.Test.YtgheaedligkhoaaCab
import Derived.Test.YtgheaedligkhoaaCac
import Derived.Test.YtgheaedligkhoaaCad
namespace Go.Proofs.Ytgheaedligkhoaa
open Go.RowKit Go.Eng _root_.Go.Proofs.Try
set_option maxRecDepth 100000
variable {w0 w : World} {M0 Fz : Nat → Prop} {H : List It} {A : Option Addr} {c : Nat}
set_option maxHeartbeats 16000000 in
theorem judgeLine_ok {w : World} {S : Nat → Prop} {l : List Int} {A : Option Addr} {c : Nat} (hl : GS intR S w A c l) (hI : ∀ x ∈ l, i64 x) : Ret prog 7 #[.slice A l.length c] w (fun v w' => v = .bool true ∧ Ext w w') := by
 refine ret_of_wk func7 rfl ntmps7 leB_ ?_
 have hp := HP.begin_ w
 have hmx := hl.mx
 have hlF := hl.now
 generalize hF0 : (fun b => b < w.heap.size) = F0 at hp hlF
 refine so ?_
 refine Ce works_ok ?_
 rintro _ w1 ⟨rfl, E1⟩
 replace hp := hp.ext E1
 refine so ?_
 refine aF (so ?_)
 refine Ce (lwrite_ok (c := 31) (t := 1) (bl := 2) (b := 9) (by unfold i64; omega) j1 j2) ?_
 rintro _ w2 ⟨_, rfl, ⟨hI3, A3, c3, B3, d3, rfl, x3, y3⟩, E2⟩
 obtain ⟨F2, hp, s2, n2, _⟩ := hp.frz E2
 replace x3 := x3.mono (fun b hb h => n2 b h hb)
 replace y3 := y3.mono (fun b hb h => n2 b h hb)
 have f2 : Frz F0 F2 w w2 := mv
 refine so ?_
 refine Alo hp (h := fun g3 w3 hp E3 => so ?_)
 refine Hs 0 hp (h := fun w4 hp C4 => ?_)
 replace hp := hp.as_ (H' := itB g3 42 (wsC lnW A3 c3 B3 d3) :: []) rfl
 have f4 : Frz F2 F2 w2 w4 := mv
 have hw : wishR.rd F2 w4 (wsC lnW A3 c3 B3 d3) lnW := ⟨hI3, A3, c3, B3, d3, rfl, x3.to f4, y3.to f4⟩
 have hlF4 := hlF.to (Frz.bF f4 f2)
 clear hlF f4
 refine so ?_
 refine wdT 5 [.eq (.agg (wsC lnW A3 c3 B3 d3).toArray), .rd evtR F2 (callE lnW), .eq (.agg (wsC lnW A3 c3 B3 d3).toArray), .rd evtR F2 (runE 5 1 1 lnW), SP.ownL evtR F2 46 w4.heap.size [callE lnW, runE 5 1 1 lnW]] ?_ ?_
 ·refine ⟨?_, ?_, ?_, ?_, ?_, trivial⟩ <;> intro F wF hER hk
  ·exact wl_hloadX _ (i := 0) (by decide) ag42 (hk.qi 3) (hp.ext hER) rfl rfl rfl qz
  ·have ea := hk.qe 0
   refine Cl_ (xs := [.tmp 13]) (by kernel_rfl) (by simp only [evs, ev, ea]) (lcall_ok (keepE hw hER)) ?_
   rintro _ wc ⟨cc, rfl, rc, hEc⟩
   exact qz ⟨hEc, cc, rfl, rc⟩
  ·exact wl_hloadX _ (i := 0) (by decide) ag42 (hk.qi 3) (hp.ext hER) rfl rfl rfl qz
  ·have ea := hk.qe 2
   refine Cl_ (xs := [.const (.int .i64 5), .const (.int .i64 1), .const (.int .u8 1), .tmp 15]) (by kernel_rfl) (by simp only [evs, ev, ea]; first | done | rfl) (lrun_ok (a := 5) (s := 1) (b := 1) (by unfold i64; omega) j1 (keepE hw hER)) ?_
   rintro _ wc ⟨cc, rfl, rc, hEc⟩
   exact qz ⟨hEc, cc, rfl, rc⟩
  ·obtain ⟨v14, e14, c14, rfl, r14⟩ := hk.qp 1
   obtain ⟨v16, e16, c16, rfl, r16⟩ := hk.qp 3
   refine wl_bslice (size := 53) (xs := [.tmp 14, .tmp 16]) (vs := [.agg c14.toArray, .agg c16.toArray]) (by decide) sl24 rfl (by simp only [evs, ev, e14, e16]; first | done | rfl) rfl (by intro v hv; simp only [List.mem_cons, List.not_mem_nil, or_false] at hv; rcases hv with rfl | rfl; exact evtR.len r14; exact evtR.len r16) leB_ w4.heap.size hER.size ?_
   rintro gt wt hgt hot hEt
   exact qz ⟨hEt, gt, [c14, c16], rfl, by rw [hgt]; exact hER.size, hot, row2 (keepE r14 hEt) (keepE r16 hEt)⟩
 intro F wD hED hini hdo
 obtain ⟨u17, e17, g4, rows4, rfl, hg4, ho4, hR4⟩ := hdo 4 17 (Nat.lt_of_lt_of_eq (by decide) rfl) rfl
 refine wl_drop [(0, _), (17, _)] ⟨di hini 0, e17, trivial⟩ ?_
 clear hini hdo e17
 have f5 : Frz F2 F2 w4 wD := ⟨hED.weak (fun _ _ x => x.elim), fun _ h => h⟩
 replace hp := (hp.add hED (x := itR 46 53 (some ⟨g4, 0, none⟩) 2 2 rows4.flatten) (K := fun b => (2 : Nat) ≠ 0 ∧ blk (some ⟨g4, 0, none⟩) b) ⟨ho4.lower (Nat.zero_le _), fun _ => Iff.rfl⟩ (fun b hb => by
  obtain ⟨_, a, ha, rfl⟩ := hb
  cases ha
  exact hg4))
 have hR5 := hR4
 have hlF5 := hlF4.to f5
 clear hw hlF4 hR4 x3 y3
 have hFw : F2 = F2 := rfl
 refine so ?_
 refine Lp [0, 4, 5, 6, 7] (fun L' w' mes => ∃ (bs : List Bool) (F : Nat → Prop) (A4 : Option Addr) (c4 : Nat) (rows : List (List Value)), L' = [(0, .slice A l.length c), (4, .slice A4 (lnAll bs).length c4), (5, .bool (bs.any id)), (6, iv (match lnF 0 false bs with | some n => (n : Int) | none => -1)), (7, iv (bs.length : Int))] ∧ bs.length ≤ l.length ∧ bs.length ≤ 8 ∧ (∃ H, HP w (fun _ => False) F w' (itR 46 53 A4 (lnAll bs).length c4 rows.flatten :: H)) ∧ RF evtR F w' rows (lnAll bs) ∧ GS intR F w' A c l ∧ mes = l.length - bs.length) (l.length - 0) ⟨[], F2, some ⟨g4, 0, none⟩, 2, rows4, rfl, Nat.zero_le _, Nat.zero_le _, ⟨_, hp⟩, hR5, hlF5, rfl⟩ ?_
 clear hp hR5 hlF5
 rintro _ wr _ ⟨bs, F, A4, c4, rows, rfl, hj, h8, ⟨H, hp⟩, hR, hlF, rfl⟩ KL hKL
 have hln : (lnAll bs).length = 2 + 2 * bs.length := by rw [lnAll, List.length_append, lnS_len]; rfl
 refine sl ?_
 refine wc_seq_cut (fun L' w' => L' = [(0, .slice A l.length c), (4, .slice A4 (lnAll bs).length c4), (5, .bool (bs.any id)), (6, iv (match lnF 0 false bs with | some n => (n : Int) | none => -1)), (7, iv (bs.length : Int))] ∧ wr = w' ∧ bs.length < l.length ∧ bs.length < 8) ?_ ?_
 ·intro K hK
  refine so ?_
  have fin : ¬ (bs.length < l.length ∧ bs.length < 8) → True := fun _ => trivial
  clear fin
  refine Gs 22 ?_ ?_ <;> intro q1 <;> refine so ?_
  ·refine Cd ?_ ?_ <;> intro q2 <;> refine so ?_
   ·exact Kd [0, 4, 5, 6, 7] hK ⟨rfl, rfl, by omega, by omega⟩
   ·have hfin := ln_all h8
    have hgs : GS evtR (fun _ => True) wr A4 c4 (lnAll bs) := OwnRow.gsRF (r := evtR) (hp.rowAt (i := 0) rfl) (hR.wid (fun _ _ => trivial)) (fun _ _ _ => trivial)
    unfold lnE at hfin
    cases hf : lnF 0 false bs with
    | none =>
     rw [hf] at hfin
     refine Cd ?_ ?_ <;> intro q3
     ·exact absurd q3 (by decide)
     refine so ?_
     refine Ce (lfind_yes hgs hfin) ?_
     rintro _ w2 ⟨rfl, E2⟩
     refine so ?_
     exact Pt ⟨_, rfl, rfl, (hp.ext E2).chg⟩
    | some n =>
     rw [hf] at hfin
     refine Cd ?_ ?_ <;> intro q3
     rotate_left
     ·exact absurd (Int.natCast_nonneg n) q3
     refine so ?_
     refine Ce (lfind_yes (r := 11) (a := (n : Int)) hgs hfin) ?_
     rintro _ w2 ⟨rfl, E2⟩
     refine so ?_
     exact Pt ⟨_, rfl, rfl, (hp.ext E2).chg⟩
  ·refine aF (so ?_)
   have hfin := ln_all h8
   have hgs : GS evtR (fun _ => True) wr A4 c4 (lnAll bs) := OwnRow.gsRF (r := evtR) (hp.rowAt (i := 0) rfl) (hR.wid (fun _ _ => trivial)) (fun _ _ _ => trivial)
   unfold lnE at hfin
   cases hf : lnF 0 false bs with
   | none =>
    rw [hf] at hfin
    refine Cd ?_ ?_ <;> intro q3
    ·exact absurd q3 (by decide)
    refine so ?_
    refine Ce (lfind_yes hgs hfin) ?_
    rintro _ w2 ⟨rfl, E2⟩
    refine so ?_
    exact Pt ⟨_, rfl, rfl, (hp.ext E2).chg⟩
   | some n =>
    rw [hf] at hfin
    refine Cd ?_ ?_ <;> intro q3
    rotate_left
    ·exact absurd (Int.natCast_nonneg n) q3
    refine so ?_
    refine Ce (lfind_yes (r := 11) (a := (n : Int)) hgs hfin) ?_
    rintro _ w2 ⟨rfl, E2⟩
    refine so ?_
    exact Pt ⟨_, rfl, rfl, (hp.ext E2).chg⟩
 rintro _ _ ⟨rfl, rfl, hlt, hlt8⟩
 obtain ⟨ax, hAx, hatx⟩ := GS.el1 hlF bs.length hlt
 have hxi : i64 l[bs.length] := hI _ (List.getElem_mem hlt)
 obtain ⟨b, hb⟩ : ∃ b : Bool, bringI l[bs.length] 2 = if b then 1 else 0 := by
  have h2 := Int.emod_nonneg l[bs.length] (by decide : (2 : Int) ≠ 0)
  have h3 := Int.emod_lt_of_pos l[bs.length] (by decide : (0 : Int) < 2)
  rw [bringI, if_neg (by decide)]
  by_cases h : l[bs.length] % 2 = 0
  ·exact ⟨false, by rw [h]; rfl⟩
  ·exact ⟨true, by rw [if_pos rfl]; omega⟩
 generalize l[bs.length] = xi at hatx hxi hb
 refine so ?_
 refine Ce (lbring_ok (n := 2) hxi j2) ?_
 rintro _ w3 ⟨rfl, E3⟩
 rw [hb]
 replace hp := hp.ext E3
 refine so ?_
 refine wl_mul (z := if b then 9 else 0) (by decide) rfl rfl (by cases b <;> rfl) (so ?_)
 refine wl_conv (k1 := .i64) (k2 := .u8) (z := ((lnB b).toNat : Int)) (by decide) (by kernel_rfl) (by kernel_rfl) rfl (by cases b <;> rfl) (so ?_)
 refine Ce (lread_ok (S := F) (c := 32) (t := 1 + (bs.length : Int)) (bl := 2) (by unfold i64; omega) (by unfold i64; omega) j2) ?_
 rintro _ w4 ⟨_, rfl, ⟨hI9, A9, c9, B9, d9, rfl, x9, y9⟩, E4⟩
 replace hp := hp.ext E4
 refine so ?_
 refine Alo hp (h := fun g9 w5 hp E5 => so ?_)
 refine Hs 0 hp (h := fun w6 hp C6 => ?_)
 replace hp := hp.as_ (H' := itB g9 42 (wsC (rdW 32 (1 + (bs.length : Int)) 2) A9 c9 B9 d9) :: itR 46 53 A4 (lnAll bs).length c4 rows.flatten :: H) rfl
 have f6 : Frz F F w4 w6 := mv
 have fr6 : Frz F F wr w6 := mv
 have hwr : wishR.rd (fun b => F b ∨ w6.heap.size ≤ b) w6 (wsC (rdW 32 (1 + (bs.length : Int)) 2) A9 c9 B9 d9) (rdW 32 (1 + (bs.length : Int)) 2) := ⟨hI9, A9, c9, B9, d9, rfl, (x9.to f6).wid (fun _ h => .inl h), (y9.to f6).wid (fun _ h => .inl h)⟩
 generalize hrd : rdW 32 (1 + (bs.length : Int)) 2 = R at hp hwr
 refine so ?_
 refine wdT 9 [.eq (.slice A4 (lnAll bs).length c4), .eq (.agg (wsC R A9 c9 B9 d9).toArray), .rd evtR (fun b => F b ∨ w6.heap.size ≤ b) (callE R), .eq (.agg (wsC R A9 c9 B9 d9).toArray), .eq (bv (lnB b)), .gs byteR (fun b => F b ∨ w6.heap.size ≤ b) (dat (lnB b)), .rd ansR (fun b => F b ∨ w6.heap.size ≤ b) ⟨0, dat (lnB b), 0, []⟩, .rd evtR (fun b => F b ∨ w6.heap.size ≤ b) (doneE R ⟨0, dat (lnB b), 0, []⟩), SP.ownL evtR (fun b => F b ∨ w6.heap.size ≤ b) 46 w6.heap.size [callE R, doneE R ⟨0, dat (lnB b), 0, []⟩]] ?_ ?_
 ·refine ⟨?_, ?_, ?_, ?_, ?_, ?_, ?_, ?_, ?_, trivial⟩ <;> intro F' wF hER hk
  ·exact dm (hk.qi 4)
  ·exact wl_hloadX _ (i := 0) (by decide) ag42 (hk.qi 9) (hp.ext hER) rfl rfl rfl qz
  ·have ea := hk.qe 1
   refine Cl_ (xs := [.tmp 39]) (by kernel_rfl) (by simp only [evs, ev, ea]) (lcall_ok (keepE hwr hER)) ?_
   rintro _ wc ⟨cc, rfl, rc, hEc⟩
   exact qz ⟨hEc, cc, rfl, rc⟩
  ·exact wl_hloadX _ (i := 0) (by decide) ag42 (hk.qi 9) (hp.ext hER) rfl rfl rfl qz
  ·exact dm (hk.qi 8)
  ·have ea := hk.qe 4
   refine Cl_ (xs := [.tmp 42]) (by kernel_rfl) (by simp only [evs, ev, ea]) (ldata_ok (b := lnB b)) ?_
   rintro _ wc ⟨Ad, cd, rfl, rd, hEc⟩
   exact qz ⟨hEc, Ad, cd, rfl, rd.wid (fun b h => .inr (Nat.le_trans hER.size h))⟩
  ·obtain ⟨v43, e43, Ad, cd, rfl, rd⟩ := hk.qp 5
   refine wl_builtS (ps := [(1, .tmp 43)]) (by decide) bld44 (by simp only [evp, ev, e43]; first | done | rfl) rfl ?_
   exact qz ⟨Chg.refl _ _, _, (rfl : _ = Value.agg (anC ⟨0, dat (lnB b), 0, []⟩ Ad cd none 0).toArray), ansD_rd rd⟩
  ·have ea := hk.qe 3
   obtain ⟨v44, e44, c44, rfl, r44⟩ := hk.qp 6
   refine Cl_ (xs := [.tmp 41, .tmp 44]) (by kernel_rfl) (by simp only [evs, ev, ea, e44]) (ldone_ok (keepE hwr hER) r44) ?_
   rintro _ wc ⟨cc, rfl, rc, hEc⟩
   exact qz ⟨hEc, cc, rfl, rc⟩
  ·obtain ⟨v14, e14, c14, rfl, r14⟩ := hk.qp 2
   obtain ⟨v16, e16, c16, rfl, r16⟩ := hk.qp 7
   refine wl_bslice (size := 53) (xs := [.tmp 40, .tmp 45]) (vs := [.agg c14.toArray, .agg c16.toArray]) (by decide) sl24 rfl (by simp only [evs, ev, e14, e16]; first | done | rfl) rfl (by intro v hv; simp only [List.mem_cons, List.not_mem_nil, or_false] at hv; rcases hv with rfl | rfl; exact evtR.len r14; exact evtR.len r16) leB_ w6.heap.size hER.size ?_
   rintro gt wt hgt hot hEt
   exact qz ⟨hEt, gt, [c14, c16], rfl, by rw [hgt]; exact hER.size, hot, row2 (keepE r14 hEt) (keepE r16 hEt)⟩
 intro F' wD hED hini hdo
 obtain ⟨u46, e46, g46, rows2, rfl, hg46, ho46, hR46⟩ := hdo 8 46 (Nat.lt_of_lt_of_eq (by decide) rfl) rfl
 have e38 := dr hdo 0
 refine wl_drop [(0, _), (5, _), (6, _), (7, _), (8, _), (38, _), (46, _)] ⟨di hini 0, di hini 5, di hini 6, di hini 7, di hini 8, e38, e46, trivial⟩ ?_
 clear hini hdo e46 e38
 obtain ⟨F7, hp, s7, n7, _⟩ := hp.frz hED
 have f7 : Frz F F7 w6 wD := ⟨hED.weak (fun _ _ x => x.elim), s7⟩
 have hR7 := hR46.wid (Fz' := fun b => F b ∨ w6.heap.size ≤ b) (fun _ h => h)
 have hRn : RF evtR F7 wD rows2 [callE R, doneE R ⟨0, dat (lnB b), 0, []⟩] := ⟨hR46.1, fun i hi => (hR46.2 i hi).imp (fun cs h => ⟨h.1, evtR.mono (fun b hb h => h.elim (s7 b) (fun h => n7 b h hb)) h.2⟩)⟩
 clear hR7
 have hat46 := ho46.at0
 refine wl_happend (i := 1) (m := 2) (size := 53) (news := rows2.flatten) (by decide) sl24 rfl rfl hp rfl (by rw [hRn.flen]; rfl) (fun b hb => by cases hb; exact hat46) (by simp) (RF.oneC hRn) (by omega) ?_
 rintro A10 c10 w10 hp C10
 have fe : Frz F7 F7 wD w10 := mv
 have frA : Frz F F7 wr w10 := Frz.bF fe (Frz.bF f7 fr6)
 have hR10 : RF evtR F7 w10 (rows ++ rows2) (lnAll (bs ++ [b])) := by
  have e1 : lnAll (bs ++ [b]) = lnAll bs ++ [callE R, doneE R ⟨0, dat (lnB b), 0, []⟩] := by rw [lnAll, lnS_snoc, ← List.append_assoc, Nat.zero_add, lnP, hrd]; rfl
  rw [e1]
  exact (hR.to frA).append (hRn.to fe)
 have hl10 : (lnAll (bs ++ [b])).length = (lnAll bs).length + 2 := by rw [lnAll, lnS_snoc, ← List.append_assoc, List.length_append]; rfl
 have hp10 : HP w (fun _ => False) F7 w10 (itR 46 53 A10 (lnAll (bs ++ [b])).length c10 (rows ++ rows2).flatten :: H) := by
  rw [hl10, List.flatten_append]
  exact hp.tail
 have hlF10 := hlF.to frA
 have hsn := lnF_snoc bs b false 0
 have han : (bs ++ [b]).any id = (bs.any id || b) := by rw [List.any_append]; simp
 have hbl : (bs ++ [b]).length = bs.length + 1 := by simp
 rw [Bool.false_or, Nat.zero_add] at hsn
 have nx : ∀ (v5 : Bool) (v6 : Int), v5 = (bs ++ [b]).any id → v6 = (match lnF 0 false (bs ++ [b]) with | some n => (n : Int) | none => -1) → WK 72 KL [(0, .slice A l.length c), (4, .slice A10 (lnAll (bs ++ [b])).length c10), (5, .bool v5), (6, iv v6), (7, iv ((bs.length : Int) + 1))] w10 := fun v5 v6 e5 e6 => by
  subst e5 e6
  exact Kl [0, 4, 5, 6, 7] hKL (l.length - (bs ++ [b]).length) ⟨bs ++ [b], F7, A10, c10, rows ++ rows2, by rw [show (((bs ++ [b]).length : Nat) : Int) = (bs.length : Int) + 1 from by rw [hbl]; rfl]; rfl, by omega, by omega, ⟨H, hp10⟩, hR10, hlF10, rfl⟩ (by omega)
 clear hp hp10 hR10 hlF10 hR hKL hRn hR46 ho46 hat46
 refine so ?_
 rw [show (lnAll bs).length + 2 = (lnAll (bs ++ [b])).length from hl10.symm]
 rw [han] at nx
 generalize bs.any id = sn at hsn nx
 generalize hfo : lnF 0 false bs = fo at hsn
 have hnum : (((lnAll (bs ++ [b])).length : Nat) : Int) - 1 = ((3 + 2 * bs.length : Nat) : Int) := by omega
 rw [hsn] at nx
 generalize lnAll (bs ++ [b]) = lb at nx hl10 hnum
 clear hsn
 have fin : ∀ {L : List (Nat × Value)} {v5 : Bool} {v6 : Int}, pk L [0, 4, 5, 6, 7] = [(0, .slice A l.length c), (4, .slice A10 lb.length c10), (5, .bool v5), (6, iv v6), (7, iv ((bs.length : Int) + 1))] → ([0, 4, 5, 6, 7].all fun i => (lk L i).isSome) = true → v5 = (sn || b) → v6 = (match (match fo with | some n => some n | none => if (sn && !b) = true then some (3 + 2 * bs.length) else none) with | some n => (n : Int) | none => -1) → WK 72 KL L w10 := fun h1 h2 h3 h4 => wk_drop _ (by rw [← h1]; exact pk_sub h2) (nx _ _ h3 h4)
 clear nx
 cases fo <;> cases sn <;> cases b
 ·refine so ?_
  refine aF (so ?_)
  exact fin rfl rfl rfl rfl
 ·refine so ?_
  refine aF (so ?_)
  exact fin rfl rfl rfl rfl
 ·refine so ?_
  refine aT (so ?_)
  exact fin rfl rfl rfl hnum
 ·refine so ?_
  refine aF (so ?_)
  exact fin rfl rfl rfl rfl
 ·refine so ?_
  refine aF (so ?_)
  exact fin rfl rfl rfl rfl
 ·refine so ?_
  refine aF (so ?_)
  exact fin rfl rfl rfl rfl
 ·refine so ?_
  refine aF (so ?_)
  exact fin rfl rfl rfl rfl
 ·refine so ?_
  refine aF (so ?_)
  exact fin rfl rfl rfl rfl
end Go.Proofs.Ytgheaedligkhoaa
namespace Go.Proofs.Ytgheaedligkhoaa
open Go.ChangeShapes Go.WideShapes Go.ChangeAt Go.RowKit Go.Eng Go.Eng _root_.Go.Proofs.Try
set_option maxRecDepth 100000
variable {w0 w : World} {M0 Fz : Nat → Prop} {H : List It} {A : Option Addr} {c : Nat}
set_option maxRecDepth 100000 in
theorem judgeLine_lifted (os : Os) (started : os.Started) (H : Type) (enc : TypeId × Value → H) :
  ReturnsInHanded {} Try.checked os 7 .any (Rows.judgeLineSpec.pre6 enc Try.prog Try.f7 Rows.judgeLineRow.domain false) (Rows.judgeLineSpec.post enc Try.prog Try.f7 false true false false) := by
 refine law_lifted (C := Try.checked) Try.own started (by kernel_rfl) Try.func7
  (ChangeSpec.witness6 (enc := enc) (C := Try.checked) false ⟨#[], #[.slice none 0 0], []⟩ 8 (by kernel_rfl) (by kernel_rfl) (by kernel_rfl) (by kernel_rfl))
  Try.laidOut (by kernel_rfl) rfl rfl Try.underlying4 ?_ ?_
 ·intro ds hq
  obtain ⟨d0, t0, e0, q0⟩ := spec_len (show ds.length = 1 from hq)
  have en := List.eq_nil_of_length_eq_zero (show t0.length = 0 from q0)
  subst en
  subst e0
  rfl
 ·intro W base args ds h
  obtain ⟨l⟩ := args
  rw [Try.params7] at h
  obtain ⟨v0, l0, d0, ds0, rfl, h0, h⟩ := args_cons h
  obtain rfl := args_nil h
  clear h
  obtain ⟨A0, c0, l0, rfl, he0, hg0, hb0⟩ := arg_slice Try.underlying33 (reads_slice (size := 1) (bytes := 8) Try.underlying33 rfl (by decide) (by kernel_rfl) (by kernel_rfl) (by decide) (reads_int Try.underlying3)) h0
  exact judgeLine_ok he0 hg0
theorem judgeLine_holds : Rows.JudgeLineSaid :=
 OpenClaim.holds_of_wide 7 Try.f7 rfl rfl rfl rfl rfl rfl rfl ⟨rfl, rfl, rfl, rfl, rfl⟩ rfl rfl rfl rfl rfl (by kernel_rfl) Try.func7 (by kernel_rfl)
  (of_decide_eq_true (by kernel_rfl)) (by unfold Func.isWrapper; first | (rw [if_pos (by decide +kernel)]; kernel_rfl) | (rw [if_neg (by decide +kernel)]; exact ⟨rfl, rfl⟩))
  (fun os started H enc _ => judgeLine_lifted os started H enc)
end Go.Proofs.Ytgheaedligkhoaa
