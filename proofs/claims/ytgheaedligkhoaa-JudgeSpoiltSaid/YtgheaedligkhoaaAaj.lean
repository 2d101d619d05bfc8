/- What each of these functions computes, for every argument that its theorem names; a part of what the proof of JudgeFinds stands on. -/
import Derived.Test.YtgheaedligkhoaaAab
import Derived.Test.YtgheaedligkhoaaAac
import Derived.Test.YtgheaedligkhoaaAad
import Derived.Test.YtgheaedligkhoaaAae
import Derived.Test.YtgheaedligkhoaaAah
namespace Go.Proofs.Ytgheaedligkhoaa
open Go.RowKit Go.Eng _root_.Go.Proofs.Try Go.Eng _root_.Go.Proofs.Try
set_option maxRecDepth 100000
variable {w0 w : World} {M0 Fz : Nat → Prop} {H : List It} {A : Option Addr} {c : Nat}
set_option maxHeartbeats 8000000 in
theorem rruns_ok {pk : Addr} {csk : List Value} {k : Lok} {Sk Pk : Nat → Prop} {i : Nat} {n : Int} {w : World} (hatk : AtF Pk w pk csk) (hk : lokR.rd Sk w csk k) (hi : i < k.l.length) (hl : k.l.length ≤ 32768) : Ret prog 86 #[.pointer (some pk), iv i, iv n] w (fun v w' => ∃ A c, v = .slice A (runsE (k.l.getD i evt0) n (k.l.take (i + 1))).length c ∧ GS evtR (fun _ => True) w' A c (runsE (k.l.getD i evt0) n (k.l.take (i + 1))) ∧ Ext w w') := by
 obtain ⟨p, l⟩ := k
 obtain ⟨hIk, Ak, ck, rfl, hl0⟩ := hk
 dsimp only at hi hl hl0 hatk ⊢
 refine ret_of_wk func86 rfl ntmps86 leB_ ?_
 have hp := HP.begin_ w
 have hlF := hl0.now
 have hat := hatk.now
 generalize hF0 : (fun b => b < w.heap.size) = F0 at hp hlF hat
 replace hp := hp.noRow 46 53
 obtain ⟨ai, I0, i0', I1, i1, I2, i2, I3, i3, hAi, hati, hIi, y0, y1, y2, y3⟩ := evtR_el hlF i hi
 subst hAi
 have hAA : (some ai : Option Addr) = some ai := rfl
 generalize hei : l.getD i evt0 = e at hati hIi y0 y1 y2 y3 ⊢
 refine so ?_
 refine Lp [0, 1, 2, 7, 8] (fun L' w' mes => ∃ (j : Nat) (A7 : Option Addr) (c7 : Nat) (rows : List (List Value)), L' = [(0, .pointer (some pk)), (1, iv i), (2, iv n), (7, .slice A7 (runsE e n (l.take j)).length c7), (8, iv (j : Int))] ∧ j ≤ i + 1 ∧ HP w (fun _ => False) F0 w' [itR 46 53 A7 (runsE e n (l.take j)).length c7 rows.flatten] ∧ RF evtR F0 w' rows (runsE e n (l.take j)) ∧ Frz F0 F0 w w' ∧ mes = i + 1 - j) (i + 1 - 0) ⟨0, none, 0, [], rfl, Nat.zero_le _, hp, RF.nil _ _ _, Frz.start _ _, rfl⟩ ?_
 clear hp
 rintro _ wr _ ⟨j, A7, c7, rows, rfl, hj, hp, hR, hF, rfl⟩ KL hKL
 refine so ?_
 refine Cd ?_ ?_ <;> intro hc
 ·have hj9 : j < l.length := by omega
  have hstep := runsE_step (e := e) (n := n) hj9
  have hlen := runsE_len e n (l.take j)
  rw [List.length_take] at hlen
  obtain ⟨ae, A0, c0, A1, c1, A2, c2, A3, c3, hAe, hate, hIe, x0, x1, x2, x3⟩ := evtR_el hlF j hj9
  cases hAe
  generalize hxe : l.getD j evt0 = x at hstep hate hIe x0 x1 x2 x3
  generalize hcur : runsE e n (l.take j) = cur at *
  refine so ?_
  refine Alo hp (h := fun g9 w1 hp E1 => so ?_)
  refine Hs 0 hp (h := fun w2 hp C2 => ?_)
  replace hp := hp.as_ (H' := itB g9 46 (evC x A0 c0 A1 c1 A2 c2 A3 c3) :: itR 46 53 A7 cur.length c7 rows.flatten :: []) rfl
  have f2 : Frz F0 F0 wr w2 := mv
  refine sl ?_
  refine wc_seq_cut (fun L' w' => ∃ (A7' : Option Addr) (c7' : Nat) (rows' : List (List Value)) (o' : List Evt), o' = (if x.a = n ∧ x.kind = 9 then [] else cur) ∧ L' = [(0, .pointer (some pk)), (1, iv i), (2, iv n), (7, .slice A7' o'.length c7'), (8, iv (j : Int)), (9, pt g9 0)] ∧ HP w (fun _ => False) F0 w' (itB g9 46 (evC x A0 c0 A1 c1 A2 c2 A3 c3) :: itR 46 53 A7' o'.length c7' rows'.flatten :: []) ∧ RF evtR F0 w' rows' o' ∧ w2 = w') ?_ ?_
  ·intro K hK
   refine so ?_
   refine Gs 26 ?_ ?_ <;> intro k1 <;> refine so ?_
   ·refine Cd ?_ ?_ <;> intro k2 <;> refine so ?_
    ·exact Kd [0, 1, 2, 7, 8, 9] hK ⟨none, 0, [], [], (if_pos ⟨k1, k2⟩).symm, rfl, (((hp.swp).tail).noRow 46 53).swp, RF.nil _ _ _, rfl⟩
    ·exact Kd [0, 1, 2, 7, 8, 9] hK ⟨A7, c7, rows, cur, (if_neg (fun h => k2 h.2)).symm, rfl, hp, hR.to f2, rfl⟩
   ·refine aF (so ?_)
    exact Kd [0, 1, 2, 7, 8, 9] hK ⟨A7, c7, rows, cur, (if_neg (fun h => k1 h.1)).symm, rfl, hp, hR.to f2, rfl⟩
  clear hp hR
  rintro _ _ ⟨A7', c7', rows', o', ho', rfl, hp, hR, rfl⟩
  refine so ?_
  have f3 : Frz F0 F0 wr w2 := f2
  have hol : o'.length ≤ cur.length := by rw [ho']; split <;> simp
  have hxr : evtR.rd F0 w2 (evC x A0 c0 A1 c1 A2 c2 A3 c3) x := ⟨hIe, A0, c0, A1, c1, A2, c2, A3, c3, rfl, x0.to (Frz.bF f2 hF), x1.to (Frz.bF f2 hF), x2.to (Frz.bF f2 hF), x3.to (Frz.bF f2 hF)⟩
  have her : evtR.rd F0 w2 (evC e I0 i0' I1 i1 I2 i2 I3 i3) e := ⟨hIi, I0, i0', I1, i1, I2, i2, I3, i3, rfl, y0.to (Frz.bF f2 hF), y1.to (Frz.bF f2 hF), y2.to (Frz.bF f2 hF), y3.to (Frz.bF f2 hF)⟩
  by_cases q1 : x.a = n
  ·by_cases q2 : x.kind = 3
   ·have ho2 : o' = cur := by rw [ho', if_neg (fun h => by omega)]
    by_cases q34 : thereE x e ∧ x.seq = e.seq
    ·obtain ⟨q3, q4⟩ := q34
     have hn : runF e n cur x = o' ++ [x] := by rw [ho2, runF, if_pos q1, if_neg (by omega), if_pos ⟨q2, q3, q4⟩]
     refine wP 33 hp (H1 := fun wD hp hED => by
      refine pm ?_
      exact PLeg (there_ok (rdTo (F := F0) (w' := wD) hxr) (rdTo (F := F0) (w' := wD) her)) (h := pl)) (h := fun w4 hp E4 => ?_)
     refine so ?_
     refine aT (so ?_)
     refine wl_oneOf (by decide) sl24 rfl rfl rfl leB_ ?_
     rintro _ w11 hOn E11
     obtain ⟨gu, rfl, hat9⟩ := hOn
     replace hp := hp.ext E11
     refine wl_happend (i := 1) (m := 1) (size := 53) (news := evC x A0 c0 A1 c1 A2 c2 A3 c3) (by decide) sl24 rfl rfl hp rfl rfl (fun b hb => by cases hb; exact hat9) (by simp) (evtR.one hxr) (by omega) ?_
     rintro A9 c9 w12 hp C12
     refine so ?_
     have f12 : Frz F0 F0 w2 w12 := mv
     refine wk_re (k := 7) (v := .slice A9 (o' ++ [x]).length c9) rfl (by rw [List.length_append]; rfl) ?_
     refine Kl [0, 1, 2, 7, 8] hKL (i + 1 - (j + 1)) ⟨j + 1, A9, c9, rows' ++ [evC x A0 c0 A1 c1 A2 c2 A3 c3], ?_⟩ (by omega)
     rw [hstep, hn, flat_snoc, List.length_append]
     exact ⟨rfl, by omega, hp.tail, (hR.to f12).append (RF.one (r := evtR) (rdTo hxr f12)), Frz.bF (Frz.bF f12 f2) hF, rfl⟩
    ·have hn : runF e n cur x = o' := by rw [ho2, runF, if_pos q1, if_neg (by omega), if_neg (fun h => q34 h.2)]
     by_cases q3 : thereE x e
     ·have q4 : ¬ x.seq = e.seq := fun h => q34 ⟨q3, h⟩
      refine wP 33 hp (H1 := fun wD hp hED => by
       refine pm ?_
       exact PLeg (there_ok (rdTo (F := F0) (w' := wD) hxr) (rdTo (F := F0) (w' := wD) her)) (h := pl)) (h := fun w4 hp E4 => ?_)
      refine so ?_
      refine aF (so ?_)
      refine Kl [0, 1, 2, 7, 8] hKL (i + 1 - (j + 1)) ⟨j + 1, A7', c7', rows', ?_⟩ (by omega)
      rw [hstep, hn]
      exact ⟨rfl, by omega, hp.tail, hR.to mv, Frz.bF (Frz.bE E4 f2) hF, rfl⟩
     ·refine wP 33 hp (H1 := fun wD hp hED => by
       refine pm ?_
       exact PLeg (there_ok (rdTo (F := F0) (w' := wD) hxr) (rdTo (F := F0) (w' := wD) her)) (h := pl)) (h := fun w4 hp E4 => ?_)
      refine so ?_
      refine aF (so ?_)
      refine Kl [0, 1, 2, 7, 8] hKL (i + 1 - (j + 1)) ⟨j + 1, A7', c7', rows', ?_⟩ (by omega)
      rw [hstep, hn]
      exact ⟨rfl, by omega, hp.tail, hR.to mv, Frz.bF (Frz.bE E4 f2) hF, rfl⟩
   ·have hn : runF e n cur x = o' := by
     rw [ho', runF, if_pos q1]
     by_cases q9 : x.kind = 9
     ·rw [if_pos q9, if_pos ⟨q1, q9⟩]
     ·rw [if_neg q9, if_neg (fun h => q2 h.1), if_neg (fun h => q9 h.2)]
    refine wP 33 hp (h := fun w4 hp E4 => ?_)
    refine so ?_
    refine aF (so ?_)
    refine Kl [0, 1, 2, 7, 8] hKL (i + 1 - (j + 1)) ⟨j + 1, A7', c7', rows', ?_⟩ (by omega)
    rw [hstep, hn]
    exact ⟨rfl, by omega, hp.tail, hR.to mv, Frz.bF (Frz.bE E4 f2) hF, rfl⟩
  ·have hn : runF e n cur x = o' := by rw [ho', runF, if_neg q1, if_neg (fun h => q1 h.1)]
   refine wP 33 hp (h := fun w4 hp E4 => ?_)
   refine so ?_
   refine aF (so ?_)
   refine Kl [0, 1, 2, 7, 8] hKL (i + 1 - (j + 1)) ⟨j + 1, A7', c7', rows', ?_⟩ (by omega)
   rw [hstep, hn]
   exact ⟨rfl, by omega, hp.tail, hR.to mv, Frz.bF (Frz.bE E4 f2) hF, rfl⟩
 ·have hji : j = i + 1 := by omega
  subst hji
  refine so ?_
  have hrow := hp.rowAt (i := 0) rfl
  exact Pt ⟨_, rfl, A7, c7, rfl, OwnRow.gsRF (r := evtR) hrow (hR.wid (fun _ _ => trivial)) (fun _ _ _ => trivial), hp.chg⟩
end Go.Proofs.Ytgheaedligkhoaa
