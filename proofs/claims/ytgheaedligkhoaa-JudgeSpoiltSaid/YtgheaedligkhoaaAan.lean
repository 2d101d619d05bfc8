/- What each of these functions computes, for every argument that its theorem names; a part of what the proof of JudgeFinds stands on. -/
import Derived.Test.YtgheaedligkhoaaAab
import Derived.Test.YtgheaedligkhoaaAac
import Derived.Test.YtgheaedligkhoaaAad
import Derived.Test.YtgheaedligkhoaaAae
import Derived.Test.YtgheaedligkhoaaAag
import Derived.Test.YtgheaedligkhoaaAah
import Derived.Test.YtgheaedligkhoaaAaj
namespace Go.Proofs.Ytgheaedligkhoaa
open Go.RowKit Go.Eng _root_.Go.Proofs.Try Go.Eng _root_.Go.Proofs.Try
set_option maxRecDepth 100000
variable {w0 w : World} {M0 Fz : Nat → Prop} {H : List It} {A : Option Addr} {c : Nat}
set_option maxHeartbeats 8000000 in
theorem fifth_ok {pk : Addr} {csk : List Value} {k : Lok} {Sk Pk : Nat → Prop} {i : Nat} {w : World} (hatk : AtF Pk w pk csk) (hk : lokR.rd Sk w csk k) (hM : PlnMay k.p) (hi : i < k.l.length) (hl : k.l.length ≤ 32768) : Ret prog 68 #[.pointer (some pk), iv i] w (fun v w' => v = .bool (decide (R5 k.p (k.l.take (i + 1)) (k.l.getD i evt0))) ∧ Ext w w') := by
 have hk0 := hk
 have hat0 := hatk
 obtain ⟨p, l⟩ := k
 obtain ⟨hIk, Ak, ck, rfl, hl0⟩ := hk
 dsimp only at hi hl hl0 hatk hM ⊢
 refine ret_of_wk func68 rfl ntmps68 leB_ ?_
 have hp := HP.begin_ w
 have hlF := hl0.now
 have hat := hatk.now
 replace hk0 := rdTn (F := fun b => b < w.heap.size) (w' := w) hk0
 generalize hF0 : (fun b => b < w.heap.size) = F0 at hp hlF hat hk0
 obtain ⟨ai, I0, i0', I1, i1, I2, i2, I3, i3, hAi, hati, hIi, y0, y1, y2, y3⟩ := evtR_el hlF i hi
 have hown := runsE_own hi
 generalize hei : l.getD i evt0 = e at hati hIi y0 y1 y2 y3 hown ⊢
 refine so ?_
 refine Alo hp (h := fun g5 w1 hp E1 => so ?_)
 refine Hs 0 hp (h := fun w2 hp C2 => ?_)
 replace hp := hp.as_ (H' := itB g5 46 (evC e I0 i0' I1 i1 I2 i2 I3 i3) :: []) rfl
 refine so ?_
 refine Cd ?_ ?_ <;> intro k3 <;> refine so ?_
 ·exact Pt ⟨_, rfl, bool_f (fun h => k3 h.1), hp.chg⟩
 replace k3 : e.kind = 3 := Decidable.not_not.1 k3
 have hn1 := hown k3
 have f2 : Frz F0 F0 w w2 := mv
 refine Ce (rruns_ok (hat.to f2) (rdTo hk0 f2) hi hl) ?_
 rintro _ w3 ⟨A3, c3, rfl, h3, E3⟩
 replace hp := hp.ext E3
 dsimp only
 rw [hei]
 have hn2 := runsE_len e e.a (l.take (i + 1))
 rw [List.length_take] at hn2
 generalize hon : (runsE e e.a (l.take (i + 1))).length = on at hn1 hn2
 refine so ?_
 refine Lp [0, 1, 5, 6, 7] (fun L' w' mes => ∃ m : Nat, L' = [(0, .pointer (some pk)), (1, iv i), (5, pt g5 0), (6, iv ((on : Int) - 1)), (7, iv ((m : Int) + 1))] ∧ (m : Int) ≤ nodesP p ∧ HP w (fun _ => False) F0 w' (itB g5 46 (evC e I0 i0' I1 i1 I2 i2 I3 i3) :: []) ∧ Frz F0 F0 w w' ∧ ((List.range m).map fun (i : Nat) => (i : Int) + 1).any (q5 e (l.take (i + 1))) = false ∧ mes = (nodesP p).toNat - m) ((nodesP p).toNat - 0) ⟨0, rfl, ?_, hp, Frz.bE E3 f2, rfl, rfl⟩ ?_
 ·have := nodesP_le hM.1 hM.2.1
  have := hM.2.2.1
  unfold nodesP
  omega
 clear hp
 rintro _ wr _ ⟨m, rfl, hm, hp, hF, hno, rfl⟩ KL hKL
 have hatp : AtF F0 w (pk.add 0) [iv p.faults, iv p.chunks, iv p.spares, iv p.clients, iv p.bad] := hat.sub 0 5
 refine so ?_
 refine Ce (rnodes_ok (Sp := fun _ => True) (p := p) ⟨hIk.p, rfl⟩ hM.1 hM.2.1 hM.2.2.1) ?_
 rintro _ w4 ⟨rfl, E4⟩
 clear hatp
 replace hp := hp.ext E4
 have f4 : Frz F0 F0 w w4 := Frz.bE E4 hF
 refine so ?_
 refine Cd ?_ ?_ <;> intro hc
 ·refine so ?_
  refine Ce (rruns_ok (hat.to f4) (rdTo hk0 f4) hi hl) ?_
  rintro _ w5 ⟨A5, c5, rfl, h5, E5⟩
  replace hp := hp.ext E5
  have f5 : Frz F0 F0 w w5 := Frz.bE E5 f4
  dsimp only at h5 ⊢
  rw [hei] at h5 ⊢
  generalize hl5 : runsE e ((m : Int) + 1) (l.take (i + 1)) = ls at h5 ⊢
  refine so ?_
  have hM5 : nodesP p ≤ 28 := hM.2.2.2.2.1
  have hmt : m + 1 ≤ (nodesP p).toNat := by omega
  have her : evtR.rd F0 w5 (evC e I0 i0' I1 i1 I2 i2 I3 i3) e := ⟨hIi, I0, i0', I1, i1, I2, i2, I3, i3, rfl, y0.to f5, y1.to f5, y2.to f5, y3.to f5⟩
  have hew : wishR.rd F0 w5 (wsC e.wish I0 i0' I1 i1) e.wish := ⟨hIi.wish, I0, i0', I1, i1, rfl, y0.to f5, y1.to f5⟩
  have hea : ansR.rd F0 w5 (anC e.ans I2 i2 I3 i3) e.ans := ⟨hIi.ans, I2, i2, I3, i3, rfl, y2.to f5, y3.to f5⟩
  have hq : ∀ b : Bool, q5 e (l.take (i + 1)) ((m : Int) + 1) = b → ((List.range (m + 1)).map fun (i : Nat) => (i : Int) + 1).any (q5 e (l.take (i + 1))) = b := fun b h => by rw [names_take, hno, h]; simp
  have hq0 : q5 e (l.take (i + 1)) ((m : Int) + 1) = decide ((m : Int) + 1 ≠ e.a ∧ on ≤ ls.length ∧ ¬ ((ls.getD (on - 1) evt0).wish = e.wish ∧ (ls.getD (on - 1) evt0).ans = e.ans)) := by unfold q5; rw [hl5, hon]
  have hfound : q5 e (l.take (i + 1)) ((m : Int) + 1) = true → (namesP p).any (q5 e (l.take (i + 1))) = true := fun h => by
   rw [List.any_eq_true]
   exact ⟨_, List.mem_map.2 ⟨m, List.mem_range.2 (by omega), rfl⟩, h⟩
  by_cases q1 : (m : Int) + 1 ≠ e.a
  ·by_cases q2 : (on : Int) - 1 < (ls.length : Int)
   ·obtain ⟨ae, A0, c0, A1, c1, A2, c2, A3', c3', hAe, hate, hIe, x0, x1, x2, x3⟩ := evtR_el h5 (on - 1) (by omega)
    generalize hxe : ls.getD (on - 1) evt0 = x at hq0 hate hIe x0 x1 x2 x3
    have hxw : wishR.rd (fun _ => True) w5 (wsC x.wish A0 c0 A1 c1) x.wish := ⟨hIe.wish, A0, c0, A1, c1, rfl, x0, x1⟩
    have hxa : ansR.rd (fun _ => True) w5 (anC x.ans A2 c2 A3' c3') x.ans := ⟨hIe.ans, A2, c2, A3', c3', rfl, x2, x3⟩
    have s8 : AtF (fun _ => True) w5 ((ae.add ((on - 1) * 53)).add 39) (wsC x.wish A0 c0 A1 c1) := hate.sub 39 10
    have s9 : AtF (fun _ => True) w5 ((ae.add ((on - 1) * 53)).add 49) (anC x.ans A2 c2 A3' c3') := hate.sub 49 4
    clear hate
    have hix : (on : Int) - 1 = ((on - 1 : Nat) : Int) := by omega
    by_cases q3 : x.wish = e.wish
    ·by_cases q4 : x.ans = e.ans
     ·refine wP 32 hp (H1 := fun wD hp hED => by
       refine pm ?_
       exact .op rfl (aGy rfl rfl (by exact bt) (wl_idx0 (by decide) sl24 rfl rfl hAe (on - 1) hix (by omega) (wl_nil qp))) (by
        refine pm ?_
        exact PLeg (r11Same_ok (rdTo (F := fun _ => True) (w' := wD) hxw) (rdTo (F := F0) (w' := wD) hew)) (h := by
         refine pm ?_
         exact .op rfl (aGy rfl rfl (by exact bf) (wl_idx0 (by decide) sl24 rfl rfl hAe (on - 1) hix (by omega) (wl_nil qp))) (by
          refine pm ?_
          exact PLeg (r16Same_ok (rdTo (F := fun _ => True) (w' := wD) hxa) (rdTo (F := F0) (w' := wD) hea)) (h := pl))))) (h := fun w6 hp E6 => ?_)
      refine so ?_
      refine aF (so ?_)
      refine Kl [0, 1, 5, 6, 7] hKL ((nodesP p).toNat - (m + 1)) ⟨m + 1, rfl, by omega, hp, Frz.bE E6 f5, hq _ ?_, rfl⟩ (by omega)
      rw [hq0]
      exact decide_eq_false (fun h => h.2.2 ⟨q3, q4⟩)
     ·refine wP 32 hp (H1 := fun wD hp hED => by
       refine pm ?_
       exact .op rfl (aGy rfl rfl (by exact bt) (wl_idx0 (by decide) sl24 rfl rfl hAe (on - 1) hix (by omega) (wl_nil qp))) (by
        refine pm ?_
        exact PLeg (r11Same_ok (rdTo (F := fun _ => True) (w' := wD) hxw) (rdTo (F := F0) (w' := wD) hew)) (h := by
         refine pm ?_
         exact .op rfl (aGy rfl rfl (by exact bf) (wl_idx0 (by decide) sl24 rfl rfl hAe (on - 1) hix (by omega) (wl_nil qp))) (by
          refine pm ?_
          exact PLeg (r16Same_ok (rdTo (F := fun _ => True) (w' := wD) hxa) (rdTo (F := F0) (w' := wD) hea)) (h := pl))))) (h := fun w6 hp E6 => ?_)
      refine so ?_
      refine aT (so ?_)
      exact Pt ⟨_, rfl, bool_t ⟨k3, hfound (by rw [hq0]; exact decide_eq_true ⟨q1, by omega, fun h => q4 h.2⟩)⟩, hp.chg⟩
    ·refine wP 32 hp (H1 := fun wD hp hED => by
      refine pm ?_
      exact .op rfl (aGy rfl rfl (by exact bt) (wl_idx0 (by decide) sl24 rfl rfl hAe (on - 1) hix (by omega) (wl_nil qp))) (by
       refine pm ?_
       exact PLeg (r11Same_ok (rdTo (F := fun _ => True) (w' := wD) hxw) (rdTo (F := F0) (w' := wD) hew)) (h := pl))) (h := fun w6 hp E6 => ?_)
     refine so ?_
     refine aT (so ?_)
     exact Pt ⟨_, rfl, bool_t ⟨k3, hfound (by rw [hq0]; exact decide_eq_true ⟨q1, by omega, fun h => q3 h.1⟩)⟩, hp.chg⟩
   ·refine wP 32 hp (h := fun w6 hp E6 => ?_)
    refine so ?_
    refine aF (so ?_)
    have e0 : q5 e (l.take (i + 1)) ((m : Int) + 1) = false := by
     rw [hq0]
     exact decide_eq_false (fun h => q2 (by have := h.2.1; omega))
    exact Kl [0, 1, 5, 6, 7] hKL ((nodesP p).toNat - (m + 1)) ⟨m + 1, rfl, by omega, hp, Frz.bE E6 f5, hq _ e0, rfl⟩ (by omega)
  ·refine wP 32 hp (h := fun w6 hp E6 => ?_)
   refine so ?_
   refine aF (so ?_)
   have e0 : q5 e (l.take (i + 1)) ((m : Int) + 1) = false := by
    rw [hq0]
    exact decide_eq_false (fun h => q1 h.1)
   exact Kl [0, 1, 5, 6, 7] hKL ((nodesP p).toNat - (m + 1)) ⟨m + 1, rfl, by omega, hp, Frz.bE E6 f5, hq _ e0, rfl⟩ (by omega)
 ·have hm2 : nodesP p = m := by omega
  refine so ?_
  refine Pt ⟨_, rfl, bool_f (fun h => ?_), hp.chg⟩
  have h2 := h.2
  unfold namesP at h2
  rw [hm2, Int.toNat_natCast, hno] at h2
  cases h2
end Go.Proofs.Ytgheaedligkhoaa
