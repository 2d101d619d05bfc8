/- What each of these functions computes, for every argument that its theorem names; a part of what the proof of JudgeKnown stands on. -/
import Derived.Test.YtgheaedligkhoaaDaa
import Derived.Test.YtgheaedligkhoaaAaa
import Derived.Test.YtgheaedligkhoaaAab
import Derived.Test.YtgheaedligkhoaaAac
import Derived.Test.YtgheaedligkhoaaAad
import Derived.Test.YtgheaedligkhoaaAae
import Derived.Test.YtgheaedligkhoaaAaf
import Derived.Test.YtgheaedligkhoaaAag
import Derived.Test.YtgheaedligkhoaaAah
import Derived.Test.YtgheaedligkhoaaDab
namespace Go.Proofs.Ytgheaedligkhoaa
open Go.RowKit Go.Eng _root_.Go.Proofs.Try Go.Eng _root_.Go.Proofs.Try
set_option maxRecDepth 100000
variable {w0 w : World} {M0 Fz : Nat → Prop} {H : List It} {A : Option Addr} {c : Nat}
theorem lfind_yes {w : World} {S : Nat → Prop} {l : List Evt} {A : Option Addr} {c : Nat} {r a : Int} (hl : GS evtR S w A c l) (h : findS planP l = (r, a, 0)) : Ret prog 15 #[iv r, iv a, .slice A l.length c] w (fun v w' => v = .bool true ∧ Ext w w') :=
 Ret.mono (lfinds_ok hl) (fun _ _ hv => ⟨by rw [hv.1, decide_eq_true h], hv.2⟩)
set_option maxHeartbeats 8000000 in
theorem limits_ok {w : World} : Ret prog 27 #[] w (fun v w' => v = .bool true ∧ Ext w w') := by
 refine ret_of_wk func27 rfl ntmps27 leB_ ?_
 have hp := HP.begin_ w
 generalize hF0 : (fun b => b < w.heap.size) = F0 at hp
 refine so ?_
 refine wl_builtS (ps := [(0, .const (.int .i64 (-1)))]) (by decide) bld23 rfl rfl (so ?_)
 refine wl_builtS (ps := [(0, .const (.int .i64 3))]) (by decide) bld23 rfl rfl (so ?_)
 refine wl_builtS (ps := [(1, .const (.int .i64 (-1)))]) (by decide) bld23 rfl rfl (so ?_)
 refine wl_builtS (ps := [(1, .const (.int .i64 3))]) (by decide) bld23 rfl rfl (so ?_)
 refine wl_builtS (ps := [(2, .const (.int .i64 (-1)))]) (by decide) bld23 rfl rfl (so ?_)
 refine wl_builtS (ps := [(2, .const (.int .i64 28))]) (by decide) bld23 rfl rfl (so ?_)
 refine wl_builtS (ps := [(3, .const (.int .i64 (-1)))]) (by decide) bld23 rfl rfl (so ?_)
 refine wl_builtS (ps := [(3, .const (.int .i64 4))]) (by decide) bld23 rfl rfl (so ?_)
 refine wl_builtS (ps := [(0, .const (.int .i64 2)), (1, .const (.int .i64 2)), (2, .const (.int .i64 8))]) (by decide) bld23 rfl rfl (so ?_)
 refine wl_builtS (ps := [(4, .const (.int .i64 (-1)))]) (by decide) bld23 rfl rfl (so ?_)
 refine wl_builtS (ps := [(2, .const (.int .i64 4611686018427387904))]) (by decide) bld23 rfl rfl (so ?_)
 refine wl_bsliceR (r := plnR) (S := fun _ => True) (xs := [.tmp 18, .tmp 19, .tmp 20, .tmp 21, .tmp 22, .tmp 23, .tmp 24, .tmp 25, .tmp 26, .tmp 27, .tmp 28]) (css := limP.map plnC) (l := limP) (by decide) sl82 rfl rfl ⟨by simp, fun i hi => ⟨plnC limP[i], by rw [List.getElem?_map, List.getElem?_eq_getElem hi]; rfl, limP_i _ (List.getElem_mem hi), rfl⟩⟩ rfl (by decide) leB_ ?_
 rintro g29 w1 hg29 hg E1
 obtain ⟨F1, hp, s1, n1, _⟩ := hp.frz E1
 have hg1 : GS plnR F1 w1 _ _ limP := hg.mono (fun b hb h => by
  rcases h with h | h
  ·exact s1 b (by rw [← hF0]; exact h.2)
  ·exact n1 b (by omega) hb)
 clear hg
 refine sl ?_
 refine so ?_
 refine Lp [29, 30, 31] (fun L' w' mes => ∃ j : Nat, L' = [(29, .slice (some ⟨g29, 0, none⟩) 11 11), (30, iv 11), (31, iv (j : Int))] ∧ j ≤ 11 ∧ (∃ H, HP w (fun _ => False) F1 w' H) ∧ GS plnR F1 w' (some ⟨g29, 0, none⟩) 11 limP ∧ mes = 11 - j) (11 - 0) ⟨0, rfl, Nat.zero_le _, ⟨_, hp⟩, hg1, rfl⟩ ?_
 clear hp hg1
 rintro _ wr _ ⟨j, rfl, hj, ⟨H, hp⟩, hg, rfl⟩ KL hKL
 refine so ?_
 refine Cd ?_ ?_ <;> intro hc
 ·have hj9 : j < 11 := by omega
  have hno := limP_no j hj9
  obtain ⟨ax, cx, hAx, hatx, hrx⟩ := GS.el hg j hj9
  have hxe : limP[j]'hj9 = limP.getD j pln0 := by rw [List.getD_eq_getElem?_getD, List.getElem?_eq_getElem hj9]; rfl
  rw [hxe] at hrx
  generalize limP.getD j pln0 = x at hno hrx
  obtain ⟨hIx, rfl⟩ := hrx
  have hf : findS x [] = (0, 0, 2) := if_pos hno
  refine so ?_
  refine Alo hp (h := fun g2 w2 hp E2 => so ?_)
  refine Hs 0 hp (h := fun w3 hp C3 => so ?_)
  have hq := lim_find (w := w3) hIx (.inl hf)
  rw [hf] at hq
  refine Ce hq ?_
  rintro _ w4 ⟨rfl, E4⟩
  replace hp := hp.ext E4
  refine so ?_
  refine aF (so ?_)
  exact Kl [29, 30, 31] hKL (11 - (j + 1)) ⟨j + 1, rfl, by omega, ⟨_, hp⟩, hg.to mv, rfl⟩ (by omega)
 ·clear hg
  refine so ?_
  refine wdL [.eq (.agg (plnC planP).toArray), .gs evtR (fun _ => True) (List.replicate 32769 evt0), .eq (find3 (0, 0, 5)), .eq (find3 (0, 0, 5)), .eq (iv 0), .eq (iv 0), .eq (iv 5), .eq (iv 0), .eq (iv 0), .eq (iv 5)] ?_ ?_
  ·refine ⟨?_, ?_, ?_, ?_, ?_, ?_, ?_, ?_, ?_, ?_, trivial⟩ <;> intro F wF hER hk
   ·refine Cl_ (xs := []) (by kernel_rfl) rfl lplan_ok ?_
    rintro _ wc ⟨rfl, hEc⟩
    exact qz ⟨hEc, rfl⟩
   ·refine wl_make (k := 32769) (z := .agg (evC evt0 none 0 none 0 none 0 none 0).toArray) (by decide) sl24 (by kernel_rfl) rfl rfl (by decide) 0 (Nat.zero_le _) ?_
    rintro g wc _ hrow hEc
    exact qz ⟨hEc, _, _, mk_len 32769 g, mk_ev hrow⟩
   ·have ea := hk.pe 0 []
    obtain ⟨vb, eb, A, c, rfl, rb⟩ := hk.pp 1 []
    have hq := pfind_ok (planP_rd (S := fun _ => True)) rb
    rw [limits_a] at hq
    refine Cl_ (xs := [.tmp 45, .tmp 46]) (by kernel_rfl) (by simp only [evs, ev, ea, eb]) hq ?_
    rintro _ wc ⟨rfl, hEc⟩
    exact qz ⟨hEc, rfl⟩
   ·exact dm (hk.pe 2 [])
   ·exact wl_extract (by decide) (hk.pe 3 []) rfl qz
   ·exact wl_extract (by decide) (hk.pe 3 []) rfl qz
   ·exact wl_extract (by decide) (hk.pe 3 []) rfl qz
   ·exact wl_assign (by decide) (hk.pe 4 []) qz
   ·exact wl_assign (by decide) (hk.pe 5 []) qz
   ·exact wl_assign (by decide) (hk.pe 6 []) qz
  intro F w6 E6 hini hdo
  have e8 := dq hdo 9
  refine wk_drop [(8, _)] ⟨e8, trivial⟩ ?_
  clear hini hdo e8
  replace hp := hp.ext E6
  refine so ?_
  refine wdL [.eq (.agg (plnC planP).toArray), .gs evtR (fun _ => True) (List.replicate 32768 evt0), .eq (find3 (1, 0, 0)), .eq (find3 (1, 0, 0)), .eq (iv 1), .eq (iv 0), .eq (iv 0), .eq (iv 1), .eq (iv 0), .eq (iv 0)] ?_ ?_
  ·refine ⟨?_, ?_, ?_, ?_, ?_, ?_, ?_, ?_, ?_, ?_, trivial⟩ <;> intro F wF hER hk
   ·refine Cl_ (xs := []) (by kernel_rfl) rfl lplan_ok ?_
    rintro _ wc ⟨rfl, hEc⟩
    exact qz ⟨hEc, rfl⟩
   ·refine wl_make (k := 32768) (z := .agg (evC evt0 none 0 none 0 none 0 none 0).toArray) (by decide) sl24 (by kernel_rfl) rfl rfl (by decide) 0 (Nat.zero_le _) ?_
    rintro g wc _ hrow hEc
    exact qz ⟨hEc, _, _, mk_len 32768 g, mk_ev hrow⟩
   ·have ea := hk.pe 0 []
    obtain ⟨vb, eb, A, c, rfl, rb⟩ := hk.pp 1 []
    have hq := pfind_ok (planP_rd (S := fun _ => True)) rb
    rw [limits_b] at hq
    refine Cl_ (xs := [.tmp 52, .tmp 53]) (by kernel_rfl) (by simp only [evs, ev, ea, eb]) hq ?_
    rintro _ wc ⟨rfl, hEc⟩
    exact qz ⟨hEc, rfl⟩
   ·exact dm (hk.pe 2 [])
   ·exact wl_extract (by decide) (hk.pe 3 []) rfl qz
   ·exact wl_extract (by decide) (hk.pe 3 []) rfl qz
   ·exact wl_extract (by decide) (hk.pe 3 []) rfl qz
   ·exact wl_assign (by decide) (hk.pe 4 []) qz
   ·exact wl_assign (by decide) (hk.pe 5 []) qz
   ·exact wl_assign (by decide) (hk.pe 6 []) qz
  intro F w7 E7 hini hdo
  have e8 := di hini 8
  have e9 := dq hdo 7
  have e10 := dq hdo 8
  have e11 := dq hdo 9
  refine wk_drop [(8, _), (9, _), (10, _), (11, _)] ⟨e8, e9, e10, e11, trivial⟩ ?_
  clear hini hdo e8 e9 e10 e11
  replace hp := hp.ext E7
  refine so ?_
  refine wl_builtS (ps := [(0, .const (.int .i64 2)), (1, .const (.int .i64 2)), (2, .const (.int .i64 7)), (3, .const (.int .i64 3)), (4, .const (.int .i64 4611686018427387906))]) (by decide) bld23 rfl rfl (so ?_)
  refine wl_re (k := 59) (v := .agg (plnC ⟨2, 2, 7, 3, 4611686018427387906⟩).toArray) rfl rfl ?_
  have hq := lim_find (w := w7) (x := ⟨2, 2, 7, 3, 4611686018427387906⟩) (by unfold PlnI i64; decide) (.inr (by decide))
  rw [limits_c] at hq
  refine Ce hq ?_
  rintro _ w8 ⟨rfl, E8⟩
  replace hp := hp.ext E8
  refine so ?_
  refine wl_builtS (ps := []) (by decide) bld23 rfl rfl (so ?_)
  refine wl_re (k := 65) (v := .agg (plnC pln0).toArray) rfl rfl ?_
  have hq := lim_find (w := w8) (x := pln0) (by unfold PlnI i64; decide) (.inr (by decide))
  rw [limits_d] at hq
  refine Ce hq ?_
  rintro _ w9 ⟨rfl, E9⟩
  replace hp := hp.ext E9
  refine so ?_
  exact Pt ⟨_, rfl, rfl, hp.chg⟩
end Go.Proofs.Ytgheaedligkhoaa
