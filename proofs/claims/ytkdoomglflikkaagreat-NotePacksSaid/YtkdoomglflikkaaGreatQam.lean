/- What each of these functions computes, for every argument that its theorem names; a part of what the proof of NotePacks stands on. -/
import Derived.Test.YtkdoomglflikkaaGreatQac
import Derived.Test.YtkdoomglflikkaaGreatQad
import Derived.Test.YtkdoomglflikkaaGreatQag
import Derived.Test.YtkdoomglflikkaaGreatQah
import Derived.Test.YtkdoomglflikkaaGreatQaj
import Derived.Test.YtkdoomglflikkaaGreatQak
namespace Go.Proofs.YtkdoomglflikkaaGreat
open Go.RowKit Go.Eng Go.Eng _root_.Go.Proofs.Tryz
set_option maxRecDepth 100000
variable {w0 w : World} {M0 Fz : Nat → Prop} {H : List It} {A : Option Addr} {c : Nat}
theorem t0_rStandsMay_ok {p : Prop} (h : p := by exact .inr ⟨rfl, by omega, by omega, .inr ⟨by omega, by first | exact .inl (by omega) | exact .inr ⟨by omega, by assumption⟩ | (by_cases hv : (l.getD (k - 1) stand0).view = (l.getD k stand0).view <;> first | exact .inl (by omega) | exact .inr ⟨hv, by simp_all⟩)⟩⟩) : p := h
set_option maxHeartbeats 40000000 in
theorem rStandsMay_ok {Al : Option Addr} {cl : Nat} {l : List Stn} {Sl : Nat → Prop} {cscg : List Value} {cg : Chn} {Scg : Nat → Prop} {many : Nat} (hl : GS standR Sl w Al cl l) (hcg : changeR.rd Scg w cscg cg) (hlow : 0 ≤ cg.low ∧ cg.low ≤ 9007199254740983) (hmany : 1 ≤ many ∧ many ≤ 4) : Ret prog 99 #[.slice Al l.length cl, .agg cscg.toArray, .int .i64 (many : Int)] w (fun v w' => v = .bool (decide (StandsMay l cg.low cg.view many)) ∧ Ext w w') := by
 obtain ⟨hIcg, Acg0, ccg0, Acg1, ccg1, Acg2, ccg2, rfl, hcg0, hcg1, hcg2⟩ := hcg
 have mhl:=hl.mx
 have mhcg0:=hcg0.mx
 have mhcg1:=hcg1.mx
 have mhcg2:=hcg2.mx
 refine ret_of_wk func99 rfl ntmps99 leB_ ?_
 have hp:=HP.begin_ w
 refine so ?_
 refine Bx hp (h := fun gs4 w1 hp hE1 => so ?_)
 refine wl_mul (by decide) rfl rfl (w64 (by omega) (by omega)) ?_
 refine so ?_
 refine Cd ?_ ?_<;>intro hc1<;>refine so ?_
 refine Pt ?_
 exact ⟨_, rfl, bool_f (fun h => by have := stands_len h; omega), hp.chg⟩
 refine Lp [0, 2, 4, 7, 8] (fun L' w' mes => ∃ (k : Nat), ∃ (same : Nat), L' = [(0, .slice Al l.length cl), (2, iv (many : Int)), (4, pt gs4 0), (7, iv (same : Int)), (8, iv (k : Int))] ∧ (k ≤ l.length) ∧ (∀ i, i < k → StandAt l cg.low cg.view many i) ∧ (RunSt l k same) ∧ (same ≤ many) ∧ (l.length ≤ 8 * many) ∧ (GS standR (fun b => b < w.heap.size) w' Al cl l) ∧ (GS markR (fun b => b < w.heap.size) w' Acg0 ccg0 cg.marks) ∧ (GS standR (fun b => b < w.heap.size) w' Acg1 ccg1 cg.p) ∧ (GS standR (fun b => b < w.heap.size) w' Acg2 ccg2 cg.q) ∧ (HP w (fun _ => False) (fun b => b < w.heap.size) w' (itB gs4 33 ([iv cg.node, iv cg.view, iv cg.low, .slice Acg0 cg.marks.length ccg0, .slice Acg1 cg.p.length ccg1, .slice Acg2 cg.q.length ccg2]) :: [])) ∧ l.length - k = mes) (l.length - 0) (by
     refine ⟨0, 0, rfl, by omega, ?_, RunSt.zero l, by omega, by omega, hl.tn, hcg0.tn, hcg1.tn, hcg2.tn, hp, rfl⟩
     intro i hi; omega) ?_
 rintro _ wr _ ⟨k, same, rfl, hk, hall, hrun, hsm, hll, hl, hcg0, hcg1, hcg2, hp, rfl⟩ KL1 hKL1
 have hsk:=hrun.1
 refine so ?_
 refine Cd ?_ ?_<;>intro hc2<;>refine so ?_
 obtain ⟨ae2, hAe2, hate2, hIe2⟩ := standR_el hl k (by omega)
 refine so ?_
 refine Alo hp (h := fun gs9 w3 hp hE3 => ?_)
 refine Hs 0 hp (h := fun w4 hp hC4 => so ?_)
 refine Gs 32 ?_ ?_<;>intro hg3<;>refine so ?_
 refine aT (so ?_)
 refine Pt ?_
 exact ⟨_, rfl, bool_f (fun h => by have := h k (by omega); unfold StandAt at this; omega), hp.chg⟩
 refine Gs 40 ?_ ?_<;>intro hg4<;>refine so ?_
 refine aT (so ?_)
 refine Pt ?_
 exact ⟨_, rfl, bool_f (fun h => by have := h k (by omega); unfold StandAt at this; omega), hp.chg⟩
 refine Gs 45 ?_ ?_<;>intro hg5<;>refine so ?_
 refine aT (so ?_)
 refine Pt ?_
 exact ⟨_, rfl, bool_f (fun h => by have := h k (by omega); unfold StandAt at this; omega), hp.chg⟩
 refine Cd ?_ ?_<;>intro hc6
 refine so ?_
 refine Pt ?_
 exact ⟨_, rfl, bool_f (fun h => by have := h k (by omega); unfold StandAt at this; omega), hp.chg⟩
 refine sl ?_
 refine wc_seq_cut (fun L' w' => ∃ (same0 : Nat), L' = [(0, .slice Al l.length cl), (2, iv (many : Int)), (4, pt gs4 0), (7, iv (same0 : Int)), (8, iv (k : Int)), (9, pt gs9 0)] ∧ ((same0 = 0 ∧ (k = 0 ∨ (l.getD (k - 1) stand0).seq < (l.getD k stand0).seq)) ∨ (same0 = same ∧ 0 < k ∧ (l.getD k stand0).seq = (l.getD (k - 1) stand0).seq ∧ OrdLt (l.getD (k - 1) stand0) (l.getD k stand0))) ∧ (GS standR (fun b => b < w.heap.size) w' Al cl l) ∧ (GS markR (fun b => b < w.heap.size) w' Acg0 ccg0 cg.marks) ∧ (GS standR (fun b => b < w.heap.size) w' Acg1 ccg1 cg.p) ∧ (GS standR (fun b => b < w.heap.size) w' Acg2 ccg2 cg.q) ∧ (HP w (fun _ => False) (fun b => b < w.heap.size) w' (itB gs9 97 ([iv ((l.getD k stand0).seq)] ++ (digC ((l.getD k stand0).dig) ++ ([iv ((l.getD k stand0).view)]))) :: itB gs4 33 ([iv cg.node, iv cg.view, iv cg.low, .slice Acg0 cg.marks.length ccg0, .slice Acg1 cg.p.length ccg1, .slice Acg2 cg.q.length ccg2]) :: []))) (fun K hK => ?_) ?_
 refine so ?_
 by_cases hs7 : (k : Int) = 0
 refine wP 13 hp (h := fun wD hp hED => so ?_)
 refine aT (so ?_)
 exact Kd [0, 2, 4, 7, 8, 9] hK ⟨0, rfl, .inl ⟨rfl, by omega⟩, hl.to, hcg0.to, hcg1.to, hcg2.to, hp⟩
 obtain ⟨aw8, hAw8, hatw8, hIw8⟩ := standR_el (hl.to (w' := w4)) (k - 1) (by omega)
 refine wdP 13 hp (fun wD hp hED => by refine pm ?_; exact .op rfl (aGy rfl rfl (by first | rfl | exact bt | exact bf) (wl_idx0 (by decide) sl31 rfl rfl hAw8 (k - 1) (by omega) (by omega) (wl_nil qp))) pl) fun wD hp hED => ?_
 refine so ?_
 refine Cd ?_ ?_<;>intro hc8<;>refine so ?_
 exact Kd [0, 2, 4, 7, 8, 9] hK ⟨0, rfl, .inl ⟨rfl, by omega⟩, hl.to, hcg0.to, hcg1.to, hcg2.to, hp⟩
 obtain ⟨ae5, hAe5, hate5, hIe5⟩ := standR_el (hl.to (w' := wD)) (k - 1) (by omega)
 cases Option.some.inj (hAw8.symm.trans hAe5)
 refine wl_idx0 (by decide) sl31 rfl rfl hAe5 (k - 1) (by omega) (by omega) (so ?_)
 refine Alo hp (h := fun gs10 w6 hp hE6 => ?_)
 refine Hs 0 hp (h := fun w7 hp hC7 => so ?_)
 refine Gs 75 ?_ ?_<;>intro hg9<;>refine so ?_
 refine aT (so ?_)
 refine Pt ?_
 exact ⟨_, rfl, bool_f (fun h => stand_order (by omega) (by unfold OrdLt; simp_all; try omega) (h k (by omega))), hp.chg⟩
 refine Gs 82 ?_ ?_<;>intro hg10<;>refine so ?_
 refine aT (so ?_)
 refine Pt ?_
 exact ⟨_, rfl, bool_f (fun h => stand_order (by omega) (by unfold OrdLt; simp_all; try omega) (h k (by omega))), hp.chg⟩
 refine Gs 88 ?_ ?_<;>intro hg11<;>refine so ?_
 refine Cx hp (less_ok) fun w8 hp hE8 => so ?_
 refine Cd ?_ ?_<;>intro hc12<;>refine so ?_
 refine Pt ?_
 exact ⟨_, rfl, bool_f (fun h => stand_order (by omega) (by unfold OrdLt; simp_all; try omega) (h k (by omega))), hp.chg⟩
 refine Kd [0, 2, 4, 7, 8, 9] hK ⟨same, rfl, ?_, hl.to, hcg0.to, hcg1.to, hcg2.to, hp.tail⟩
 exact t0_rStandsMay_ok
 refine aF (so ?_)
 refine Kd [0, 2, 4, 7, 8, 9] hK ⟨same, rfl, ?_, hl.to, hcg0.to, hcg1.to, hcg2.to, hp.tail⟩
 exact t0_rStandsMay_ok
 rintro _ wc ⟨same0, rfl, hs0, hl, hcg0, hcg1, hcg2, hp⟩
 have hr2 : RunSt l (k + 1) (same0 + 1) := by
   rcases hs0 with ⟨rfl, h⟩ | ⟨rfl, h0, h, _⟩
   · exact hrun.up h
   · exact hrun.on h0 h
 refine so ?_
 refine Cd ?_ ?_<;>intro hc13<;>refine so ?_
 refine Pt ?_
 exact ⟨_, rfl, bool_f (fun h => stand_many hr2 (by omega) (by omega) (h k (by omega))), hp.chg⟩
 refine wk_re (k := 11) (v := iv ((k - same0 : Nat) : Int)) rfl (congrArg (Value.int .i64) (by omega)) (so ?_)
 refine Lp [0, 2, 4, 7, 8, 9, 11] (fun L' w' mes => ∃ (j : Nat), L' = [(0, .slice Al l.length cl), (2, iv (many : Int)), (4, pt gs4 0), (7, iv ((same0 : Int) + 1)), (8, iv (k : Int)), (9, pt gs9 0), (11, iv (j : Int))] ∧ (k - same0 ≤ j) ∧ (j ≤ k) ∧ (∀ i, k - same0 ≤ i → i < j → (l.getD i stand0).dig ≠ (l.getD k stand0).dig) ∧ Ext wc w' ∧ k - j = mes) (k - (k - same0 : Nat)) (by
     refine ⟨(k - same0 : Nat), rfl, ?_, ?_, ?_, me, rfl⟩
     omega
     omega
     intro i h1 h2; omega) ?_
 rintro _ wj _ ⟨j, rfl, hj1, hj2, hno, hEq0, rfl⟩ KL2 hKL2
 replace hp:=hp.ext hEq0
 refine so ?_
 refine Cd ?_ ?_<;>intro hc14<;>refine so ?_
 obtain ⟨aw2, hAw2, hatw2, hIw2⟩ := standR_el (hl.to (w' := wj)) j (by omega)
 refine wdP 8 hp (fun wD hp hED => by refine pm ?_; exact .op rfl (wl_loadA (by decide) ag23 rfl ((hatw2.to.at_.drop 1).take 32) rfl (wl_nil qp)) (by refine pm ?_; exact .op rfl (wl_eqlK (m := 6) ((l.getD j stand0).dig = (l.getD k stand0).dig) (by decide) key23 eg23 rfl rfl (digC_fit _) (digC_fit _) digC_inj (wl_nil qp)) pl)) fun wD hp hED => ?_
 refine so ?_
 refine Cd ?_ ?_<;>intro hc15<;>refine so ?_
 refine Pt ?_
 exact ⟨_, rfl, bool_f (fun h => stand_twice hr2 (j := j) (by omega) (by omega) (by assumption) (h k (by omega))), hp.chg⟩
 refine Kl [0, 2, 4, 7, 8, 9, 11] hKL2 (k - (j + 1)) ⟨(j + 1), rfl, by omega, by omega, ?_, me, rfl⟩ (by omega)
 intro i h1 h2
 by_cases e : i = j
 subst e; assumption
 exact hno i h1 (by omega)
 refine Kl [0, 2, 4, 7, 8] hKL1 (l.length - (k + 1)) ⟨(k + 1), (same0 + 1), rfl, by omega, ?_, hr2, by omega, hll, hl.to, hcg0.to, hcg1.to, hcg2.to, hp.tail, rfl⟩ (by omega)
 refine upto hall (stand_step hr2 (by omega) (by omega) (by omega) (by omega) (by omega) (fun h0 => ?_) (by omega) (fun j h1 h2 => hno j (by omega) (by omega)))
 rcases hs0 with ⟨_, h | h⟩ | ⟨_, _, _, h⟩
 omega
 exact .inl h
 exact h
 refine Pt ?_
 exact ⟨_, rfl, bool_t (fun i hi => hall i (by omega)), hp.chg⟩
end Go.Proofs.YtkdoomglflikkaaGreat
