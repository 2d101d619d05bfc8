/- What each of these functions computes, for every argument that its theorem names; a part of what the proof of NotePacks stands on. -/
import Derived.Test.YtkdoomglflikkaaGreatQac
import Derived.Test.YtkdoomglflikkaaGreatQad
import Derived.Test.YtkdoomglflikkaaGreatQae
import Derived.Test.YtkdoomglflikkaaGreatQag
import Derived.Test.YtkdoomglflikkaaGreatQah
import Derived.Test.YtkdoomglflikkaaGreatQan
import Derived.Test.YtkdoomglflikkaaGreatQau
import Derived.Test.YtkdoomglflikkaaGreatQax
namespace Go.Proofs.YtkdoomglflikkaaGreat
open Go.RowKit Go.Eng Go.Eng _root_.Go.Proofs.Tryz
set_option maxRecDepth 100000
variable {w0 w : World} {M0 Fz : Nat → Prop} {H : List It} {A : Option Addr} {c : Nat}
theorem t0_rSame_ok {p : Prop} (h : p := by (try simp only [Decidable.not_not, ne_eq, Bool.not_eq_true, decide_eq_true_eq, decide_eq_false_iff_not] at hg1 hg2 hg3 hg4 hg5 hg6 hg7 hg8 hg9 hg10 hc11 hg12 hg13 hg14 hc15 hg16); rw [Nte_eq, Ans_eq]; (try unfold SameL); simp only [hg1, hg2, hg3, hg4, hg5, hg6, hg7, hg8, hg9, hg10, hc11, hg12, hg13, hg14, hc15, hg16, true_and, and_true, false_and, and_false, not_false_eq_true]; try (constructor <;> (intro h; simp [h]))) : p := h
set_option maxHeartbeats 40000000 in
theorem rSame_ok {csa : List Value} {a : Nte} {Sa : Nat → Prop} {csb : List Value} {b : Nte} {Sb : Nat → Prop} (ha : noteR.rd Sa w csa a) (hb : noteR.rd Sb w csb b) : Ret prog 17 #[.agg csa.toArray, .agg csb.toArray] w (fun v w' => v = .bool (decide (a = b)) ∧ Ext w w') := by
 have qha:=ha
 obtain ⟨hIa, Aa0, ca0, Aa1, ca1, Aa2, ca2, Aa3, ca3, Aa4, ca4, Aa5, ca5, Aa6, ca6, Aa7, ca7, Aa8, ca8, Aa9, ca9, Aa10, ca10, rfl, ha0, ha1, ha2, ha3, ha4, ha5, ha6, ha7, ha8, ha9, ha10⟩ := ha
 have qhb:=hb
 obtain ⟨hIb, Ab0, cb0, Ab1, cb1, Ab2, cb2, Ab3, cb3, Ab4, cb4, Ab5, cb5, Ab6, cb6, Ab7, cb7, Ab8, cb8, Ab9, cb9, Ab10, cb10, rfl, hb0, hb1, hb2, hb3, hb4, hb5, hb6, hb7, hb8, hb9, hb10⟩ := hb
 refine ret_of_wk func17 rfl ntmps17 leB_ ?_
 have hp:=HP.begin_ w
 refine so ?_
 refine Bx hp (h := fun gs2 w1 hp hE1 => ?_)
 refine Bx hp (h := fun gs3 w2 hp hE2 => so ?_)
 refine Gs 12 ?_ ?_<;>intro hg1<;>refine so ?_
 ·refine aT (so ?_)
  refine Pt ?_
  exact ⟨_, rfl, bool_f (by (try simp only [ne_eq] at hg1); rw [Nte_eq, Ans_eq]; (try unfold SameL); simp only [hg1, false_and, not_false_eq_true]; try (constructor <;> (intro h; simp [h]))), hp.chg⟩
 refine Gs 19 ?_ ?_<;>intro hg2<;>refine so ?_
 ·refine aT (so ?_)
  refine Pt ?_
  exact ⟨_, rfl, bool_f (by (try simp only [Decidable.not_not, ne_eq] at hg1 hg2); rw [Nte_eq, Ans_eq]; (try unfold SameL); simp only [hg1, hg2, false_and, and_false, not_false_eq_true]; try (constructor <;> (intro h; simp [h]))), hp.chg⟩
 refine Gs 26 ?_ ?_<;>intro hg3<;>refine so ?_
 ·refine aT (so ?_)
  refine Pt ?_
  exact ⟨_, rfl, bool_f (by (try simp only [Decidable.not_not, ne_eq] at hg1 hg2 hg3); rw [Nte_eq, Ans_eq]; (try unfold SameL); simp only [hg1, hg2, hg3, false_and, and_false, not_false_eq_true]; try (constructor <;> (intro h; simp [h]))), hp.chg⟩
 refine Gs 33 ?_ ?_<;>intro hg4<;>refine so ?_
 ·refine aT (so ?_)
  refine Pt ?_
  exact ⟨_, rfl, bool_f (by (try simp only [Decidable.not_not, ne_eq] at hg1 hg2 hg3 hg4); rw [Nte_eq, Ans_eq]; (try unfold SameL); simp only [hg1, hg2, hg3, hg4, false_and, and_false, not_false_eq_true]; try (constructor <;> (intro h; simp [h]))), hp.chg⟩
 refine Gs 40 ?_ ?_<;>intro hg5<;>refine so ?_
 ·refine aT (so ?_)
  refine Pt ?_
  exact ⟨_, rfl, bool_f (by (try simp only [Decidable.not_not, ne_eq] at hg1 hg2 hg3 hg4 hg5); rw [Nte_eq, Ans_eq]; (try unfold SameL); simp only [hg1, hg2, hg3, hg4, hg5, false_and, and_false, not_false_eq_true]; try (constructor <;> (intro h; simp [h]))), hp.chg⟩
 refine Gs 47 ?_ ?_<;>intro hg6<;>refine so ?_
 ·refine aT (so ?_)
  refine Pt ?_
  exact ⟨_, rfl, bool_f (by (try simp only [Decidable.not_not, ne_eq] at hg1 hg2 hg3 hg4 hg5 hg6); rw [Nte_eq, Ans_eq]; (try unfold SameL); simp only [hg1, hg2, hg3, hg4, hg5, hg6, false_and, and_false, not_false_eq_true]; try (constructor <;> (intro h; simp [h]))), hp.chg⟩
 refine wl_neqK (m := 6) (a.dig = b.dig) (by decide) key23 eg23 rfl rfl (digC_fit _) (digC_fit _) digC_inj ?_
 refine so ?_
 refine Gs 54 ?_ ?_<;>intro hg7<;>refine so ?_
 ·refine aT (so ?_)
  refine Pt ?_
  exact ⟨_, rfl, bool_f (by (try simp only [Decidable.not_not, ne_eq] at hg1 hg2 hg3 hg4 hg5 hg6 hg7); rw [Nte_eq, Ans_eq]; (try unfold SameL); simp only [hg1, hg2, hg3, hg4, hg5, hg6, hg7, false_and, and_false, not_false_eq_true]; try (constructor <;> (intro h; simp [h]))), hp.chg⟩
 refine Gs 61 ?_ ?_<;>intro hg8<;>refine so ?_
 ·refine aT (so ?_)
  refine Pt ?_
  exact ⟨_, rfl, bool_f (by (try simp only [Decidable.not_not, ne_eq] at hg1 hg2 hg3 hg4 hg5 hg6 hg7 hg8); rw [Nte_eq, Ans_eq]; (try unfold SameL); simp only [hg1, hg2, hg3, hg4, hg5, hg6, hg7, hg8, false_and, and_false, not_false_eq_true]; try (constructor <;> (intro h; simp [h]))), hp.chg⟩
 refine Gs 68 ?_ ?_<;>intro hg9<;>refine so ?_
 ·refine aT (so ?_)
  refine Pt ?_
  exact ⟨_, rfl, bool_f (by (try simp only [Decidable.not_not, ne_eq] at hg1 hg2 hg3 hg4 hg5 hg6 hg7 hg8 hg9); rw [Nte_eq, Ans_eq]; (try unfold SameL); simp only [hg1, hg2, hg3, hg4, hg5, hg6, hg7, hg8, hg9, false_and, and_false, not_false_eq_true]; try (constructor <;> (intro h; simp [h]))), hp.chg⟩
 refine Gs 75 ?_ ?_<;>intro hg10<;>refine so ?_
 ·refine aT (so ?_)
  refine Pt ?_
  exact ⟨_, rfl, bool_f (by (try simp only [Decidable.not_not, ne_eq] at hg1 hg2 hg3 hg4 hg5 hg6 hg7 hg8 hg9 hg10); rw [Nte_eq, Ans_eq]; (try unfold SameL); simp only [hg1, hg2, hg3, hg4, hg5, hg6, hg7, hg8, hg9, hg10, false_and, and_false, not_false_eq_true]; try (constructor <;> (intro h; simp [h]))), hp.chg⟩
 refine Cd ?_ ?_<;>intro hc11<;>refine so ?_
 ·refine Pt ?_
  exact ⟨_, rfl, bool_f (by (try simp only [Decidable.not_not, ne_eq] at hg1 hg2 hg3 hg4 hg5 hg6 hg7 hg8 hg9 hg10 hc11); rw [Nte_eq, Ans_eq]; (try unfold SameL); simp only [hg1, hg2, hg3, hg4, hg5, hg6, hg7, hg8, hg9, hg10, hc11, false_and, and_false, not_false_eq_true]; try (constructor <;> (intro h; simp [h]))), hp.chg⟩
 apply wc_drawW 7 4 5 6 5 6 29 (.agg #[iv 0,s0,iv 0,s0] : Value).cells.toList ([iv a.ans.err,.slice Aa1 a.ans.data.length ca1,iv a.ans.epoch,.slice Aa2 a.ans.nodes.length ca2]) [.eq _,.eq _,.eq _,.eq _,SP.any,SP.any,SP.any] (by kernel_rfl) (by kernel_rfl) (by kernel_rfl) (by kernel_rfl) ⟨.inr (fun _ _ _ _ h => h),.inr (fun _ _ _ _ h => h),.inr (fun _ _ _ _ h => h),.inr (fun _ _ _ _ h => h),.inr (fun _ _ _ _ _ => trivial),.inr (fun _ _ _ _ _ => trivial),.inr (fun _ _ _ _ _ => trivial),trivial⟩ leB_
 refine ⟨?_,?_,?_,?_,?_,?_,?_,trivial⟩<;>intro F wF hER hk hEE
 have e2:=hk.qi 2
 refine Fd_ 39 fld38_8 e2 rfl ?_
 exact qz ⟨RlW.o (by decide) (by decide) (by decide) (Chg.refl _ _), rfl⟩
 have e82:=hk.qe 0
 refine Hx_ ([iv a.ans.err, .slice Aa1 a.ans.data.length ca1, iv a.ans.epoch, .slice Aa2 a.ans.nodes.length ca2]) 1 ag29 e82 (hp.ext hER) rfl rfl rfl ?_
 exact qz ⟨RlW.o (by decide) (by decide) (by decide) (Chg.refl _ _), rfl⟩
 have e3:=hk.qi 3
 refine Fd_ 39 fld38_8 e3 rfl ?_
 exact qz ⟨RlW.o (by decide) (by decide) (by decide) (Chg.refl _ _), rfl⟩
 have e84:=hk.qe 2
 refine Hx_ ([iv b.ans.err, .slice Ab1 b.ans.data.length cb1, iv b.ans.epoch, .slice Ab2 b.ans.nodes.length cb2]) 0 ag29 e84 (hp.ext hER) rfl rfl rfl ?_
 exact qz ⟨RlW.o (by decide) (by decide) (by decide) (Chg.refl _ _), rfl⟩
 refine wl_alloc (z := .agg #[iv 0, s0, iv 0, s0]) (by decide) (by kernel_rfl) ?_
 rintro g7 w7 hg7 hb7 hE7
 subst hg7
 exact qz ⟨RlW.a (.inl rfl) (by decide) hb7 hE7, trivial⟩
 refine wl_alloc (z := .agg #[iv 0, s0, iv 0, s0]) (by decide) (by kernel_rfl) ?_
 rintro g7 w7 hg7 hb7 hE7
 subst hg7
 exact qz ⟨RlW.a (.inr rfl) (by decide) hb7 hE7, trivial⟩
 have e83:=hk.qe 1
 obtain ⟨g7, hg7, hb7⟩ := hEE rfl
 refine wl_storeB2 hg7 e83 hb7 sz29 leB_ (List.all_eq_true.1 rfl) ?_
 intro w7 hb8 hC7
 exact wl_nil (qr_none ⟨RlW.f hg7 hC7 hb8, trivial⟩)
 intro F wD hED hini hdo hWW
 obtain ⟨gs5, gs6, hWn, hWA, hWB, e5, e6, hbA, hbB⟩ := hWW
 refine wl_drop [(2, _), (3, _), (5, _), (6, _), (85, _)] ⟨di hini 2, di hini 3, e5, e6, dr hdo 3, trivial⟩ ?_
 clear e5 e6 hini hdo
 replace hp:=hp.add2 hED hbA hbB hWn hWA hWB
 refine Hs 1 hp (h := fun w3 hp hC3 => so ?_)
 refine Gs 91 ?_ ?_<;>intro hg12<;>refine so ?_
 ·refine aT (so ?_)
  refine Pt ?_
  exact ⟨_, rfl, bool_f (by (try simp only [Decidable.not_not, ne_eq] at hg1 hg2 hg3 hg4 hg5 hg6 hg7 hg8 hg9 hg10 hc11 hg12); rw [Nte_eq, Ans_eq]; (try unfold SameL); simp only [hg1, hg2, hg3, hg4, hg5, hg6, hg7, hg8, hg9, hg10, hc11, hg12, true_and, false_and, and_false, not_false_eq_true]; try (constructor <;> (intro h; simp [h]))), hp.chg⟩
 refine Cx hp (eqBytes_ok ha1.tn hb1.tn) fun w4 hp hE4 => so ?_
 refine Gs 99 ?_ ?_<;>intro hg13<;>refine so ?_
 ·refine aT (so ?_)
  refine Pt ?_
  exact ⟨_, rfl, bool_f (by (try simp only [Decidable.not_not, ne_eq] at hg1 hg2 hg3 hg4 hg5 hg6 hg7 hg8 hg9 hg10 hc11 hg12 hg13); rw [Nte_eq, Ans_eq]; (try unfold SameL); simp only [hg1, hg2, hg3, hg4, hg5, hg6, hg7, hg8, hg9, hg10, hc11, hg12, hg13, true_and, false_and, and_false, not_false_eq_true]; try (constructor <;> (intro h; simp [h]))), hp.chg⟩
 refine Gs 106 ?_ ?_<;>intro hg14<;>refine so ?_
 ·refine aT (so ?_)
  refine Pt ?_
  exact ⟨_, rfl, bool_f (by (try simp only [Decidable.not_not, ne_eq] at hg1 hg2 hg3 hg4 hg5 hg6 hg7 hg8 hg9 hg10 hc11 hg12 hg13 hg14); rw [Nte_eq, Ans_eq]; (try unfold SameL); simp only [hg1, hg2, hg3, hg4, hg5, hg6, hg7, hg8, hg9, hg10, hc11, hg12, hg13, hg14, true_and, false_and, and_false, not_false_eq_true]; try (constructor <;> (intro h; simp [h]))), hp.chg⟩
 refine Cx hp (eqInts_ok ha2.tn hb2.tn) fun w5 hp hE5 => so ?_
 refine Cd ?_ ?_<;>intro hc15<;>refine so ?_
 ·refine Pt ?_
  exact ⟨_, rfl, bool_f (by (try simp only [Decidable.not_not, ne_eq] at hg1 hg2 hg3 hg4 hg5 hg6 hg7 hg8 hg9 hg10 hc11 hg12 hg13 hg14 hc15); rw [Nte_eq, Ans_eq]; (try unfold SameL); simp only [hg1, hg2, hg3, hg4, hg5, hg6, hg7, hg8, hg9, hg10, hc11, hg12, hg13, hg14, hc15, true_and, false_and, and_false, not_false_eq_true]; try (constructor <;> (intro h; simp [h]))), hp.chg⟩
 refine Cx hp (r12SameChange_ok ⟨(hIa.change), _, _, _, _, _, _, rfl, ha3.tn, ha4.tn, ha5.tn⟩ ⟨(hIb.change), _, _, _, _, _, _, rfl, hb3.tn, hb4.tn, hb5.tn⟩) fun w6 hp hE6 => so ?_
 refine Gs 119 ?_ ?_<;>intro hg16<;>refine so ?_
 ·refine Cx hp (rSameLists_ok (rdTn qha) (rdTn qhb)) fun w7 hp hE7 => so ?_
  refine Pt ?_
  exact ⟨_, rfl, congrArg Value.bool (decide_eq_decide.2 t0_rSame_ok), hp.chg⟩
 refine Pt ?_
 exact ⟨_, rfl, bool_f t0_rSame_ok, hp.chg⟩
end Go.Proofs.YtkdoomglflikkaaGreat
