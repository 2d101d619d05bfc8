/- What each of these functions computes, for every argument that its theorem names; a part of what the proof of NotePacks stands on. -/
import Derived.Test.YtkdoomglflikkaaGreatQac
import Derived.Test.YtkdoomglflikkaaGreatQad
import Derived.Test.YtkdoomglflikkaaGreatQae
import Derived.Test.YtkdoomglflikkaaGreatQag
import Derived.Test.YtkdoomglflikkaaGreatQah
import Derived.Test.YtkdoomglflikkaaGreatQan
import Derived.Test.YtkdoomglflikkaaGreatQap
import Derived.Test.YtkdoomglflikkaaGreatQat
import Derived.Test.YtkdoomglflikkaaGreatQay
import Derived.Test.YtkdoomglflikkaaGreatQbe
import Derived.Test.YtkdoomglflikkaaGreatQbj
import Derived.Test.YtkdoomglflikkaaGreatQbk
import Derived.Test.YtkdoomglflikkaaGreatQbm
import Derived.Test.YtkdoomglflikkaaGreatQbn
namespace Go.Proofs.YtkdoomglflikkaaGreat
open Go.RowKit Go.Eng Go.Eng _root_.Go.Proofs.Tryz
set_option maxRecDepth 100000
variable {w0 w : World} {M0 Fz : Nat → Prop} {H : List It} {A : Option Addr} {c : Nat}
theorem t0_nSame_ok {p : Prop} (h : p := by first | exact (decide_eq_true (by (try simp only [decide_eq_true_eq, decide_eq_false_iff_not] at hg1 hg2 hg3 hg4 hg5 hg6); simp [hg1, hg2, hg3, hg4, hg5, hg6])).symm | exact (decide_eq_false (by (try simp only [decide_eq_true_eq, decide_eq_false_iff_not] at hg1 hg2 hg3 hg4 hg5 hg6); simp [hg1, hg2, hg3, hg4, hg5, hg6])).symm | exact decide_eq_decide.2 (by (try simp only [decide_eq_true_eq, decide_eq_false_iff_not] at hg1 hg2 hg3 hg4 hg5 hg6); simp [hg1, hg2, hg3, hg4, hg5, hg6])) : p := h
theorem t1_nSame_ok {p : Prop} (h : p := by first | exact (decide_eq_true (by (try simp only [hm1, decide_eq_true_eq, decide_eq_false_iff_not] at hg7 hg8 hg9 hg10); simp [hg7, hg8, hg9, hg10])).symm | exact (decide_eq_false (by (try simp only [hm1, decide_eq_true_eq, decide_eq_false_iff_not] at hg7 hg8 hg9 hg10); simp [hg7, hg8, hg9, hg10])).symm | exact decide_eq_decide.2 (by (try simp only [hm1, decide_eq_true_eq, decide_eq_false_iff_not] at hg7 hg8 hg9 hg10); simp [hg7, hg8, hg9, hg10])) : p := h
theorem t2_nSame_ok {p : Prop} (h : p := by first | exact (decide_eq_true (by (try simp only [decide_eq_true_eq, decide_eq_false_iff_not] at hg11 hg12 hg13); rw [Ans_eq]; simp [hg11, hg12, hg13])).symm | exact (decide_eq_false (by (try simp only [decide_eq_true_eq, decide_eq_false_iff_not] at hg11 hg12 hg13); rw [Ans_eq]; simp [hg11, hg12, hg13])).symm | exact decide_eq_decide.2 (by (try simp only [decide_eq_true_eq, decide_eq_false_iff_not] at hg11 hg12 hg13); rw [Ans_eq]; simp [hg11, hg12, hg13])) : p := h
theorem t3_nSame_ok {p : Prop} (h : p := by first | exact (decide_eq_true (by (try simp only [decide_eq_true_eq, decide_eq_false_iff_not] at hg14 hg15); simp [hg14, hg15])).symm | exact (decide_eq_false (by (try simp only [decide_eq_true_eq, decide_eq_false_iff_not] at hg14 hg15); simp [hg14, hg15])).symm | exact decide_eq_decide.2 (by (try simp only [decide_eq_true_eq, decide_eq_false_iff_not] at hg14 hg15); simp [hg14, hg15])) : p := h
theorem t4_nSame_ok {p : Prop} (h : p := by (try simp only [hm2, hm3, hm4, decide_eq_true_eq, decide_eq_false_iff_not] at hg16 hg17 hg18 hg19 hg20 hg21); first | (intro e; subst e; simp at hg16 hg17 hg18 hg19 hg20 hg21; done) | (rw [Nte_eq]; simp [hg16, hg17, hg18, hg19, hg20, hg21])) : p := h
theorem t5_nSame_ok {p : Prop} (h : p := by (try simp only [decide_eq_true_eq, decide_eq_false_iff_not] at hg1 hg2 hg3 hg4 hg5); simp [hg1, hg2, hg3, hg4, hg5]) : p := h
theorem t6_nSame_ok {p : Prop} (h : p := by (try simp only [decide_eq_true_eq, decide_eq_false_iff_not] at hg1 hg2 hg3 hg4); simp [hg1, hg2, hg3, hg4]) : p := h
theorem t7_nSame_ok {p : Prop} (h : p := by (try simp only [decide_eq_true_eq, decide_eq_false_iff_not] at hg11 hg12); rw [Ans_eq]; simp [hg11, hg12]) : p := h
theorem t8_nSame_ok {p : Prop} (h : p := by (try simp only [hm1, decide_eq_true_eq, decide_eq_false_iff_not] at hg7 hg8 hg9); simp [hg7, hg8, hg9]) : p := h
theorem t9_nSame_ok {p : Prop} (h : p := by (try simp only [decide_eq_true_eq, decide_eq_false_iff_not] at hg1 hg2 hg3); simp [hg1, hg2, hg3]) : p := h
theorem t10_nSame_ok {p : Prop} (h : p := by (try simp only [decide_eq_true_eq, decide_eq_false_iff_not] at hg11); rw [Ans_eq]; simp [hg11]) : p := h
theorem t11_nSame_ok {p : Prop} (h : p := by (try simp only [hm1, decide_eq_true_eq, decide_eq_false_iff_not] at hg7 hg8); simp [hg7, hg8]) : p := h
theorem t12_nSame_ok {p : Prop} (h : p := by (try simp only [decide_eq_true_eq, decide_eq_false_iff_not] at hg1 hg2); simp [hg1, hg2]) : p := h
theorem t13_nSame_ok {p : Prop} (h : p := by (try simp only [hm1, decide_eq_true_eq, decide_eq_false_iff_not] at hg7); simp [hg7]) : p := h
theorem t14_nSame_ok {p : Prop} (h : p := by (try simp only [decide_eq_true_eq, decide_eq_false_iff_not] at hg14); simp [hg14]) : p := h
theorem t15_nSame_ok {p : Prop} (h : p := by (try simp only [decide_eq_true_eq, decide_eq_false_iff_not] at hg1); simp [hg1]) : p := h
set_option maxHeartbeats 40000000 in
theorem nSame_ok {csa : List Value} {a : Nte} {Sa : Nat → Prop} {csb : List Value} {b : Nte} {Sb : Nat → Prop} (ha : noteR.rd Sa w csa a) (hb : noteR.rd Sb w csb b) : Ret prog 41 #[.agg csa.toArray, .agg csb.toArray] w (fun v w' => v = .bool (decide (a = b)) ∧ Ext w w') := by
 obtain ⟨hIa, Aa0, ca0, Aa1, ca1, Aa2, ca2, Aa3, ca3, Aa4, ca4, Aa5, ca5, Aa6, ca6, Aa7, ca7, Aa8, ca8, Aa9, ca9, Aa10, ca10, rfl, ha0, ha1, ha2, ha3, ha4, ha5, ha6, ha7, ha8, ha9, ha10⟩ := ha
 obtain ⟨hIb, Ab0, cb0, Ab1, cb1, Ab2, cb2, Ab3, cb3, Ab4, cb4, Ab5, cb5, Ab6, cb6, Ab7, cb7, Ab8, cb8, Ab9, cb9, Ab10, cb10, rfl, hb0, hb1, hb2, hb3, hb4, hb5, hb6, hb7, hb8, hb9, hb10⟩ := hb
 refine ret_of_wk func41 rfl ntmps41 leB_ ?_
 have hp:=HP.begin_ w
 refine so ?_
 refine Bx hp (h := fun gs2 w1 hp hE1 => ?_)
 refine Bx hp (h := fun gs3 w2 hp hE2 => sl ?_)
 refine wc_seq_cut (fun L' w' => ∃ (m1 : Bool), L' = [(2, pt gs2 0), (3, pt gs3 0), (5, .bool m1)] ∧ (m1 = decide (a.kind = b.kind ∧ a.from_ = b.from_ ∧ a.group = b.group ∧ a.epoch = b.epoch ∧ a.view = b.view ∧ a.seq = b.seq ∧ a.dig = b.dig)) ∧ Ext w2 w') (fun K hK => ?_) ?_
 refine so ?_
 refine Gs 16 ?_ ?_<;>intro hg1<;>refine so ?_
 refine Gs 23 ?_ ?_<;>intro hg2<;>refine so ?_
 refine Gs 30 ?_ ?_<;>intro hg3<;>refine so ?_
 refine Gs 37 ?_ ?_<;>intro hg4<;>refine so ?_
 refine Gs 44 ?_ ?_<;>intro hg5<;>refine so ?_
 refine Gs 51 ?_ ?_<;>intro hg6<;>refine so ?_
 refine wl_eqlK (m := 6) (a.dig = b.dig) (by decide) key23 eg23 rfl rfl (digC_fit _) (digC_fit _) digC_inj ?_
 refine so ?_
 refine Kd [2, 3, 5] hK ⟨_, rfl, ?_, me⟩
 exact t0_nSame_ok
 refine Kd [2, 3, 5] hK ⟨_, rfl, ?_, me⟩
 exact t0_nSame_ok
 refine Kd [2, 3, 5] hK ⟨_, rfl, ?_, me⟩
 first | exact (decide_eq_true t5_nSame_ok).symm | exact (decide_eq_false t5_nSame_ok).symm | exact decide_eq_decide.2 t5_nSame_ok
 refine Kd [2, 3, 5] hK ⟨_, rfl, ?_, me⟩
 first | exact (decide_eq_true t6_nSame_ok).symm | exact (decide_eq_false t6_nSame_ok).symm | exact decide_eq_decide.2 t6_nSame_ok
 refine Kd [2, 3, 5] hK ⟨_, rfl, ?_, me⟩
 first | exact (decide_eq_true t9_nSame_ok).symm | exact (decide_eq_false t9_nSame_ok).symm | exact decide_eq_decide.2 t9_nSame_ok
 refine Kd [2, 3, 5] hK ⟨_, rfl, ?_, me⟩
 first | exact (decide_eq_true t12_nSame_ok).symm | exact (decide_eq_false t12_nSame_ok).symm | exact decide_eq_decide.2 t12_nSame_ok
 refine Kd [2, 3, 5] hK ⟨_, rfl, ?_, me⟩
 first | exact (decide_eq_true t15_nSame_ok).symm | exact (decide_eq_false t15_nSame_ok).symm | exact decide_eq_decide.2 t15_nSame_ok
 rintro _ wa ⟨m1, rfl, hm1, hEq0⟩
 replace hp:=hp.ext hEq0
 refine wc_seq_cut (fun L' w' => ∃ (m2 : Bool), L' = [(2, pt gs2 0), (3, pt gs3 0), (5, .bool m2)] ∧ (m2 = decide ((a.kind = b.kind ∧ a.from_ = b.from_ ∧ a.group = b.group ∧ a.epoch = b.epoch ∧ a.view = b.view ∧ a.seq = b.seq ∧ a.dig = b.dig) ∧ a.stamp = b.stamp ∧ a.node = b.node ∧ a.level = b.level ∧ a.place = b.place)) ∧ Ext wa w') (fun K hK => ?_) ?_
 refine so ?_
 refine Gs 59 ?_ ?_<;>intro hg7<;>refine so ?_
 refine Gs 66 ?_ ?_<;>intro hg8<;>refine so ?_
 refine Gs 73 ?_ ?_<;>intro hg9<;>refine so ?_
 refine Gs 80 ?_ ?_<;>intro hg10<;>refine so ?_
 refine Kd [2, 3, 5] hK ⟨_, rfl, ?_, me⟩
 exact t1_nSame_ok
 refine Kd [2, 3, 5] hK ⟨_, rfl, ?_, me⟩
 exact t1_nSame_ok
 refine Kd [2, 3, 5] hK ⟨_, rfl, ?_, me⟩
 first | exact (decide_eq_true t8_nSame_ok).symm | exact (decide_eq_false t8_nSame_ok).symm | exact decide_eq_decide.2 t8_nSame_ok
 refine Kd [2, 3, 5] hK ⟨_, rfl, ?_, me⟩
 first | exact (decide_eq_true t11_nSame_ok).symm | exact (decide_eq_false t11_nSame_ok).symm | exact decide_eq_decide.2 t11_nSame_ok
 refine Kd [2, 3, 5] hK ⟨_, rfl, ?_, me⟩
 first | exact (decide_eq_true t13_nSame_ok).symm | exact (decide_eq_false t13_nSame_ok).symm | exact decide_eq_decide.2 t13_nSame_ok
 rintro _ wb ⟨m2, rfl, hm2, hEq1⟩
 replace hp:=hp.ext hEq1
 refine so ?_
 apply wc_drawW 7 4 5 6 6 7 29 (.agg #[iv 0,s0,iv 0,s0] : Value).cells.toList ([iv a.ans.err,.slice Aa1 a.ans.data.length ca1,iv a.ans.epoch,.slice Aa2 a.ans.nodes.length ca2]) [.eq _,.eq _,.eq _,.eq _,SP.any,SP.any,SP.any] (by kernel_rfl) (by kernel_rfl) (by kernel_rfl) (by kernel_rfl) ⟨.inr (fun _ _ _ _ h => h),.inr (fun _ _ _ _ h => h),.inr (fun _ _ _ _ h => h),.inr (fun _ _ _ _ h => h),.inr (fun _ _ _ _ _ => trivial),.inr (fun _ _ _ _ _ => trivial),.inr (fun _ _ _ _ _ => trivial),trivial⟩ leB_
 refine ⟨?_,?_,?_,?_,?_,?_,?_,trivial⟩<;>intro F wF hER hk hEE
 have e2:=hk.qi 2
 refine Fd_ 39 fld38_8 e2 rfl ?_
 exact qz ⟨RlW.o (by decide) (by decide) (by decide) (Chg.refl _ _), rfl⟩
 have e87:=hk.qe 0
 refine Hx_ ([iv a.ans.err, .slice Aa1 a.ans.data.length ca1, iv a.ans.epoch, .slice Aa2 a.ans.nodes.length ca2]) 1 ag29 e87 (hp.ext hER) rfl rfl rfl ?_
 exact qz ⟨RlW.o (by decide) (by decide) (by decide) (Chg.refl _ _), rfl⟩
 have e3:=hk.qi 3
 refine Fd_ 39 fld38_8 e3 rfl ?_
 exact qz ⟨RlW.o (by decide) (by decide) (by decide) (Chg.refl _ _), rfl⟩
 have e89:=hk.qe 2
 refine Hx_ ([iv b.ans.err, .slice Ab1 b.ans.data.length cb1, iv b.ans.epoch, .slice Ab2 b.ans.nodes.length cb2]) 0 ag29 e89 (hp.ext hER) rfl rfl rfl ?_
 exact qz ⟨RlW.o (by decide) (by decide) (by decide) (Chg.refl _ _), rfl⟩
 refine wl_alloc (z := .agg #[iv 0, s0, iv 0, s0]) (by decide) (by kernel_rfl) ?_
 rintro g7 w7 hg7 hb7 hE7
 subst hg7
 exact qz ⟨RlW.a (.inl rfl) (by decide) hb7 hE7, trivial⟩
 refine wl_alloc (z := .agg #[iv 0, s0, iv 0, s0]) (by decide) (by kernel_rfl) ?_
 rintro g7 w7 hg7 hb7 hE7
 subst hg7
 exact qz ⟨RlW.a (.inr rfl) (by decide) hb7 hE7, trivial⟩
 have e88:=hk.qe 1
 obtain ⟨g7, hg7, hb7⟩ := hEE rfl
 refine wl_storeB2 hg7 e88 hb7 sz29 leB_ (List.all_eq_true.1 rfl) ?_
 intro w7 hb8 hC7
 exact wl_nil (qr_none ⟨RlW.f hg7 hC7 hb8, trivial⟩)
 intro F wD hED hini hdo hWW
 obtain ⟨gs6, gs7, hWn, hWA, hWB, e6, e7, hbA, hbB⟩ := hWW
 refine wl_drop [(2, _), (3, _), (5, _), (6, _), (7, _), (90, _)] ⟨di hini 2, di hini 3, di hini 5, e6, e7, dr hdo 3, trivial⟩ ?_
 clear e6 e7 hini hdo
 replace hp:=hp.add2 hED hbA hbB hWn hWA hWB
 refine Hs 1 hp (h := fun w3 hp hC3 => sl ?_)
 refine wc_seq_cut (fun L' w' => ∃ (m3 : Bool), L' = [(2, pt gs2 0), (3, pt gs3 0), (5, .bool m2), (8, .bool m3)] ∧ (m3 = decide (a.ans = b.ans)) ∧ Ext w3 w') (fun K hK => ?_) ?_
 refine so ?_
 refine Gs 96 ?_ ?_<;>intro hg11<;>refine so ?_
 refine Cx hp (bequal_ok ha1.tn hb1.tn) fun w4 hp hE4 => so ?_
 refine Gs 103 ?_ ?_<;>intro hg12<;>refine so ?_
 refine Gs 110 ?_ ?_<;>intro hg13<;>refine so ?_
 refine Cx hp (seqI_ok ha2.tn hb2.tn) fun w5 hp hE5 => so ?_
 refine Kd [2, 3, 5, 8] hK ⟨_, rfl, ?_, me⟩
 exact t2_nSame_ok
 refine Kd [2, 3, 5, 8] hK ⟨_, rfl, ?_, me⟩
 exact t2_nSame_ok
 refine Kd [2, 3, 5, 8] hK ⟨_, rfl, ?_, me⟩
 first | exact (decide_eq_true t7_nSame_ok).symm | exact (decide_eq_false t7_nSame_ok).symm | exact decide_eq_decide.2 t7_nSame_ok
 refine Kd [2, 3, 5, 8] hK ⟨_, rfl, ?_, me⟩
 first | exact (decide_eq_true t10_nSame_ok).symm | exact (decide_eq_false t10_nSame_ok).symm | exact decide_eq_decide.2 t10_nSame_ok
 rintro _ wc ⟨m3, rfl, hm3, hEq2⟩
 replace hp:=hp.ext hEq2
 refine wc_seq ?_
 refine wc_region ?_
 refine sl ?_
 refine wc_seq_cut (fun L' w' => ∃ (m4 : Bool), L' = [(2, pt gs2 0), (3, pt gs3 0), (5, .bool m2), (8, .bool m3), (10, .bool m4)] ∧ (m4 = decide (a.batch = b.batch ∧ a.changes = b.changes ∧ a.picks = b.picks)) ∧ Ext wc w') (fun K hK => ?_) ?_
 refine so ?_
 refine Cx hp (sameBatch_ok ha0.tn hb0.tn) fun w6 hp hE6 => so ?_
 refine Gs 122 ?_ ?_<;>intro hg14<;>refine so ?_
 refine Cx hp (efC_ok ha6.tn hb6.tn) fun w7 hp hE7 => so ?_
 refine Gs 129 ?_ ?_<;>intro hg15<;>refine so ?_
 refine Cx hp (efP_ok ha7.tn hb7.tn) fun w8 hp hE8 => so ?_
 refine Kd [2, 3, 5, 8, 10] hK ⟨_, rfl, ?_, me⟩
 exact t3_nSame_ok
 refine Kd [2, 3, 5, 8, 10] hK ⟨_, rfl, ?_, me⟩
 exact t3_nSame_ok
 refine Kd [2, 3, 5, 8, 10] hK ⟨_, rfl, ?_, me⟩
 first | exact (decide_eq_true t14_nSame_ok).symm | exact (decide_eq_false t14_nSame_ok).symm | exact decide_eq_decide.2 t14_nSame_ok
 rintro _ wd ⟨m4, rfl, hm4, hEq3⟩
 replace hp:=hp.ext hEq3
 refine so ?_
 refine Gs 138 ?_ ?_<;>intro hg16<;>refine so ?_
 refine Gs 141 ?_ ?_<;>intro hg17<;>refine so ?_
 refine Gs 144 ?_ ?_<;>intro hg18<;>refine so ?_
 refine Cx hp (nSameChange_ok ⟨(hIa.change), _, _, _, _, _, _, rfl, ha3.tn, ha4.tn, ha5.tn⟩ ⟨(hIb.change), _, _, _, _, _, _, rfl, hb3.tn, hb4.tn, hb5.tn⟩) fun w9 hp hE9 => so ?_
 refine Gs 151 ?_ ?_<;>intro hg19<;>refine so ?_
 refine Cx hp (seqD_ok ha8.tn hb8.tn) fun w10 hp hE10 => so ?_
 refine Gs 158 ?_ ?_<;>intro hg20<;>refine so ?_
 refine Cx hp (bequal_ok ha9.tn hb9.tn) fun w11 hp hE11 => so ?_
 refine Gs 165 ?_ ?_<;>intro hg21<;>refine so ?_
 refine Cx hp (seqI_ok ha10.tn hb10.tn) fun w12 hp hE12 => so ?_
 refine Pt ?_
 exact ⟨_, rfl, congrArg Value.bool (decide_eq_decide.2 t4_nSame_ok), hp.chg⟩
 refine Pt ?_
 exact ⟨_, rfl, bool_f t4_nSame_ok, hp.chg⟩
 refine Pt ?_
 exact ⟨_, rfl, bool_f (by (try simp only [hm2, hm3, hm4, decide_eq_true_eq] at hg16 hg17 hg18 hg19 hg20); first | (intro e; subst e; simp at hg16 hg17 hg18 hg19 hg20; done) | (rw [Nte_eq]; simp [hg16, hg17, hg18, hg19, hg20])), hp.chg⟩
 refine Pt ?_
 exact ⟨_, rfl, bool_f (by (try simp only [hm2, hm3, hm4, decide_eq_true_eq] at hg16 hg17 hg18 hg19); first | (intro e; subst e; simp at hg16 hg17 hg18 hg19; done) | (rw [Nte_eq]; simp [hg16, hg17, hg18, hg19])), hp.chg⟩
 refine Pt ?_
 exact ⟨_, rfl, bool_f (by (try simp only [hm2, hm3, hm4, decide_eq_true_eq, decide_eq_false_iff_not] at hg16 hg17 hg18); first | (intro e; subst e; simp at hg16 hg17 hg18; done) | (rw [Nte_eq]; simp [hg16, hg17, hg18])), hp.chg⟩
 refine Pt ?_
 exact ⟨_, rfl, bool_f (by (try simp only [hm2, hm3, decide_eq_true_eq, decide_eq_false_iff_not] at hg16 hg17); first | (intro e; subst e; simp at hg16 hg17; done) | (rw [Nte_eq]; simp [hg16, hg17])), hp.chg⟩
 refine Pt ?_
 exact ⟨_, rfl, bool_f (by (try simp only [hm2, decide_eq_false_iff_not] at hg16); first | (intro e; subst e; simp at hg16; done) | (rw [Nte_eq]; simp [hg16])), hp.chg⟩
theorem t0_nRead_ok {p : Prop} (h : p := by exact Hx_ ([iv x3.kind, iv x3.from_, iv x3.group, iv x3.epoch, iv x3.view, iv x3.seq] ++ (digC x3.dig ++ ([.slice A3_0 x3.batch.length c3_0, iv x3.ans.err, .slice A3_1 x3.ans.data.length c3_1, iv x3.ans.epoch, .slice A3_2 x3.ans.nodes.length c3_2, iv x3.stamp, iv x3.node, iv x3.change.node, iv x3.change.view, iv x3.change.low, .slice A3_3 x3.change.marks.length c3_3, .slice A3_4 x3.change.p.length c3_4, .slice A3_5 x3.change.q.length c3_5, .slice A3_6 x3.changes.length c3_6, .slice A3_7 x3.picks.length c3_7, iv x3.level, iv x3.place, .slice A3_8 x3.digs.length c3_8, .slice A3_9 x3.data.length c3_9, .slice A3_10 x3.nodes.length c3_10]))) 1 ag38 (hk.pi 2) (hp.ext hER) rfl rfl rfl qz) : p := h
set_option maxHeartbeats 40000000 in
theorem nRead_ok {l : List UInt8} (hp : HP w0 M0 Fz w H) (hl : GS byteR Fz w A c l) : Ret prog 40 #[.slice A l.length c] w (fun v w2 => ∃ F2 cs x ok, v = .tuple #[.agg cs.toArray, .bool ok] ∧ HP w0 M0 F2 w2 H ∧ Frz Fz F2 w w2 ∧ noteR.rd F2 w2 cs x ∧ ReadR l x ok) := by
 refine ret_of_wk func40 rfl ntmps40 leB_ ?_
 refine so ?_
 refine Alo hp (h := fun gs2 w1 hp hE1 => so ?_)
 refine wl_builtS (ps := [(0, .tmp 5)]) (by decide) bld103 rfl rfl ?_
 refine Bx hp (h := fun gs7 w2 hp hE2 => so ?_)
 refine wl_iface (by decide) (by kernel_rfl) rfl ?_
 refine Ce (rShow_ok hp hl.to) ?_
 rintro _ w3 ⟨F3, A3, c3, l3, b3, cs3, x3, hp, hF3, hl3, hrd3, hst3⟩
 have qhrd3:=hrd3
 obtain ⟨hI3, A3_0, c3_0, A3_1, c3_1, A3_2, c3_2, A3_3, c3_3, A3_4, c3_4, A3_5, c3_5, A3_6, c3_6, A3_7, c3_7, A3_8, c3_8, A3_9, c3_9, A3_10, c3_10, rfl, hr3_0, hr3_1, hr3_2, hr3_3, hr3_4, hr3_5, hr3_6, hr3_7, hr3_8, hr3_9, hr3_10⟩ := hrd3
 replace hp:=hp.nz
 refine so ?_
 by_cases hs1 : b3 = true
 apply wdL [.eq _,.eq _,.eq _,.eq _,.eq (.bool true),.eq (.bool false),.eq (.bool false),.eq undef,.eq undef,.eq undef,.eq undef,.eq undef,.eq undef,.eq (.bool false),.eq undef,.eq (.bool false)]
 refine ⟨?_,?_,?_,?_,?_,?_,?_,?_,?_,?_,?_,?_,?_,?_,?_,?_,trivial⟩<;>intro F wF hER hk
 exact t0_nRead_ok
 exact dm (hk.pi 4)
 exact Nc_ (hk.pe 1) qz
 exact Fd_ 1 fld103_1 (hk.pe 2) rfl qz
 have e14:=hk.pe 3
 refine Hl_ 0 sc4 e14 (hp.ext hER) rfl rfl ?_
 exact wl_re (k := 15) (v := .bool true) rfl (congrArg Value.bool hs1) qy
 have e15:=hk.pe 4
 first | exact Nd_ e15 qz | exact Nn_ e15 qz
 exact dm (hk.pe 5)
 exact dn (hk.pe 6)
 exact dn (hk.pe 6)
 exact dn (hk.pe 6)
 exact dn (hk.pe 6)
 exact dn (hk.pe 6)
 exact dn (hk.pe 6)
 have e17:=hk.pe 6
 have e23:=hk.pe 12
 exact Pk_ e17 rfl qz
 have e2:=hk.pi 2
 have e11:=hk.pe 0
 refine wl_hsame (i := 1) (k := 58) e2 e11 (hp.ext hER) rfl sz38 rfl (List.all_eq_true.1 rfl) ?_
 exact wl_nil (qr_none ⟨Chg.refl _ _, rfl⟩)
 exact wl_assign (by decide) (hk.pe 13) qz
 intro F wD hED hini hdo
 refine wk_drop [(2, _), (3, _)] ⟨di hini 2, dq hdo 15, trivial⟩ ?_
 clear hini hdo
 replace hp:=hp.ext hED
 refine so ?_
 refine wk_postR (rs := [.cell 2 38, .tmp 3]) (.inl rfl) results40 ⟨_, _, _, rfl, rfl, loadVar_agg ag38 (hp.blkAt (i := 1) rfl).at0 rfl, ⟨_, _, rfl, rfl, rfl⟩⟩ ?_
 exact ⟨_, rfl, _, _, x3, _, rfl, hp.tail.tail, mv, (rdTo qhrd3), by first | exact read_ok hst3 (by assumption) rfl | exact read_bad hst3 (by assumption) rfl⟩
 replace hs1:=eq_false_of_ne_true hs1
 apply wdL [.eq _,.eq _,.eq _,.eq _,.eq (.bool false),.eq (.bool true),.eq (.bool true),.eq _,.eq _,.eq _,.eq _,.eq _,.eq _,.eq _,.eq undef,.eq _]
 refine ⟨?_,?_,?_,?_,?_,?_,?_,?_,?_,?_,?_,?_,?_,?_,?_,?_,trivial⟩<;>intro F wF hER hk
 exact t0_nRead_ok
 exact dm (hk.pi 4)
 exact Nc_ (hk.pe 1) qz
 exact Fd_ 1 fld103_1 (hk.pe 2) rfl qz
 have e14:=hk.pe 3
 refine Hl_ 0 sc4 e14 (hp.ext hER) rfl rfl ?_
 exact wl_re (k := 15) (v := .bool false) rfl (congrArg Value.bool hs1) qy
 have e15:=hk.pe 4
 first | exact Nd_ e15 qz | exact Nn_ e15 qz
 exact dm (hk.pe 5)
 have e4:=hk.pi 4
 have e17:=hk.pe 6
 refine wl_gyes rfl e17 ?_
 exact Mv_ e4 qz
 have e18:=hk.pe 7
 have e17:=hk.pe 6
 refine wl_gyes rfl e17 ?_
 exact Nc_ e18 qz
 have e19:=hk.pe 8
 have e17:=hk.pe 6
 refine wl_gyes rfl e17 ?_
 exact Fd_ 0 fld103_0 e19 rfl qz
 have e20:=hk.pe 9
 have e17:=hk.pe 6
 refine wl_gyes rfl e17 ?_
 exact Hl_ 0 sc26 e20 (hp.ext hER) rfl rfl qz
 have e21:=hk.pe 10
 have e17:=hk.pe 6
 refine wl_gyes rfl e17 ?_
 exact Ln_ underlying26 e21 qz
 have e22:=hk.pe 11
 have e17:=hk.pe 6
 refine wl_gyes rfl e17 ?_
 exact Eq_ e22 rfl qz
 have e17:=hk.pe 6
 have e23:=hk.pe 12
 exact Pk_ e17 e23 qz
 have e2:=hk.pi 2
 have e11:=hk.pe 0
 refine wl_hsame (i := 1) (k := 58) e2 e11 (hp.ext hER) rfl sz38 rfl (List.all_eq_true.1 rfl) ?_
 exact wl_nil (qr_none ⟨Chg.refl _ _, rfl⟩)
 exact wl_assign (by decide) (hk.pe 13) qz
 intro F wD hED hini hdo
 refine wk_drop [(2, _), (3, _)] ⟨di hini 2, dq hdo 15, trivial⟩ ?_
 clear hini hdo
 replace hp:=hp.ext hED
 refine so ?_
 refine wk_postR (rs := [.cell 2 38, .tmp 3]) (.inl rfl) results40 ⟨_, _, _, rfl, rfl, loadVar_agg ag38 (hp.blkAt (i := 1) rfl).at0 rfl, ⟨_, _, rfl, rfl, rfl⟩⟩ ?_
 exact ⟨_, rfl, _, _, x3, _, rfl, hp.tail.tail, mv, (rdTo qhrd3), by first | exact read_ok hst3 (by assumption) rfl | exact read_bad hst3 (by assumption) rfl⟩
set_option maxHeartbeats 40000000 in
theorem nWrite_ok {csx : List Value} {x : Nte} {Sx : Nat → Prop} (hx : noteR.rd Sx w csx x) (hok : noteOk x) (hlen : (noteE x).length ≤ 1000000) : Ret prog 39 #[.agg csx.toArray] w (fun v w' => ∃ A c, v = .slice A (noteE x).length c ∧ OwnB 5 w.heap.size w' A c (noteE x) ∧ Ext w w') := by
 have qhx:=hx
 obtain ⟨hIx, Ax0, cx0, Ax1, cx1, Ax2, cx2, Ax3, cx3, Ax4, cx4, Ax5, cx5, Ax6, cx6, Ax7, cx7, Ax8, cx8, Ax9, cx9, Ax10, cx10, rfl, hx0, hx1, hx2, hx3, hx4, hx5, hx6, hx7, hx8, hx9, hx10⟩ := hx
 refine ret_of_wk func39 rfl ntmps39 leB_ ?_
 have hp:=HP.begin_ w
 refine so ?_
 refine Bx hp (h := fun gs1 w1 hp hE1 => so ?_)
 have hbk:=hp.blkAt (i := 0) rfl
 obtain ⟨Fz2, hp2, hs2, hat2⟩ := (hp.as_ (H' := itB gs1 38 ([iv x.kind, iv x.from_, iv x.group, iv x.epoch, iv x.view, iv x.seq] ++ (digC x.dig ++ ([.slice Ax0 x.batch.length cx0, iv x.ans.err, .slice Ax1 x.ans.data.length cx1, iv x.ans.epoch, .slice Ax2 x.ans.nodes.length cx2, iv x.stamp, iv x.node, iv x.change.node, iv x.change.view, iv x.change.low, .slice Ax3 x.change.marks.length cx3, .slice Ax4 x.change.p.length cx4, .slice Ax5 x.change.q.length cx5, .slice Ax6 x.changes.length cx6, .slice Ax7 x.picks.length cx7, iv x.level, iv x.place, .slice Ax8 x.digs.length cx8, .slice Ax9 x.data.length cx9, .slice Ax10 x.nodes.length cx10]))) :: _) rfl).frzBlk
 have hmb:=MutF.of hbk hat2 rfl
 replace hp:=hp2
 refine so ?_
 refine wl_builtS (ps := []) (by decide) bld89 rfl rfl ?_
 refine Bx hp (h := fun gs5 w3 hp hE3 => so ?_)
 replace hp:=(hp.noRow 5 1).as_ (H' := itR 5 1 none ([] : List UInt8).length 0 (([] : List UInt8).map bv) :: _ :: []) rfl
 replace hp:=(HP.comm [itR 5 1 none ([] : List UInt8).length 0 (([] : List UInt8).map bv)] [_] ([]) hp).as_ (H' := itB gs5 89 [.slice none ([] : List UInt8).length 0] :: itR 5 1 none ([] : List UInt8).length 0 (([] : List UInt8).map bv) :: []) rfl
 refine so ?_
 refine wl_iface (by decide) (by kernel_rfl) rfl ?_
 refine Ce (gShow_ok hp hat2.to (rdTn qhx) hok (by show (0 : Nat) + _ ≤ _; omega) hmb.to) ?_
 rintro _ w4 ⟨A4, c4, hp, hF4⟩
 refine so ?_
 refine Pt ?_
 exact ⟨_, rfl, _, _, rfl, hp.rowLo (i := 1) rfl, hp.chg⟩
theorem kN_li {out : List UInt8} {n : Int} (hp : HP w0 M0 Fz w (itR 5 1 A out.length c (out.map bv) :: H)) (hn : isNum n := by first | assumption | (unfold isNum; omega)) (hl : out.length + (numE n).length ≤ 1000000 := by (try simp only [List.length_append]); omega) : Ret prog 42 #[.slice A out.length c, .int .i64 n] w (RwP 5 w0 M0 Fz w H (out ++ numE n)) := qNum_ok hp hn hl
theorem rm_li {p : Prop} (h : p := by (try simp only [List.length_append]); omega) : p := h
set_option maxHeartbeats 4000000 in
theorem qLists_ok {out : List UInt8} {csx : List Value} {x : Nte} (hp : HP w0 M0 Fz w (itR 5 1 A out.length c (out.map bv) :: H)) (hx : noteR.rd Fz w csx x) (hc : ∀ y ∈ x.changes, changeOk y) (hpk : ∀ y ∈ x.picks, pickOk y) (hnc : isNum (x.changes.length : Int)) (hnp : isNum (x.picks.length : Int)) (hlen : out.length + (listsE x).length ≤ 1000000) : Ret prog 47 #[.slice A out.length c, .agg csx.toArray] w (RwP 5 w0 M0 Fz w H (out ++ listsE x)) := by
 obtain ⟨hIx, Ax0, cx0, Ax1, cx1, Ax2, cx2, Ax3, cx3, Ax4, cx4, Ax5, cx5, Ax6, cx6, Ax7, cx7, Ax8, cx8, Ax9, cx9, Ax10, cx10, rfl, hx0, hx1, hx2, hx3, hx4, hx5, hx6, hx7, hx8, hx9, hx10⟩ := hx
 have mx := hx6.mx
 have my := hx7.mx
 simp only [listsE, listE, List.length_append] at hlen
 refine ret_of_wk func47 rfl ntmps47 leB_ ?_
 refine so ?_
 refine Bx hp (h := fun gs w1 hp E1 => ?_)
 replace hp := hp.up 1 rfl
 refine so ?_
 refine Cr (kN_li (n := (x.changes.length : Int)) hp) fun A1 c1 w2 hp F3 => so ?_
 refine Lp [0, 3, 5] (fun L' w' mes => ∃ (k : Nat), ∃ (A2 : Option Addr), ∃ (c2 : Nat), L' = [(0, .slice A2 (catE changeE (out ++ numE (x.changes.length : Int)) x.changes k).length c2), (3, pt gs 0), (5, iv (k : Int))] ∧ k ≤ x.changes.length ∧ Frz Fz Fz w1 w' ∧ HP w0 M0 Fz w' (itR 5 1 A2 (catE changeE (out ++ numE (x.changes.length : Int)) x.changes k).length c2 ((catE changeE (out ++ numE (x.changes.length : Int)) x.changes k).map bv) :: itB gs 38 _ :: H) ∧ x.changes.length - k = mes) (x.changes.length - 0) ⟨0, A1, c1, by rw [catE_0]; rfl, Nat.zero_le _, mv, by rw [catE_0]; exact hp, rfl⟩ ?_
 rintro _ wr _ ⟨k, A2, c2, rfl, hk, F4, hp, rfl⟩ KL hKL
 refine so ?_
 refine Cd ?_ ?_ <;> intro h1
 · have hk9 : k < x.changes.length := by omega
   have hr := catE_room (E := changeE) (o := out ++ numE (x.changes.length : Int)) change0 hk9
   simp only [List.length_append] at hr
   obtain ⟨ae, p0, q0, p1, q1, p2, q2, hA, hae, hIe, e0, e1, e2⟩ := changeR_el (hx6.to (F := Fz) (w' := wr)) k hk9
   refine so ?_
   refine Cr (qChange_ok hp ⟨hIe, _, _, _, _, _, _, rfl, e0, e1, e2⟩ (getD_ok hc change0 hk9) rm_li) fun A5 c5 w5 hp F5 => so ?_
   have e := catE_s (E := changeE) (o := out ++ numE (x.changes.length : Int)) change0 hk9
   refine Kl [0, 3, 5] hKL (x.changes.length - (k + 1)) ⟨k + 1, A5, c5, by rw [e]; rfl, hk9, mv, by rw [e]; exact hp, rfl⟩ (by omega)
 obtain rfl : k = x.changes.length := by omega
 have hc9 := catE_le changeE (out ++ numE (x.changes.length : Int)) x.changes x.changes.length
 simp only [List.length_append] at hc9
 refine so ?_
 refine Cr (kN_li (n := (x.picks.length : Int)) hp) fun A1 c1 w2 hp F3 => so ?_
 refine Lp [0, 3, 6] (fun L' w' mes => ∃ (k : Nat), ∃ (A2 : Option Addr), ∃ (c2 : Nat), L' = [(0, .slice A2 (catE pickE (catE changeE (out ++ numE (x.changes.length : Int)) x.changes x.changes.length ++ numE (x.picks.length : Int)) x.picks k).length c2), (3, pt gs 0), (6, iv (k : Int))] ∧ k ≤ x.picks.length ∧ Frz Fz Fz w1 w' ∧ HP w0 M0 Fz w' (itR 5 1 A2 (catE pickE (catE changeE (out ++ numE (x.changes.length : Int)) x.changes x.changes.length ++ numE (x.picks.length : Int)) x.picks k).length c2 ((catE pickE (catE changeE (out ++ numE (x.changes.length : Int)) x.changes x.changes.length ++ numE (x.picks.length : Int)) x.picks k).map bv) :: itB gs 38 _ :: H) ∧ x.picks.length - k = mes) (x.picks.length - 0) ⟨0, A1, c1, by rw [catE_0]; rfl, Nat.zero_le _, mv, by rw [catE_0]; exact hp, rfl⟩ ?_
 rintro _ wr _ ⟨k, A2, c2, rfl, hk, F4, hp, rfl⟩ KL hKL
 refine so ?_
 refine Cd ?_ ?_ <;> intro h1
 · have hk9 : k < x.picks.length := by omega
   have hr := catE_room (E := pickE) (o := catE changeE (out ++ numE (x.changes.length : Int)) x.changes x.changes.length ++ numE (x.picks.length : Int)) pick0 hk9
   simp only [pickE, digE, List.length_append] at hr
   obtain ⟨o1, _, o3⟩ := getD_ok hpk pick0 hk9
   obtain ⟨ae, p0, q0, hA, hae, hIe, e0⟩ := pickR_el (hx7.to (F := Fz) (w' := wr)) k hk9
   refine so ?_
   refine Cr (kN_li (n := (x.picks.getD k pick0).seq) hp) fun A3 c3 w3 hp F3 => so ?_
   refine wl_sliceA (by decide) ar23 rfl ?_
   have hd3 := hae.to (F := Fz) (w' := w3)
   refine Ar (l2 := (x.picks.getD k pick0).dig.l) hp (((hd3.at_.drop 1).take 32).bs rfl hd3.inS hd3.lt) rm_li (fun A5 c5 w5 hp C5 => so ?_) (hm := by rw [Dig.h])
   refine Cr (qBatch_ok hp (e0.to (F := Fz)) o3 rm_li) fun A6 c6 w6 hp F6 => so ?_
   have e := catE_s (E := pickE) (o := catE changeE (out ++ numE (x.changes.length : Int)) x.changes x.changes.length ++ numE (x.picks.length : Int)) pick0 hk9
   simp only [pickE, digE, ← List.append_assoc] at e
   refine Kl [0, 3, 6] hKL (x.picks.length - (k + 1)) ⟨k + 1, A6, c6, by rw [e]; rfl, hk9, mv, by rw [e]; exact hp, rfl⟩ (by omega)
 obtain rfl : k = x.picks.length := by omega
 refine so ?_
 refine Pt ?_
 exact enR (hp.up 1 rfl).tail (by rw [catE_all, catE_all]; simp only [listsE, listE, List.append_assoc])
end Go.Proofs.YtkdoomglflikkaaGreat
