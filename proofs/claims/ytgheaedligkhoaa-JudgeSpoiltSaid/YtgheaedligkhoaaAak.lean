/- What each of these functions computes, for every argument that its theorem names; a part of what the proof of JudgeFinds stands on. -/
import Derived.Test.YtgheaedligkhoaaAab
import Derived.Test.YtgheaedligkhoaaAae
import Derived.Test.YtgheaedligkhoaaAag
import Derived.Test.YtgheaedligkhoaaAah
namespace Go.Proofs.Ytgheaedligkhoaa
open Go.RowKit Go.Eng Go.Eng _root_.Go.Proofs.Try
set_option maxRecDepth 100000
variable {w0 w : World} {M0 Fz : Nat → Prop} {H : List It} {A : Option Addr} {c : Nat}
set_option maxHeartbeats 40000000 in
theorem eighth_ok {pk : Addr} {csk : List Value} {k : Lok} {Sk Pk : Nat → Prop} {i : Nat} (hatk : AtF Pk w pk csk) (hk : lokR.rd Sk w csk k)(hi : i < k.l.length) : Ret prog 71 #[.pointer (some pk), .int .i64 (i : Int)] w (fun v w' => v = .bool (decide (R8 (k.l.take i) (k.l.getD i evt0))) ∧ Ext w w') := by
 obtain ⟨hIk, Ak0, ck0, rfl, hk0⟩ := hk
 have mhk0:=hk0.mx
 have hcb:=callS_b (k.l.getD i evt0).a (k.l.take i)
 rw [List.length_take] at hcb
 refine ret_of_wk func71 rfl ntmps71 leB_ ?_
 have hp:=HP.begin_ w
 replace hk0:=hk0.now
 replace hatk:=hatk.now
 refine go ?_
 refine Fe_ fld74_1 rfl ?_
 refine Ld_ sc24 rfl (hatk.get rfl) (go ?_)
 obtain ⟨ae1, pe1_0, qe1_0, pe1_1, qe1_1, pe1_2, qe1_2, pe1_3, qe1_3, hAe1, hate1, hIe1, he1_0, he1_1, he1_2, he1_3⟩ := evtR_el hk0 i (by omega)
 refine wl_idx0 (by decide) sl24 rfl rfl hAe1 i rfl (by omega) ?_
 refine wl_loadA (by decide) ag46 rfl hate1.at_ rfl ?_
 refine wl_halloc (e := 46) (z := .agg #[iv 0, iv 0, iv 0, iv 0, iv 0, iv 0, iv 0, .int .u8 0, .int .u8 0, .int .u8 0, .int .u8 0, .int .u8 0, .int .u8 0, .int .u8 0, .int .u8 0, .int .u8 0, .int .u8 0, .int .u8 0, .int .u8 0, .int .u8 0, .int .u8 0, .int .u8 0, .int .u8 0, .int .u8 0, .int .u8 0, .int .u8 0, .int .u8 0, .int .u8 0, .int .u8 0, .int .u8 0, .int .u8 0, .int .u8 0, .int .u8 0, .int .u8 0, .int .u8 0, .int .u8 0, .int .u8 0, .int .u8 0, .int .u8 0, iv 0, iv 0, iv 0, iv 0, iv 0, iv 0, s0, iv 0, iv 0, s0, iv 0, s0, iv 0, s0]) (by decide) (by kernel_rfl) hp ?_
 rintro gs5 w2 hp2 hE2
 have q0:=hE2
 replace hp:=hp2
 refine wl_hstore (i := 0) rfl rfl hp rfl sz46 leB_ (List.all_eq_true.1 rfl) ?_
 rintro w3 hp3 hC3
 have q1:=hk0.tk.ext q0
 replace q1:=q1.fz hC3
 replace hp:=hp3
 refine go ?_
 refine Fd_ 1 fld46_1 rfl rfl ?_
 refine Hl_ 0 sc3 rfl hp rfl rfl ?_
 refine Ne_ rfl rfl (go ?_)
 refine Cd (fun hc1 => ?_) fun hc1 => ?_
 refine go ?_
 refine P1 results71 ?_
 exact ⟨_, rfl, bool_f (by unfold R8 askK; simp_all; try omega), hp.chg⟩
 refine go ?_
 refine Fd_ 2 fld46_2 rfl rfl ?_
 refine Hl_ 0 sc3 rfl hp rfl rfl ?_
 have hcl:=call_ok (hatk.fr q1) ⟨hIk, _, _, rfl, (hk0.fr q1)⟩ (i := i) (a := ((k.l.getD i evt0).a)) (by omega)
 refine Cl_ cl87 rfl hcl ?_
 clear hcl
 rintro _ _ ⟨rfl, rfl⟩
 refine go ?_
 refine Fd_ 39 fld46_8 rfl rfl ?_
 refine Fd_ 43 fld42_4 rfl rfl ?_
 refine Hl_ 0 sc3 rfl hp rfl rfl ?_
 refine Eq_ rfl rfl (go ?_)
 refine Gs 33 (fun hg2 => ?_) fun hg2 => ?_
 refine go ?_
 refine Gq_ rfl rfl (go ?_)
 refine Gs 47 (fun hg3 => ?_) fun hg3 => ?_
 refine go ?_
 first | refine Nd_ rfl ?_ | refine Nn_ rfl ?_
 refine go ?_
 refine Gs 51 (fun hg4 => ?_) fun hg4 => ?_
 refine go ?_
 refine P1 results71 ?_
 exact ⟨_, rfl, bool_t (by unfold R8 askK; simp_all; try omega), hp.chg⟩
 refine go ?_
 first | refine Nd_ rfl ?_ | refine Nn_ rfl ?_
 refine go ?_
 refine Fd_ 39 fld46_8 rfl rfl (go ?_)
 refine Fd_ 39 fld42_0 rfl rfl (go ?_)
 refine Hl_ 0 sc3 rfl hp rfl rfl (go ?_)
 refine Fd_ 2 fld46_2 rfl rfl (go ?_)
 refine Hl_ 0 sc3 rfl hp rfl rfl (go ?_)
 refine Ne_ rfl rfl (go ?_)
 refine Gs 63 (fun hg5 => ?_) fun hg5 => ?_
 refine go ?_
 refine P1 results71 ?_
 exact ⟨_, rfl, bool_t (by unfold R8 askK; simp_all; try omega), hp.chg⟩
 refine go ?_
 refine Fd_ 39 fld46_8 rfl rfl (go ?_)
 refine Fd_ 40 fld42_1 rfl rfl (go ?_)
 refine Hl_ 0 sc3 rfl hp rfl rfl (go ?_)
 refine wl_add (by decide) rfl rfl (w64 (by omega) (by omega)) (go ?_)
 refine Ne_ rfl rfl (go ?_)
 refine P1 results71 ?_
 exact ⟨_, rfl, congrArg Value.bool (decide_eq_decide.2 (by unfold R8 askK; simp_all; try omega)), hp.chg⟩
 refine go ?_
 first | refine Nd_ rfl ?_ | refine Nn_ rfl ?_
 refine go ?_
 refine Fd_ 39 fld46_8 rfl rfl (go ?_)
 refine Fd_ 39 fld42_0 rfl rfl (go ?_)
 refine Hl_ 0 sc3 rfl hp rfl rfl (go ?_)
 refine Fd_ 2 fld46_2 rfl rfl (go ?_)
 refine Hl_ 0 sc3 rfl hp rfl rfl (go ?_)
 refine Ne_ rfl rfl (go ?_)
 refine Gs 63 (fun hg6 => ?_) fun hg6 => ?_
 refine go ?_
 refine P1 results71 ?_
 exact ⟨_, rfl, bool_t (by unfold R8 askK; simp_all; try omega), hp.chg⟩
 refine go ?_
 refine Fd_ 39 fld46_8 rfl rfl (go ?_)
 refine Fd_ 40 fld42_1 rfl rfl (go ?_)
 refine Hl_ 0 sc3 rfl hp rfl rfl (go ?_)
 refine wl_add (by decide) rfl rfl (w64 (by omega) (by omega)) (go ?_)
 refine Ne_ rfl rfl (go ?_)
 refine P1 results71 ?_
 exact ⟨_, rfl, congrArg Value.bool (decide_eq_decide.2 (by unfold R8 askK; simp_all; try omega)), hp.chg⟩
 refine go ?_
 refine Fd_ 39 fld46_8 rfl rfl (go ?_)
 refine Fd_ 43 fld42_4 rfl rfl (go ?_)
 refine Hl_ 0 sc3 rfl hp rfl rfl (go ?_)
 refine Eq_ rfl rfl (go ?_)
 refine Gs 39 (fun hg7 => ?_) fun hg7 => ?_
 refine go ?_
 refine Gq_ rfl rfl (go ?_)
 refine Gs 47 (fun hg8 => ?_) fun hg8 => ?_
 refine go ?_
 first | refine Nd_ rfl ?_ | refine Nn_ rfl ?_
 refine go ?_
 refine Gs 51 (fun hg9 => ?_) fun hg9 => ?_
 refine go ?_
 refine P1 results71 ?_
 exact ⟨_, rfl, bool_t (by unfold R8 askK; simp_all; try omega), hp.chg⟩
 refine go ?_
 first | refine Nd_ rfl ?_ | refine Nn_ rfl ?_
 refine go ?_
 refine Fd_ 39 fld46_8 rfl rfl (go ?_)
 refine Fd_ 39 fld42_0 rfl rfl (go ?_)
 refine Hl_ 0 sc3 rfl hp rfl rfl (go ?_)
 refine Fd_ 2 fld46_2 rfl rfl (go ?_)
 refine Hl_ 0 sc3 rfl hp rfl rfl (go ?_)
 refine Ne_ rfl rfl (go ?_)
 refine Gs 63 (fun hg10 => ?_) fun hg10 => ?_
 refine go ?_
 refine P1 results71 ?_
 exact ⟨_, rfl, bool_t (by unfold R8 askK; simp_all; try omega), hp.chg⟩
 refine go ?_
 refine Fd_ 39 fld46_8 rfl rfl (go ?_)
 refine Fd_ 40 fld42_1 rfl rfl (go ?_)
 refine Hl_ 0 sc3 rfl hp rfl rfl (go ?_)
 refine wl_add (by decide) rfl rfl (w64 (by omega) (by omega)) (go ?_)
 refine Ne_ rfl rfl (go ?_)
 refine P1 results71 ?_
 exact ⟨_, rfl, congrArg Value.bool (decide_eq_decide.2 (by unfold R8 askK; simp_all; try omega)), hp.chg⟩
 refine go ?_
 first | refine Nd_ rfl ?_ | refine Nn_ rfl ?_
 refine go ?_
 refine Fd_ 39 fld46_8 rfl rfl (go ?_)
 refine Fd_ 39 fld42_0 rfl rfl (go ?_)
 refine Hl_ 0 sc3 rfl hp rfl rfl (go ?_)
 refine Fd_ 2 fld46_2 rfl rfl (go ?_)
 refine Hl_ 0 sc3 rfl hp rfl rfl (go ?_)
 refine Ne_ rfl rfl (go ?_)
 refine Gs 63 (fun hg11 => ?_) fun hg11 => ?_
 refine go ?_
 refine P1 results71 ?_
 exact ⟨_, rfl, bool_t (by unfold R8 askK; simp_all; try omega), hp.chg⟩
 refine go ?_
 refine Fd_ 39 fld46_8 rfl rfl (go ?_)
 refine Fd_ 40 fld42_1 rfl rfl (go ?_)
 refine Hl_ 0 sc3 rfl hp rfl rfl (go ?_)
 refine wl_add (by decide) rfl rfl (w64 (by omega) (by omega)) (go ?_)
 refine Ne_ rfl rfl (go ?_)
 refine P1 results71 ?_
 exact ⟨_, rfl, congrArg Value.bool (decide_eq_decide.2 (by unfold R8 askK; simp_all; try omega)), hp.chg⟩
 refine go ?_
 refine Fd_ 39 fld46_8 rfl rfl (go ?_)
 refine Fd_ 43 fld42_4 rfl rfl (go ?_)
 refine Hl_ 0 sc3 rfl hp rfl rfl (go ?_)
 refine Eq_ rfl rfl (go ?_)
 refine Gq_ rfl rfl (go ?_)
 refine Gs 47 (fun hg12 => ?_) fun hg12 => ?_
 refine go ?_
 first | refine Nd_ rfl ?_ | refine Nn_ rfl ?_
 refine go ?_
 refine Gs 51 (fun hg13 => ?_) fun hg13 => ?_
 refine go ?_
 refine P1 results71 ?_
 exact ⟨_, rfl, bool_t (by unfold R8 askK; simp_all; try omega), hp.chg⟩
 refine go ?_
 first | refine Nd_ rfl ?_ | refine Nn_ rfl ?_
 refine go ?_
 refine Gs 55 (fun hg14 => ?_) fun hg14 => ?_
 refine go ?_
 refine P1 results71 ?_
 exact ⟨_, rfl, bool_t (by unfold R8 askK; simp_all; try omega), hp.chg⟩
 refine go ?_
 refine Fd_ 39 fld46_8 rfl rfl (go ?_)
 refine Fd_ 39 fld42_0 rfl rfl (go ?_)
 refine Hl_ 0 sc3 rfl hp rfl rfl (go ?_)
 refine Fd_ 2 fld46_2 rfl rfl (go ?_)
 refine Hl_ 0 sc3 rfl hp rfl rfl (go ?_)
 refine Ne_ rfl rfl (go ?_)
 refine Gs 63 (fun hg15 => ?_) fun hg15 => ?_
 refine go ?_
 refine P1 results71 ?_
 exact ⟨_, rfl, bool_t (by unfold R8 askK; simp_all; try omega), hp.chg⟩
 refine go ?_
 refine Fd_ 39 fld46_8 rfl rfl (go ?_)
 refine Fd_ 40 fld42_1 rfl rfl (go ?_)
 refine Hl_ 0 sc3 rfl hp rfl rfl (go ?_)
 refine wl_add (by decide) rfl rfl (w64 (by omega) (by omega)) (go ?_)
 refine Ne_ rfl rfl (go ?_)
 refine P1 results71 ?_
 exact ⟨_, rfl, congrArg Value.bool (decide_eq_decide.2 (by unfold R8 askK; simp_all; try omega)), hp.chg⟩
 refine go ?_
 first | refine Nd_ rfl ?_ | refine Nn_ rfl ?_
 refine go ?_
 refine Gs 55 (fun hg16 => ?_) fun hg16 => ?_
 refine go ?_
 refine P1 results71 ?_
 exact ⟨_, rfl, bool_t (by unfold R8 askK; simp_all; try omega), hp.chg⟩
 refine go ?_
 refine Fd_ 39 fld46_8 rfl rfl (go ?_)
 refine Fd_ 39 fld42_0 rfl rfl (go ?_)
 refine Hl_ 0 sc3 rfl hp rfl rfl (go ?_)
 refine Fd_ 2 fld46_2 rfl rfl (go ?_)
 refine Hl_ 0 sc3 rfl hp rfl rfl (go ?_)
 refine Ne_ rfl rfl (go ?_)
 refine Gs 63 (fun hg17 => ?_) fun hg17 => ?_
 refine go ?_
 refine P1 results71 ?_
 exact ⟨_, rfl, bool_t (by unfold R8 askK; simp_all; try omega), hp.chg⟩
 refine go ?_
 refine Fd_ 39 fld46_8 rfl rfl (go ?_)
 refine Fd_ 40 fld42_1 rfl rfl (go ?_)
 refine Hl_ 0 sc3 rfl hp rfl rfl (go ?_)
 refine wl_add (by decide) rfl rfl (w64 (by omega) (by omega)) (go ?_)
 refine Ne_ rfl rfl (go ?_)
 refine P1 results71 ?_
 exact ⟨_, rfl, congrArg Value.bool (decide_eq_decide.2 (by unfold R8 askK; simp_all; try omega)), hp.chg⟩
end Go.Proofs.Ytgheaedligkhoaa
