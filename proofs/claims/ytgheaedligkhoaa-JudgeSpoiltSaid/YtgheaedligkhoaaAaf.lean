/- What each of these functions computes, for every argument that its theorem names; a part of what the proof of JudgeFinds stands on. -/
import Derived.Test.YtgheaedligkhoaaAab
import Derived.Test.YtgheaedligkhoaaAac
import Derived.Test.YtgheaedligkhoaaAad
import Derived.Test.YtgheaedligkhoaaAae
namespace Go.Proofs.Ytgheaedligkhoaa
open Go.RowKit Go.Eng Go.Eng _root_.Go.Proofs.Try
set_option maxRecDepth 100000
variable {w0 w : World} {M0 Fz : Nat → Prop} {H : List It} {A : Option Addr} {c : Nat}
theorem t0_jSameW_ok {p : Prop} (h : p := by exact Hx_ ([iv a.client, iv a.stamp, iv a.group, iv a.epoch, iv a.kind, iv a.block, .slice Aa0 a.data.length ca0, iv a.old, iv a.new, .slice Aa1 a.next.length ca1]) 1 ag42 (hk.pi 2) (hp.ext hER) rfl rfl rfl qz) : p := h
theorem t1_jSameW_ok {p : Prop} (h : p := by exact Hx_ ([iv b.client, iv b.stamp, iv b.group, iv b.epoch, iv b.kind, iv b.block, .slice Ab0 b.data.length cb0, iv b.old, iv b.new, .slice Ab1 b.next.length cb1]) 0 ag42 (hk.pi 3) (hp.ext hER) rfl rfl rfl qz) : p := h
theorem t2_jSameW_ok {p : Prop} (h : p := by rw [Wsh_eq]; have hp8 := @plain8_iff a b; simp_all; try omega) : p := h
theorem t3_jSameW_ok {p : Prop} (h : p := by simp only [evs, ev, e10]; first | done | rfl) : p := h
theorem t4_jSameW_ok {p : Prop} (h : p := by simp only [evs, ev, e7]; first | done | rfl) : p := h
theorem t5_jSameW_ok {p : Prop} (h : p := by first | exact hs1 | omega | simpa using hs1) : p := h
set_option maxHeartbeats 40000000 in
theorem jSameW_ok {csa : List Value} {a : Wsh} {Sa : Nat → Prop} {csb : List Value} {b : Wsh} {Sb : Nat → Prop} (ha : wishR.rd Sa w csa a) (hb : wishR.rd Sb w csb b) : Ret prog 53 #[.agg csa.toArray, .agg csb.toArray] w (fun v w' => v = .bool (decide (a = b)) ∧ Ext w w') := by
 have qha:=ha
 obtain ⟨hIa, Aa0, ca0, Aa1, ca1, rfl, ha0, ha1⟩ := ha
 have qhb:=hb
 obtain ⟨hIb, Ab0, cb0, Ab1, cb1, rfl, hb0, hb1⟩ := hb
 refine ret_of_wk func53 rfl ntmps53 leB_ ?_
 have hp:=HP.begin_ w
 refine so ?_
 refine Bx hp (h := fun gs2 w1 hp hE1 => ?_)
 refine Bx hp (h := fun gs3 w2 hp hE2 => so ?_)
 by_cases hs1 : (plain8 a) = (plain8 b)
 by_cases hs2 : a.data = b.data
 apply wdL [.eq _,.eq _,.eq _,.eq _,.eq _,.eq _,.eq (.bool true),.eq (.bool true),.eq _,.eq _,.eq _,.eq _,.eq (.bool true),.eq (.bool true),.eq (.bool true),.eq _,.eq _,.eq _,.eq _,.eq _,.eq _,.eq _]
 refine ⟨?_,?_,?_,?_,?_,?_,?_,?_,?_,?_,?_,?_,?_,?_,?_,?_,?_,?_,?_,?_,?_,?_,trivial⟩<;>intro F wF hER hk
 exact dm (hk.pi 5)
 exact t0_jSameW_ok
 have e6:=hk.pe 0
 have e7:=hk.pe 1
 have hcl:=jsame1_ok (rdTn qha (w' := wF))
 refine wl_callv (f := 77) (first := []) (cap := []) (vs := [_]) (by decide) cl77 e6 t4_jSameW_ok hcl ?_
 clear hcl
 rintro _ w7 ⟨rfl, hE7⟩
 exact qz ⟨hE7, rfl⟩
 exact dm (hk.pi 5)
 exact t1_jSameW_ok
 have e9:=hk.pe 3
 have e10:=hk.pe 4
 have hcl:=jsame1_ok (rdTn qhb (w' := wF))
 refine wl_callv (f := 77) (first := []) (cap := []) (vs := [_]) (by decide) cl77 e9 t3_jSameW_ok hcl ?_
 clear hcl
 rintro _ w7 ⟨rfl, hE7⟩
 exact qz ⟨hE7, rfl⟩
 have e8:=hk.pe 2
 have e11:=hk.pe 5
 refine wl_eqlK (m := 6) ((plain8 a) = (plain8 b)) (by decide) key113 eg113 e8 e11 hIa.fit hIb.fit plain8_inj ?_
 exact wl_re (k := 12) (v := .bool true) rfl (congrArg Value.bool (decide_eq_true t5_jSameW_ok)) qy
 exact dm (hk.pe 6)
 have e2:=hk.pi 2
 have e13:=hk.pe 7
 refine wl_gyes rfl e13 ?_
 exact Fd_ 6 fld42_6 e2 rfl qz
 have e14:=hk.pe 8
 have e13:=hk.pe 7
 refine wl_gyes rfl e13 ?_
 exact Hl_ 1 sc40 e14 (hp.ext hER) rfl rfl qz
 have e3:=hk.pi 3
 have e13:=hk.pe 7
 refine wl_gyes rfl e13 ?_
 exact Fd_ 6 fld42_6 e3 rfl qz
 have e16:=hk.pe 10
 have e13:=hk.pe 7
 refine wl_gyes rfl e13 ?_
 exact Hl_ 0 sc40 e16 (hp.ext hER) rfl rfl qz
 have e15:=hk.pe 9
 have e17:=hk.pe 11
 have e13:=hk.pe 7
 refine wl_gyes rfl e13 ?_
 have hcl:=jbequal_ok (ha0.tn (w' := wF)) (hb0.tn (w' := wF))
 refine Cl_ cl61 (by simp only [evs, ev, e15, e17]; first | done | rfl) hcl ?_
 clear hcl
 rintro _ w7 ⟨rfl, hE7⟩
 refine wl_re (k := 18) (v := .bool true) rfl (congrArg Value.bool (decide_eq_true (by first | exact hs2 | omega | simpa using hs2))) ?_
 exact qy ⟨hE7, rfl⟩
 have e13:=hk.pe 7
 have e18:=hk.pe 12
 exact Pk_ e13 e18 qz
 exact dm (hk.pe 13)
 have e2:=hk.pi 2
 have e20:=hk.pe 14
 refine wl_gyes rfl e20 ?_
 exact Fd_ 9 fld42_9 e2 rfl qz
 have e21:=hk.pe 15
 have e20:=hk.pe 14
 refine wl_gyes rfl e20 ?_
 exact Hl_ 1 sc33 e21 (hp.ext hER) rfl rfl qz
 have e3:=hk.pi 3
 have e20:=hk.pe 14
 refine wl_gyes rfl e20 ?_
 exact Fd_ 9 fld42_9 e3 rfl qz
 have e23:=hk.pe 17
 have e20:=hk.pe 14
 refine wl_gyes rfl e20 ?_
 exact Hl_ 0 sc33 e23 (hp.ext hER) rfl rfl qz
 have e22:=hk.pe 16
 have e24:=hk.pe 18
 have e20:=hk.pe 14
 refine wl_gyes rfl e20 ?_
 have hcl:=seqI_ok (ha1.tn (w' := wF)) (hb1.tn (w' := wF))
 refine Cl_ cl78 (by simp only [evs, ev, e22, e24]; first | done | rfl) hcl ?_
 clear hcl
 rintro _ w7 ⟨rfl, hE7⟩
 exact qz ⟨hE7, rfl⟩
 have e20:=hk.pe 14
 have e25:=hk.pe 19
 exact Pk_ e20 e25 qz
 exact wl_assign (by decide) (hk.pe 20) qz
 intro F wD hED hini hdo
 refine wk_drop [(4, _)] ⟨dq hdo 21, trivial⟩ ?_
 clear hini hdo
 replace hp:=hp.ext hED
 refine so ?_
 refine Pt ?_
 exact ⟨_, rfl, congrArg Value.bool (decide_eq_decide.2 t2_jSameW_ok), hp.chg⟩
 apply wdL [.eq _,.eq _,.eq _,.eq _,.eq _,.eq _,.eq (.bool true),.eq (.bool true),.eq _,.eq _,.eq _,.eq _,.eq (.bool false),.eq (.bool false),.eq (.bool false),.eq undef,.eq undef,.eq undef,.eq undef,.eq undef,.eq (.bool false),.eq (.bool false)]
 refine ⟨?_,?_,?_,?_,?_,?_,?_,?_,?_,?_,?_,?_,?_,?_,?_,?_,?_,?_,?_,?_,?_,?_,trivial⟩<;>intro F wF hER hk
 exact dm (hk.pi 5)
 exact t0_jSameW_ok
 have e6:=hk.pe 0
 have e7:=hk.pe 1
 have hcl:=jsame1_ok (rdTn qha (w' := wF))
 refine wl_callv (f := 77) (first := []) (cap := []) (vs := [_]) (by decide) cl77 e6 t4_jSameW_ok hcl ?_
 clear hcl
 rintro _ w7 ⟨rfl, hE7⟩
 exact qz ⟨hE7, rfl⟩
 exact dm (hk.pi 5)
 exact t1_jSameW_ok
 have e9:=hk.pe 3
 have e10:=hk.pe 4
 have hcl:=jsame1_ok (rdTn qhb (w' := wF))
 refine wl_callv (f := 77) (first := []) (cap := []) (vs := [_]) (by decide) cl77 e9 t3_jSameW_ok hcl ?_
 clear hcl
 rintro _ w7 ⟨rfl, hE7⟩
 exact qz ⟨hE7, rfl⟩
 have e8:=hk.pe 2
 have e11:=hk.pe 5
 refine wl_eqlK (m := 6) ((plain8 a) = (plain8 b)) (by decide) key113 eg113 e8 e11 hIa.fit hIb.fit plain8_inj ?_
 exact wl_re (k := 12) (v := .bool true) rfl (congrArg Value.bool (decide_eq_true t5_jSameW_ok)) qy
 exact dm (hk.pe 6)
 have e2:=hk.pi 2
 have e13:=hk.pe 7
 refine wl_gyes rfl e13 ?_
 exact Fd_ 6 fld42_6 e2 rfl qz
 have e14:=hk.pe 8
 have e13:=hk.pe 7
 refine wl_gyes rfl e13 ?_
 exact Hl_ 1 sc40 e14 (hp.ext hER) rfl rfl qz
 have e3:=hk.pi 3
 have e13:=hk.pe 7
 refine wl_gyes rfl e13 ?_
 exact Fd_ 6 fld42_6 e3 rfl qz
 have e16:=hk.pe 10
 have e13:=hk.pe 7
 refine wl_gyes rfl e13 ?_
 exact Hl_ 0 sc40 e16 (hp.ext hER) rfl rfl qz
 have e15:=hk.pe 9
 have e17:=hk.pe 11
 have e13:=hk.pe 7
 refine wl_gyes rfl e13 ?_
 have hcl:=jbequal_ok (ha0.tn (w' := wF)) (hb0.tn (w' := wF))
 refine Cl_ cl61 (by simp only [evs, ev, e15, e17]; first | done | rfl) hcl ?_
 clear hcl
 rintro _ w7 ⟨rfl, hE7⟩
 refine wl_re (k := 18) (v := .bool false) rfl (congrArg Value.bool (decide_eq_false (by first | exact hs2 | omega | simpa using hs2))) ?_
 exact qy ⟨hE7, rfl⟩
 have e13:=hk.pe 7
 have e18:=hk.pe 12
 exact Pk_ e13 e18 qz
 exact dm (hk.pe 13)
 exact dn (hk.pe 14)
 exact dn (hk.pe 14)
 exact dn (hk.pe 14)
 exact dn (hk.pe 14)
 exact dn (hk.pe 14)
 have e20:=hk.pe 14
 have e25:=hk.pe 19
 exact Pk_ e20 rfl qz
 exact wl_assign (by decide) (hk.pe 20) qz
 intro F wD hED hini hdo
 refine wk_drop [(4, _)] ⟨dq hdo 21, trivial⟩ ?_
 clear hini hdo
 replace hp:=hp.ext hED
 refine so ?_
 refine Pt ?_
 exact ⟨_, rfl, bool_f t2_jSameW_ok, hp.chg⟩
 apply wdL [.eq _,.eq _,.eq _,.eq _,.eq _,.eq _,.eq (.bool false),.eq (.bool false),.eq undef,.eq undef,.eq undef,.eq undef,.eq undef,.eq (.bool false),.eq (.bool false),.eq undef,.eq undef,.eq undef,.eq undef,.eq undef,.eq (.bool false),.eq (.bool false)]
 refine ⟨?_,?_,?_,?_,?_,?_,?_,?_,?_,?_,?_,?_,?_,?_,?_,?_,?_,?_,?_,?_,?_,?_,trivial⟩<;>intro F wF hER hk
 exact dm (hk.pi 5)
 exact t0_jSameW_ok
 have e6:=hk.pe 0
 have e7:=hk.pe 1
 have hcl:=jsame1_ok (rdTn qha (w' := wF))
 refine wl_callv (f := 77) (first := []) (cap := []) (vs := [_]) (by decide) cl77 e6 t4_jSameW_ok hcl ?_
 clear hcl
 rintro _ w7 ⟨rfl, hE7⟩
 exact qz ⟨hE7, rfl⟩
 exact dm (hk.pi 5)
 exact t1_jSameW_ok
 have e9:=hk.pe 3
 have e10:=hk.pe 4
 have hcl:=jsame1_ok (rdTn qhb (w' := wF))
 refine wl_callv (f := 77) (first := []) (cap := []) (vs := [_]) (by decide) cl77 e9 t3_jSameW_ok hcl ?_
 clear hcl
 rintro _ w7 ⟨rfl, hE7⟩
 exact qz ⟨hE7, rfl⟩
 have e8:=hk.pe 2
 have e11:=hk.pe 5
 refine wl_eqlK (m := 6) ((plain8 a) = (plain8 b)) (by decide) key113 eg113 e8 e11 hIa.fit hIb.fit plain8_inj ?_
 exact wl_re (k := 12) (v := .bool false) rfl (congrArg Value.bool (decide_eq_false t5_jSameW_ok)) qy
 exact dm (hk.pe 6)
 exact dn (hk.pe 7)
 exact dn (hk.pe 7)
 exact dn (hk.pe 7)
 exact dn (hk.pe 7)
 exact dn (hk.pe 7)
 have e13:=hk.pe 7
 have e18:=hk.pe 12
 exact Pk_ e13 rfl qz
 exact dm (hk.pe 13)
 exact dn (hk.pe 14)
 exact dn (hk.pe 14)
 exact dn (hk.pe 14)
 exact dn (hk.pe 14)
 exact dn (hk.pe 14)
 have e20:=hk.pe 14
 have e25:=hk.pe 19
 exact Pk_ e20 rfl qz
 exact wl_assign (by decide) (hk.pe 20) qz
 intro F wD hED hini hdo
 refine wk_drop [(4, _)] ⟨dq hdo 21, trivial⟩ ?_
 clear hini hdo
 replace hp:=hp.ext hED
 refine so ?_
 refine Pt ?_
 exact ⟨_, rfl, bool_f t2_jSameW_ok, hp.chg⟩
set_option maxHeartbeats 40000000 in
theorem rmay_ok {csp : List Value} {p : Pln} {Sp : Nat → Prop} (hp : plnR.rd Sp w csp p) : Ret prog 10 #[.agg csp.toArray] w (fun v w' => v = .bool (decide (PlnMay p)) ∧ Ext w w') := by
 obtain ⟨hIp, rfl⟩ := hp
 refine ret_of_wk func10 rfl ntmps10 leB_ ?_
 have hp:=HP.begin_ w
 refine so ?_
 refine Bx hp (h := fun gs1 w1 hp hE1 => so ?_)
 refine Gs 6 ?_ ?_<;>intro hg1<;>refine so ?_
 refine aT (so ?_)
 refine Pt ?_
 exact ⟨_, rfl, bool_f (by unfold PlnMay; omega), hp.chg⟩
 refine Gs 11 ?_ ?_<;>intro hg2<;>refine so ?_
 refine aT (so ?_)
 refine Pt ?_
 exact ⟨_, rfl, bool_f (by unfold PlnMay; omega), hp.chg⟩
 refine Gs 16 ?_ ?_<;>intro hg3<;>refine so ?_
 refine aT (so ?_)
 refine Pt ?_
 exact ⟨_, rfl, bool_f (by unfold PlnMay; omega), hp.chg⟩
 refine Gs 21 ?_ ?_<;>intro hg4<;>refine so ?_
 refine aT (so ?_)
 refine Pt ?_
 exact ⟨_, rfl, bool_f (by unfold PlnMay; omega), hp.chg⟩
 refine Gs 26 ?_ ?_<;>intro hg5<;>refine so ?_
 refine aT (so ?_)
 refine Pt ?_
 exact ⟨_, rfl, bool_f (by unfold PlnMay; omega), hp.chg⟩
 refine Gs 31 ?_ ?_<;>intro hg6<;>refine so ?_
 refine aT (so ?_)
 refine Pt ?_
 exact ⟨_, rfl, bool_f (by unfold PlnMay; omega), hp.chg⟩
 refine Gs 36 ?_ ?_<;>intro hg7<;>refine so ?_
 refine aT (so ?_)
 refine Pt ?_
 exact ⟨_, rfl, bool_f (by unfold PlnMay; omega), hp.chg⟩
 refine Cd ?_ ?_<;>intro hc8<;>refine so ?_
 refine Pt ?_
 exact ⟨_, rfl, bool_f (by unfold PlnMay; omega), hp.chg⟩
 refine Cx hp (rnodes_ok (Sp := fun _ => True) ⟨hIp, rfl⟩ (by omega) (by omega) (by omega)) fun w2 hp hE2 => so ?_
 refine Gs 44 ?_ ?_<;>intro hg9<;>refine so ?_
 refine Pt ?_
 exact ⟨_, rfl, congrArg Value.bool (decide_eq_decide.2 (by unfold PlnMay; omega)), hp.chg⟩
 refine Pt ?_
 exact ⟨_, rfl, bool_f (by unfold PlnMay; omega), hp.chg⟩
set_option maxHeartbeats 40000000 in
theorem rbad_ok {pk : Addr} {csk : List Value} {k : Lok} {Sk Pk : Nat → Prop} {n : Int} (hatk : AtF Pk w pk csk) (hk : lokR.rd Sk w csk k) : Ret prog 83 #[.pointer (some pk), .int .i64 n] w (fun v w' => v = .bool (decide (badP k.p n)) ∧ w' = w) := by
 obtain ⟨hIk, Ak0, ck0, rfl, hk0⟩ := hk
 refine ret_of_wk func83 rfl ntmps83 leB_ ?_
 refine so ?_
 refine Gs 7 ?_ ?_<;>intro hg1<;>refine so ?_
 refine Gs 11 ?_ ?_<;>intro hg2<;>refine so ?_
 refine wl_shr (by decide) rfl rfl (by omega) (shrI (by omega) (by omega)) ?_
 refine so ?_
 refine wl_and (by decide) rfl rfl (and1I _) ?_
 refine so ?_
 refine Gs 22 ?_ ?_<;>intro hg3<;>refine so ?_
 refine Pt ?_
 exact ⟨_, rfl, bool_t (by unfold badP bitP; omega), rfl⟩
 refine Gs 25 ?_ ?_<;>intro hg4<;>refine so ?_
 refine Pt ?_
 exact ⟨_, rfl, congrArg Value.bool (decide_eq_decide.2 (by unfold badP bitP; omega)), rfl⟩
 refine Pt ?_
 exact ⟨_, rfl, bool_f (by unfold badP bitP; omega), rfl⟩
 refine Gs 25 ?_ ?_<;>intro hg5<;>refine so ?_
 refine Pt ?_
 exact ⟨_, rfl, congrArg Value.bool (decide_eq_decide.2 (by unfold badP bitP; omega)), rfl⟩
 refine Pt ?_
 exact ⟨_, rfl, bool_f (by unfold badP bitP; omega), rfl⟩
 refine Gs 25 ?_ ?_<;>intro hg6<;>refine so ?_
 refine Pt ?_
 exact ⟨_, rfl, congrArg Value.bool (decide_eq_decide.2 (by unfold badP bitP; omega)), rfl⟩
 refine Pt ?_
 exact ⟨_, rfl, bool_f (by unfold badP bitP; omega), rfl⟩
theorem may_ok {A B : Option Addr} {c d : Nat} {H : List HOp} {p : List Nat} {s : Nat} {S S2 : Nat → Prop} {C : Option Addr} {e i : Nat} {v0 first : List UInt8} {last : Int} {S3 : Nat → Prop} (h : HS S w A c H) (ho : IS S2 w B d (nats p)) (hs : ∀ k, s.testBit k = decide (k ∈ p)) (hv : BS S3 w C e v0) (hv0 : v0 = valueOf H first last) (hi : i < H.length) : Ret prog 105 #[.slice A H.length c, .slice B (nats p).length d, .slice C v0.length e, .int .i64 (i : Int)] w (fun v w' => v = .bool (allowS H first s last i) ∧ Ext w w') := by
 obtain ⟨aI, BI, dI, hAI, hatI, hvI⟩ := HS.el h i hi
 refine ret_of_wk func105 rfl ntmps105 leB_ ?_
 have hEc : Ext w w := Chg.refl _ _
 refine go ?_
 refine Cl_ cl106 rfl (has_ok ho) ?_
 rintro _ w1 ⟨rfl, hE1⟩
 have q0:=hE1
 replace hEc:=hEc.trans hE1
 refine go ?_
 refine Gs 13 (fun hin => ?_) fun hin => ?_
 have hno:=allow_no_bit (H := H) (f := first) (last := last) (s := s) (i := i) (by rw [hs]; exact decide_eq_true (nats_mem.1 hin))
 refine go ?_
 refine wc_cond_t rfl (go ?_)
 refine P1 results105 ?_
 exact ⟨_, rfl, by rw [hno], hEc⟩
 replace hin : s.testBit i = false := by rw [hs]; exact decide_eq_false (fun x => hin (nats_mem.2 x))
 refine go ?_
 refine wl_idx0 (by decide) sl129 rfl rfl hAI i rfl (by omega) (go ?_)
 refine Fe_ fld139_0 rfl (go ?_)
 refine Ld_ sc4 rfl ((hatI.ext q0).get rfl) (go ?_)
 first | refine Nd_ rfl ?_ | refine Nn_ rfl ?_
 refine go ?_
 refine Gs 20 (fun hwr => ?_) fun hwr => ?_
 replace hwr : (hop H i).wr = false := by simpa using hwr
 refine go ?_
 refine wl_idx0 (by decide) sl129 rfl rfl hAI i rfl (by omega) (go ?_)
 refine Fe_ fld139_1 rfl (go ?_)
 refine Ld_ sc40 rfl ((hatI.ext q0).get rfl) (go ?_)
 have hcl:=eqBytes_ok (hvI.ext q0) (hv.ext q0)
 refine Cl_ cl75 rfl hcl ?_
 clear hcl
 rintro _ w2 ⟨rfl, hE2⟩
 replace q0:=q0.trans hE2
 replace hEc:=hEc.trans hE2
 refine go ?_
 first | refine Nd_ rfl ?_ | refine Nn_ rfl ?_
 refine go ?_
 refine Cd (fun hne => ?_) fun hne => ?_
 have hno:=allow_no_val (H := H) (f := first) (last := last) (s := s) (i := i) hwr (by rw [← hv0]; exact hne)
 refine go ?_
 refine P1 results105 ?_
 exact ⟨_, rfl, by rw [hno], hEc⟩
 have hval : (hop H i).wr = true ∨ (hop H i).val = valueOf H first last := .inr (by rw [← hv0]; exact Decidable.not_not.1 hne)
 refine go ?_
 refine wc_loop (fun L' w' mes => ∃ (k : Nat), L' = [(0, .slice A H.length c), (1, .slice B (nats p).length d), (3, iv (i : Int)), (9, iv (k : Int))] ∧ (k ≤ H.length) ∧ (∀ j, j < k → 0 < (hop H j).e → (hop H j).e < (hop H i).b → s.testBit j = true) ∧ (HS S w' A c H) ∧ (IS S2 w' B d (nats p)) ∧ (AtF S w' (aI.add (i * 4)) _) ∧ (Ext w w') ∧ H.length - k = mes) [(0, .slice A H.length c), (1, .slice B (nats p).length d), (3, iv (i : Int)), (9, iv (0 : Int))] (H.length - 0) (by
     refine ⟨0, rfl, ?_, ?_, ?_, ?_, ?_, ?_, rfl⟩
     · omega
     · intro j hj; omega
     · exact (h.ext q0)
     · exact (ho.ext q0)
     · exact (hatI.ext q0)
     · exact hEc) ⟨rfl, rfl, rfl, rfl, trivial⟩ ?_
 rintro _ wr _ ⟨k, rfl, hk, hall, h, ho, hatI, hEc, rfl⟩ KL1 hKL1
 have hmx:=h.mx
 refine go ?_
 refine Ln_ underlying129 rfl ?_
 refine Ls_ rfl rfl (go ?_)
 refine Cd (fun hlt => ?_) fun hlt => ?_
 obtain ⟨aL, BL, dL, hAL, hatL, hvL⟩ := HS.el h k (by omega)
 refine go ?_
 by_cases h5 : 0 < (hop H k).e
 by_cases h17 : (hop H k).e < (hop H i).b
 apply wdL [.eq _,.eq _,.eq _,.eq _,.eq _,.eq (.bool true),.eq (.bool true),.eq _,.eq _,.eq _,.eq _,.eq _,.eq _,.eq _,.eq _,.eq _,.eq _,.eq (.bool true),.eq (.bool true),.eq (.bool true),.eq _,.eq _,.eq _,.eq _,.eq _]
 refine ⟨?_,?_,?_,?_,?_,?_,?_,?_,?_,?_,?_,?_,?_,?_,?_,?_,?_,?_,?_,?_,?_,?_,?_,?_,?_,trivial⟩<;>intro F wF hER hk
 exact dm (hk.pi 0)
 exact dm (hk.pi 9)
 have e37:=hk.pe 0
 have e38:=hk.pe 1
 exact wl_idx0 (by decide) sl129 e37 e38 hAL k rfl (by omega) qz
 exact Fe_ fld139_3 (hk.pe 2) qz
 exact Ld_ sc3 (hk.pe 3) ((hatL.ext hER).get rfl) qz
 have e41:=hk.pe 4
 refine Gt_ e41 rfl ?_
 exact wl_re (k := 42) (v := .bool true) rfl (congrArg Value.bool (decide_eq_true (by first | exact h5 | omega | simpa using h5))) qy
 exact dm (hk.pe 5)
 have e0:=hk.pi 0
 have e43:=hk.pe 6
 refine wl_gyes rfl e43 ?_
 exact Mv_ e0 qz
 have e9:=hk.pi 9
 have e43:=hk.pe 6
 refine wl_gyes rfl e43 ?_
 exact Mv_ e9 qz
 have e44:=hk.pe 7
 have e45:=hk.pe 8
 have e43:=hk.pe 6
 refine wl_gyes rfl e43 ?_
 exact wl_idx0 (by decide) sl129 e44 e45 hAL k rfl (by omega) qz
 have e46:=hk.pe 9
 have e43:=hk.pe 6
 refine wl_gyes rfl e43 ?_
 exact Fe_ fld139_3 e46 qz
 have e47:=hk.pe 10
 have e43:=hk.pe 6
 refine wl_gyes rfl e43 ?_
 exact Ld_ sc3 e47 ((hatL.ext hER).get rfl) qz
 have e0:=hk.pi 0
 have e43:=hk.pe 6
 refine wl_gyes rfl e43 ?_
 exact Mv_ e0 qz
 have e3:=hk.pi 3
 have e43:=hk.pe 6
 refine wl_gyes rfl e43 ?_
 exact Mv_ e3 qz
 have e49:=hk.pe 12
 have e50:=hk.pe 13
 have e43:=hk.pe 6
 refine wl_gyes rfl e43 ?_
 exact wl_idx0 (by decide) sl129 e49 e50 hAI i rfl (by omega) qz
 have e51:=hk.pe 14
 have e43:=hk.pe 6
 refine wl_gyes rfl e43 ?_
 exact Fe_ fld139_2 e51 qz
 have e52:=hk.pe 15
 have e43:=hk.pe 6
 refine wl_gyes rfl e43 ?_
 exact Ld_ sc3 e52 ((hatI.ext hER).get rfl) qz
 have e48:=hk.pe 11
 have e53:=hk.pe 16
 have e43:=hk.pe 6
 refine wl_gyes rfl e43 ?_
 refine Ls_ e48 e53 ?_
 exact wl_re (k := 54) (v := .bool true) rfl (congrArg Value.bool (decide_eq_true (by first | exact h17 | omega | simpa using h17))) qy
 have e43:=hk.pe 6
 have e54:=hk.pe 17
 exact Pk_ e43 e54 qz
 exact dm (hk.pe 18)
 have e1:=hk.pi 1
 have e56:=hk.pe 19
 refine wl_gyes rfl e56 ?_
 exact Mv_ e1 qz
 have e9:=hk.pi 9
 have e56:=hk.pe 19
 refine wl_gyes rfl e56 ?_
 exact Mv_ e9 qz
 have e57:=hk.pe 20
 have e58:=hk.pe 21
 have e56:=hk.pe 19
 refine wl_gyes rfl e56 ?_
 refine Cl_ cl106 (by simp only [evs, ev, e57, e58]; first | done | rfl) (has_ok (ho.ext hER)) ?_
 rintro _ w7 ⟨rfl, hE7⟩
 exact qz ⟨hE7, rfl⟩
 have e59:=hk.pe 22
 have e56:=hk.pe 19
 refine wl_gyes rfl e56 ?_
 first | exact Nd_ e59 qz | exact Nn_ e59 qz
 have e56:=hk.pe 19
 have e60:=hk.pe 23
 exact Pk_ e56 e60 qz
 intro F wD hED hini hdo
 refine wk_drop [(0, _), (1, _), (3, _), (9, _), (61, _)] ⟨di hini 0, di hini 1, di hini 3, di hini 9, dq hdo 24, trivial⟩ ?_
 clear hini hdo
 have q1:=hED
 replace hEc:=hEc.trans hED
 refine go ?_
 refine Cd (fun hq => ?_) fun hq => ?_
 have hz : s.testBit k = false := by rw [hs]; exact decide_eq_false (fun hm => hq (nats_mem.2 hm))
 refine go ?_
 refine P1 results105 ?_
 exact ⟨_, rfl, by rw [allow_no_ahead (k := k) (by omega) h5 h17 hz], hEc⟩
 replace hq : 0 < (hop H k).e → (hop H k).e < (hop H i).b → s.testBit k = true := fun _ _ => by rw [hs]; exact decide_eq_true (nats_mem.1 (Decidable.not_not.1 hq))
 refine go ?_
 refine wl_add (by decide) rfl rfl (w64 (by omega) (by omega)) (gl ?_)
 refine wk_drop [(0, .slice A H.length c), (1, .slice B (nats p).length d), (3, iv (i : Int)), (9, iv ((k + 1) : Int))] ⟨rfl, rfl, rfl, rfl, trivial⟩ (hKL1 _ _ (m2 := H.length - (k + 1)) ?_ ?_)
 refine ⟨(k + 1), rfl, ?_, ?_, ?_, ?_, ?_, ?_, rfl⟩
 omega
 intro j hj he hb
 by_cases e : j = k
 subst e; first | exact hq he hb | omega
 exact hall j (by omega) he hb
 exact (h.ext q1)
 exact (ho.ext q1)
 exact (hatI.ext q1)
 exact hEc
 omega
 apply wdL [.eq _,.eq _,.eq _,.eq _,.eq _,.eq (.bool true),.eq (.bool true),.eq _,.eq _,.eq _,.eq _,.eq _,.eq _,.eq _,.eq _,.eq _,.eq _,.eq (.bool false),.eq (.bool false),.eq (.bool false),.eq undef,.eq undef,.eq undef,.eq undef,.eq (.bool false)]
 refine ⟨?_,?_,?_,?_,?_,?_,?_,?_,?_,?_,?_,?_,?_,?_,?_,?_,?_,?_,?_,?_,?_,?_,?_,?_,?_,trivial⟩<;>intro F wF hER hk
 exact dm (hk.pi 0)
 exact dm (hk.pi 9)
 have e37:=hk.pe 0
 have e38:=hk.pe 1
 exact wl_idx0 (by decide) sl129 e37 e38 hAL k rfl (by omega) qz
 exact Fe_ fld139_3 (hk.pe 2) qz
 exact Ld_ sc3 (hk.pe 3) ((hatL.ext hER).get rfl) qz
 have e41:=hk.pe 4
 refine Gt_ e41 rfl ?_
 exact wl_re (k := 42) (v := .bool true) rfl (congrArg Value.bool (decide_eq_true (by first | exact h5 | omega | simpa using h5))) qy
 exact dm (hk.pe 5)
 have e0:=hk.pi 0
 have e43:=hk.pe 6
 refine wl_gyes rfl e43 ?_
 exact Mv_ e0 qz
 have e9:=hk.pi 9
 have e43:=hk.pe 6
 refine wl_gyes rfl e43 ?_
 exact Mv_ e9 qz
 have e44:=hk.pe 7
 have e45:=hk.pe 8
 have e43:=hk.pe 6
 refine wl_gyes rfl e43 ?_
 exact wl_idx0 (by decide) sl129 e44 e45 hAL k rfl (by omega) qz
 have e46:=hk.pe 9
 have e43:=hk.pe 6
 refine wl_gyes rfl e43 ?_
 exact Fe_ fld139_3 e46 qz
 have e47:=hk.pe 10
 have e43:=hk.pe 6
 refine wl_gyes rfl e43 ?_
 exact Ld_ sc3 e47 ((hatL.ext hER).get rfl) qz
 have e0:=hk.pi 0
 have e43:=hk.pe 6
 refine wl_gyes rfl e43 ?_
 exact Mv_ e0 qz
 have e3:=hk.pi 3
 have e43:=hk.pe 6
 refine wl_gyes rfl e43 ?_
 exact Mv_ e3 qz
 have e49:=hk.pe 12
 have e50:=hk.pe 13
 have e43:=hk.pe 6
 refine wl_gyes rfl e43 ?_
 exact wl_idx0 (by decide) sl129 e49 e50 hAI i rfl (by omega) qz
 have e51:=hk.pe 14
 have e43:=hk.pe 6
 refine wl_gyes rfl e43 ?_
 exact Fe_ fld139_2 e51 qz
 have e52:=hk.pe 15
 have e43:=hk.pe 6
 refine wl_gyes rfl e43 ?_
 exact Ld_ sc3 e52 ((hatI.ext hER).get rfl) qz
 have e48:=hk.pe 11
 have e53:=hk.pe 16
 have e43:=hk.pe 6
 refine wl_gyes rfl e43 ?_
 refine Ls_ e48 e53 ?_
 exact wl_re (k := 54) (v := .bool false) rfl (congrArg Value.bool (decide_eq_false (by first | exact h17 | omega | simpa using h17))) qy
 have e43:=hk.pe 6
 have e54:=hk.pe 17
 exact Pk_ e43 e54 qz
 exact dm (hk.pe 18)
 exact dn (hk.pe 19)
 exact dn (hk.pe 19)
 exact dn (hk.pe 19)
 exact dn (hk.pe 19)
 have e56:=hk.pe 19
 have e60:=hk.pe 23
 exact Pk_ e56 rfl qz
 intro F wD hED hini hdo
 refine wk_drop [(0, _), (1, _), (3, _), (9, _), (61, _)] ⟨di hini 0, di hini 1, di hini 3, di hini 9, dq hdo 24, trivial⟩ ?_
 clear hini hdo
 have q2:=hED
 replace hEc:=hEc.trans hED
 refine go ?_
 refine wc_cond_f rfl ?_
 refine go ?_
 refine wl_add (by decide) rfl rfl (w64 (by omega) (by omega)) (gl ?_)
 refine wk_drop [(0, .slice A H.length c), (1, .slice B (nats p).length d), (3, iv (i : Int)), (9, iv ((k + 1) : Int))] ⟨rfl, rfl, rfl, rfl, trivial⟩ (hKL1 _ _ (m2 := H.length - (k + 1)) ?_ ?_)
 refine ⟨(k + 1), rfl, ?_, ?_, ?_, ?_, ?_, ?_, rfl⟩
 omega
 intro j hj he hb
 by_cases e : j = k
 subst e; first | exact hq he hb | omega
 exact hall j (by omega) he hb
 exact (h.ext q2)
 exact (ho.ext q2)
 exact (hatI.ext q2)
 exact hEc
 omega
 apply wdL [.eq _,.eq _,.eq _,.eq _,.eq _,.eq (.bool false),.eq (.bool false),.eq undef,.eq undef,.eq undef,.eq undef,.eq undef,.eq undef,.eq undef,.eq undef,.eq undef,.eq undef,.eq undef,.eq (.bool false),.eq (.bool false),.eq undef,.eq undef,.eq undef,.eq undef,.eq (.bool false)]
 refine ⟨?_,?_,?_,?_,?_,?_,?_,?_,?_,?_,?_,?_,?_,?_,?_,?_,?_,?_,?_,?_,?_,?_,?_,?_,?_,trivial⟩<;>intro F wF hER hk
 exact dm (hk.pi 0)
 exact dm (hk.pi 9)
 have e37:=hk.pe 0
 have e38:=hk.pe 1
 exact wl_idx0 (by decide) sl129 e37 e38 hAL k rfl (by omega) qz
 exact Fe_ fld139_3 (hk.pe 2) qz
 exact Ld_ sc3 (hk.pe 3) ((hatL.ext hER).get rfl) qz
 have e41:=hk.pe 4
 refine Gt_ e41 rfl ?_
 exact wl_re (k := 42) (v := .bool false) rfl (congrArg Value.bool (decide_eq_false (by first | exact h5 | omega | simpa using h5))) qy
 exact dm (hk.pe 5)
 exact dn (hk.pe 6)
 exact dn (hk.pe 6)
 exact dn (hk.pe 6)
 exact dn (hk.pe 6)
 exact dn (hk.pe 6)
 exact dn (hk.pe 6)
 exact dn (hk.pe 6)
 exact dn (hk.pe 6)
 exact dn (hk.pe 6)
 exact dn (hk.pe 6)
 exact dn (hk.pe 6)
 have e43:=hk.pe 6
 have e54:=hk.pe 17
 exact Pk_ e43 rfl qz
 exact dm (hk.pe 18)
 exact dn (hk.pe 19)
 exact dn (hk.pe 19)
 exact dn (hk.pe 19)
 exact dn (hk.pe 19)
 have e56:=hk.pe 19
 have e60:=hk.pe 23
 exact Pk_ e56 rfl qz
 intro F wD hED hini hdo
 refine wk_drop [(0, _), (1, _), (3, _), (9, _), (61, _)] ⟨di hini 0, di hini 1, di hini 3, di hini 9, dq hdo 24, trivial⟩ ?_
 clear hini hdo
 have q3:=hED
 replace hEc:=hEc.trans hED
 refine go ?_
 refine wc_cond_f rfl ?_
 refine go ?_
 refine wl_add (by decide) rfl rfl (w64 (by omega) (by omega)) (gl ?_)
 refine wk_drop [(0, .slice A H.length c), (1, .slice B (nats p).length d), (3, iv (i : Int)), (9, iv ((k + 1) : Int))] ⟨rfl, rfl, rfl, rfl, trivial⟩ (hKL1 _ _ (m2 := H.length - (k + 1)) ?_ ?_)
 refine ⟨(k + 1), rfl, ?_, ?_, ?_, ?_, ?_, ?_, rfl⟩
 omega
 intro j hj he hb
 by_cases e : j = k
 subst e; first | exact hq he hb | omega
 exact hall j (by omega) he hb
 exact (h.ext q3)
 exact (ho.ext q3)
 exact (hatI.ext q3)
 exact hEc
 omega
 refine go ?_
 refine P1 results105 ?_
 exact ⟨_, rfl, by rw [allow_yes hin (fun j hj => hall j (by omega)) hval], hEc⟩
 replace hwr : (hop H i).wr = true := by simpa using hwr
 have hval : (hop H i).wr = true ∨ (hop H i).val = valueOf H first last := .inl hwr
 refine go ?_
 refine wc_cond_f rfl ?_
 refine go ?_
 refine wc_loop (fun L' w' mes => ∃ (k : Nat), L' = [(0, .slice A H.length c), (1, .slice B (nats p).length d), (3, iv (i : Int)), (9, iv (k : Int))] ∧ (k ≤ H.length) ∧ (∀ j, j < k → 0 < (hop H j).e → (hop H j).e < (hop H i).b → s.testBit j = true) ∧ (HS S w' A c H) ∧ (IS S2 w' B d (nats p)) ∧ (AtF S w' (aI.add (i * 4)) _) ∧ (Ext w w') ∧ H.length - k = mes) [(0, .slice A H.length c), (1, .slice B (nats p).length d), (3, iv (i : Int)), (9, iv (0 : Int))] (H.length - 0) (by
     refine ⟨0, rfl, ?_, ?_, ?_, ?_, ?_, ?_, rfl⟩
     · omega
     · intro j hj; omega
     · exact (h.ext q0)
     · exact (ho.ext q0)
     · exact (hatI.ext q0)
     · exact hEc) ⟨rfl, rfl, rfl, rfl, trivial⟩ ?_
 rintro _ wr _ ⟨k, rfl, hk, hall, h, ho, hatI, hEc, rfl⟩ KL1 hKL1
 have hmx:=h.mx
 refine go ?_
 refine Ln_ underlying129 rfl ?_
 refine Ls_ rfl rfl (go ?_)
 refine Cd (fun hlt => ?_) fun hlt => ?_
 obtain ⟨aL, BL, dL, hAL, hatL, hvL⟩ := HS.el h k (by omega)
 refine go ?_
 by_cases h5 : 0 < (hop H k).e
 by_cases h17 : (hop H k).e < (hop H i).b
 apply wdL [.eq _,.eq _,.eq _,.eq _,.eq _,.eq (.bool true),.eq (.bool true),.eq _,.eq _,.eq _,.eq _,.eq _,.eq _,.eq _,.eq _,.eq _,.eq _,.eq (.bool true),.eq (.bool true),.eq (.bool true),.eq _,.eq _,.eq _,.eq _,.eq _]
 refine ⟨?_,?_,?_,?_,?_,?_,?_,?_,?_,?_,?_,?_,?_,?_,?_,?_,?_,?_,?_,?_,?_,?_,?_,?_,?_,trivial⟩<;>intro F wF hER hk
 exact dm (hk.pi 0)
 exact dm (hk.pi 9)
 have e37:=hk.pe 0
 have e38:=hk.pe 1
 exact wl_idx0 (by decide) sl129 e37 e38 hAL k rfl (by omega) qz
 exact Fe_ fld139_3 (hk.pe 2) qz
 exact Ld_ sc3 (hk.pe 3) ((hatL.ext hER).get rfl) qz
 have e41:=hk.pe 4
 refine Gt_ e41 rfl ?_
 exact wl_re (k := 42) (v := .bool true) rfl (congrArg Value.bool (decide_eq_true (by first | exact h5 | omega | simpa using h5))) qy
 exact dm (hk.pe 5)
 have e0:=hk.pi 0
 have e43:=hk.pe 6
 refine wl_gyes rfl e43 ?_
 exact Mv_ e0 qz
 have e9:=hk.pi 9
 have e43:=hk.pe 6
 refine wl_gyes rfl e43 ?_
 exact Mv_ e9 qz
 have e44:=hk.pe 7
 have e45:=hk.pe 8
 have e43:=hk.pe 6
 refine wl_gyes rfl e43 ?_
 exact wl_idx0 (by decide) sl129 e44 e45 hAL k rfl (by omega) qz
 have e46:=hk.pe 9
 have e43:=hk.pe 6
 refine wl_gyes rfl e43 ?_
 exact Fe_ fld139_3 e46 qz
 have e47:=hk.pe 10
 have e43:=hk.pe 6
 refine wl_gyes rfl e43 ?_
 exact Ld_ sc3 e47 ((hatL.ext hER).get rfl) qz
 have e0:=hk.pi 0
 have e43:=hk.pe 6
 refine wl_gyes rfl e43 ?_
 exact Mv_ e0 qz
 have e3:=hk.pi 3
 have e43:=hk.pe 6
 refine wl_gyes rfl e43 ?_
 exact Mv_ e3 qz
 have e49:=hk.pe 12
 have e50:=hk.pe 13
 have e43:=hk.pe 6
 refine wl_gyes rfl e43 ?_
 exact wl_idx0 (by decide) sl129 e49 e50 hAI i rfl (by omega) qz
 have e51:=hk.pe 14
 have e43:=hk.pe 6
 refine wl_gyes rfl e43 ?_
 exact Fe_ fld139_2 e51 qz
 have e52:=hk.pe 15
 have e43:=hk.pe 6
 refine wl_gyes rfl e43 ?_
 exact Ld_ sc3 e52 ((hatI.ext hER).get rfl) qz
 have e48:=hk.pe 11
 have e53:=hk.pe 16
 have e43:=hk.pe 6
 refine wl_gyes rfl e43 ?_
 refine Ls_ e48 e53 ?_
 exact wl_re (k := 54) (v := .bool true) rfl (congrArg Value.bool (decide_eq_true (by first | exact h17 | omega | simpa using h17))) qy
 have e43:=hk.pe 6
 have e54:=hk.pe 17
 exact Pk_ e43 e54 qz
 exact dm (hk.pe 18)
 have e1:=hk.pi 1
 have e56:=hk.pe 19
 refine wl_gyes rfl e56 ?_
 exact Mv_ e1 qz
 have e9:=hk.pi 9
 have e56:=hk.pe 19
 refine wl_gyes rfl e56 ?_
 exact Mv_ e9 qz
 have e57:=hk.pe 20
 have e58:=hk.pe 21
 have e56:=hk.pe 19
 refine wl_gyes rfl e56 ?_
 refine Cl_ cl106 (by simp only [evs, ev, e57, e58]; first | done | rfl) (has_ok (ho.ext hER)) ?_
 rintro _ w7 ⟨rfl, hE7⟩
 exact qz ⟨hE7, rfl⟩
 have e59:=hk.pe 22
 have e56:=hk.pe 19
 refine wl_gyes rfl e56 ?_
 first | exact Nd_ e59 qz | exact Nn_ e59 qz
 have e56:=hk.pe 19
 have e60:=hk.pe 23
 exact Pk_ e56 e60 qz
 intro F wD hED hini hdo
 refine wk_drop [(0, _), (1, _), (3, _), (9, _), (61, _)] ⟨di hini 0, di hini 1, di hini 3, di hini 9, dq hdo 24, trivial⟩ ?_
 clear hini hdo
 have q4:=hED
 replace hEc:=hEc.trans hED
 refine go ?_
 refine Cd (fun hq => ?_) fun hq => ?_
 have hz : s.testBit k = false := by rw [hs]; exact decide_eq_false (fun hm => hq (nats_mem.2 hm))
 refine go ?_
 refine P1 results105 ?_
 exact ⟨_, rfl, by rw [allow_no_ahead (k := k) (by omega) h5 h17 hz], hEc⟩
 replace hq : 0 < (hop H k).e → (hop H k).e < (hop H i).b → s.testBit k = true := fun _ _ => by rw [hs]; exact decide_eq_true (nats_mem.1 (Decidable.not_not.1 hq))
 refine go ?_
 refine wl_add (by decide) rfl rfl (w64 (by omega) (by omega)) (gl ?_)
 refine wk_drop [(0, .slice A H.length c), (1, .slice B (nats p).length d), (3, iv (i : Int)), (9, iv ((k + 1) : Int))] ⟨rfl, rfl, rfl, rfl, trivial⟩ (hKL1 _ _ (m2 := H.length - (k + 1)) ?_ ?_)
 refine ⟨(k + 1), rfl, ?_, ?_, ?_, ?_, ?_, ?_, rfl⟩
 omega
 intro j hj he hb
 by_cases e : j = k
 subst e; first | exact hq he hb | omega
 exact hall j (by omega) he hb
 exact (h.ext q4)
 exact (ho.ext q4)
 exact (hatI.ext q4)
 exact hEc
 omega
 apply wdL [.eq _,.eq _,.eq _,.eq _,.eq _,.eq (.bool true),.eq (.bool true),.eq _,.eq _,.eq _,.eq _,.eq _,.eq _,.eq _,.eq _,.eq _,.eq _,.eq (.bool false),.eq (.bool false),.eq (.bool false),.eq undef,.eq undef,.eq undef,.eq undef,.eq (.bool false)]
 refine ⟨?_,?_,?_,?_,?_,?_,?_,?_,?_,?_,?_,?_,?_,?_,?_,?_,?_,?_,?_,?_,?_,?_,?_,?_,?_,trivial⟩<;>intro F wF hER hk
 exact dm (hk.pi 0)
 exact dm (hk.pi 9)
 have e37:=hk.pe 0
 have e38:=hk.pe 1
 exact wl_idx0 (by decide) sl129 e37 e38 hAL k rfl (by omega) qz
 exact Fe_ fld139_3 (hk.pe 2) qz
 exact Ld_ sc3 (hk.pe 3) ((hatL.ext hER).get rfl) qz
 have e41:=hk.pe 4
 refine Gt_ e41 rfl ?_
 exact wl_re (k := 42) (v := .bool true) rfl (congrArg Value.bool (decide_eq_true (by first | exact h5 | omega | simpa using h5))) qy
 exact dm (hk.pe 5)
 have e0:=hk.pi 0
 have e43:=hk.pe 6
 refine wl_gyes rfl e43 ?_
 exact Mv_ e0 qz
 have e9:=hk.pi 9
 have e43:=hk.pe 6
 refine wl_gyes rfl e43 ?_
 exact Mv_ e9 qz
 have e44:=hk.pe 7
 have e45:=hk.pe 8
 have e43:=hk.pe 6
 refine wl_gyes rfl e43 ?_
 exact wl_idx0 (by decide) sl129 e44 e45 hAL k rfl (by omega) qz
 have e46:=hk.pe 9
 have e43:=hk.pe 6
 refine wl_gyes rfl e43 ?_
 exact Fe_ fld139_3 e46 qz
 have e47:=hk.pe 10
 have e43:=hk.pe 6
 refine wl_gyes rfl e43 ?_
 exact Ld_ sc3 e47 ((hatL.ext hER).get rfl) qz
 have e0:=hk.pi 0
 have e43:=hk.pe 6
 refine wl_gyes rfl e43 ?_
 exact Mv_ e0 qz
 have e3:=hk.pi 3
 have e43:=hk.pe 6
 refine wl_gyes rfl e43 ?_
 exact Mv_ e3 qz
 have e49:=hk.pe 12
 have e50:=hk.pe 13
 have e43:=hk.pe 6
 refine wl_gyes rfl e43 ?_
 exact wl_idx0 (by decide) sl129 e49 e50 hAI i rfl (by omega) qz
 have e51:=hk.pe 14
 have e43:=hk.pe 6
 refine wl_gyes rfl e43 ?_
 exact Fe_ fld139_2 e51 qz
 have e52:=hk.pe 15
 have e43:=hk.pe 6
 refine wl_gyes rfl e43 ?_
 exact Ld_ sc3 e52 ((hatI.ext hER).get rfl) qz
 have e48:=hk.pe 11
 have e53:=hk.pe 16
 have e43:=hk.pe 6
 refine wl_gyes rfl e43 ?_
 refine Ls_ e48 e53 ?_
 exact wl_re (k := 54) (v := .bool false) rfl (congrArg Value.bool (decide_eq_false (by first | exact h17 | omega | simpa using h17))) qy
 have e43:=hk.pe 6
 have e54:=hk.pe 17
 exact Pk_ e43 e54 qz
 exact dm (hk.pe 18)
 exact dn (hk.pe 19)
 exact dn (hk.pe 19)
 exact dn (hk.pe 19)
 exact dn (hk.pe 19)
 have e56:=hk.pe 19
 have e60:=hk.pe 23
 exact Pk_ e56 rfl qz
 intro F wD hED hini hdo
 refine wk_drop [(0, _), (1, _), (3, _), (9, _), (61, _)] ⟨di hini 0, di hini 1, di hini 3, di hini 9, dq hdo 24, trivial⟩ ?_
 clear hini hdo
 have q5:=hED
 replace hEc:=hEc.trans hED
 refine go ?_
 refine wc_cond_f rfl ?_
 refine go ?_
 refine wl_add (by decide) rfl rfl (w64 (by omega) (by omega)) (gl ?_)
 refine wk_drop [(0, .slice A H.length c), (1, .slice B (nats p).length d), (3, iv (i : Int)), (9, iv ((k + 1) : Int))] ⟨rfl, rfl, rfl, rfl, trivial⟩ (hKL1 _ _ (m2 := H.length - (k + 1)) ?_ ?_)
 refine ⟨(k + 1), rfl, ?_, ?_, ?_, ?_, ?_, ?_, rfl⟩
 omega
 intro j hj he hb
 by_cases e : j = k
 subst e; first | exact hq he hb | omega
 exact hall j (by omega) he hb
 exact (h.ext q5)
 exact (ho.ext q5)
 exact (hatI.ext q5)
 exact hEc
 omega
 apply wdL [.eq _,.eq _,.eq _,.eq _,.eq _,.eq (.bool false),.eq (.bool false),.eq undef,.eq undef,.eq undef,.eq undef,.eq undef,.eq undef,.eq undef,.eq undef,.eq undef,.eq undef,.eq undef,.eq (.bool false),.eq (.bool false),.eq undef,.eq undef,.eq undef,.eq undef,.eq (.bool false)]
 refine ⟨?_,?_,?_,?_,?_,?_,?_,?_,?_,?_,?_,?_,?_,?_,?_,?_,?_,?_,?_,?_,?_,?_,?_,?_,?_,trivial⟩<;>intro F wF hER hk
 exact dm (hk.pi 0)
 exact dm (hk.pi 9)
 have e37:=hk.pe 0
 have e38:=hk.pe 1
 exact wl_idx0 (by decide) sl129 e37 e38 hAL k rfl (by omega) qz
 exact Fe_ fld139_3 (hk.pe 2) qz
 exact Ld_ sc3 (hk.pe 3) ((hatL.ext hER).get rfl) qz
 have e41:=hk.pe 4
 refine Gt_ e41 rfl ?_
 exact wl_re (k := 42) (v := .bool false) rfl (congrArg Value.bool (decide_eq_false (by first | exact h5 | omega | simpa using h5))) qy
 exact dm (hk.pe 5)
 exact dn (hk.pe 6)
 exact dn (hk.pe 6)
 exact dn (hk.pe 6)
 exact dn (hk.pe 6)
 exact dn (hk.pe 6)
 exact dn (hk.pe 6)
 exact dn (hk.pe 6)
 exact dn (hk.pe 6)
 exact dn (hk.pe 6)
 exact dn (hk.pe 6)
 exact dn (hk.pe 6)
 have e43:=hk.pe 6
 have e54:=hk.pe 17
 exact Pk_ e43 rfl qz
 exact dm (hk.pe 18)
 exact dn (hk.pe 19)
 exact dn (hk.pe 19)
 exact dn (hk.pe 19)
 exact dn (hk.pe 19)
 have e56:=hk.pe 19
 have e60:=hk.pe 23
 exact Pk_ e56 rfl qz
 intro F wD hED hini hdo
 refine wk_drop [(0, _), (1, _), (3, _), (9, _), (61, _)] ⟨di hini 0, di hini 1, di hini 3, di hini 9, dq hdo 24, trivial⟩ ?_
 clear hini hdo
 have q6:=hED
 replace hEc:=hEc.trans hED
 refine go ?_
 refine wc_cond_f rfl ?_
 refine go ?_
 refine wl_add (by decide) rfl rfl (w64 (by omega) (by omega)) (gl ?_)
 refine wk_drop [(0, .slice A H.length c), (1, .slice B (nats p).length d), (3, iv (i : Int)), (9, iv ((k + 1) : Int))] ⟨rfl, rfl, rfl, rfl, trivial⟩ (hKL1 _ _ (m2 := H.length - (k + 1)) ?_ ?_)
 refine ⟨(k + 1), rfl, ?_, ?_, ?_, ?_, ?_, ?_, rfl⟩
 omega
 intro j hj he hb
 by_cases e : j = k
 subst e; first | exact hq he hb | omega
 exact hall j (by omega) he hb
 exact (h.ext q6)
 exact (ho.ext q6)
 exact (hatI.ext q6)
 exact hEc
 omega
 refine go ?_
 refine P1 results105 ?_
 exact ⟨_, rfl, by rw [allow_yes hin (fun j hj => hall j (by omega)) hval], hEc⟩
theorem idx_ok {H : List HOp} {S : Nat → Prop} (h : HS S w A c H) : Ret prog 102 #[.slice A H.length c, .func (.func 99) #[] #[]] w (fun v w' => ∃ r, v = .int .i64 r ∧ decide (0 ≤ r) = H.any badOp ∧ Ext w w') := by
 refine ret_of_wk func102 rfl ntmps102 leB_ ?_
 refine so ?_
 refine Lp [0, 1, 7, 8] (fun L' w' mes => ∃ (k : Nat), L' = [(0, .slice A H.length c), (1, .func (.func 99) #[] #[]), (7, iv (H.length : Int)), (8, iv (k : Int))] ∧ (k ≤ H.length) ∧ (∀ j, j < k → badOp (hop H j) = false) ∧ (Ext w w') ∧ H.length - k = mes) (H.length - 0) (by
     refine ⟨0, rfl, by omega, ?_, Chg.refl _ _, rfl⟩
     intro j hj; omega) ?_
 rintro _ wr _ ⟨k, rfl, hk, hall, hE, rfl⟩ KL1 hKL1
 have hmx:=h.mx
 refine so ?_
 refine Cd ?_ ?_<;>intro hlt
 obtain ⟨aL, BL, dL, hAL, hatL, hvL⟩ := HS.el (h.ext hE) k (by omega)
 refine so ?_
 refine wl_callv (f := 99) (first := []) (cap := []) (by decide) cl99 rfl rfl (chk1_ok (x := hop H k)) ?_
 rintro _ w5 ⟨rfl, hE5⟩
 refine so ?_
 refine Cd ?_ ?_<;>intro hq
 replace hq : badOp (hop H k) = true := by first | exact hq | exact decide_eq_true hq
 refine so ?_
 refine Pt ?_
 exact ⟨_, rfl, _, rfl, by rw [decide_eq_true (by omega)]; exact (List.any_eq_true.2 ⟨hop H k, by rw [hop_get H (by omega)]; exact List.getElem_mem _, hq⟩).symm, hE.trans hE5⟩
 replace hq : badOp (hop H k) = false := by first | exact hq | exact decide_eq_false hq
 refine so ?_
 refine Kl [0, 1, 7, 8] hKL1 (H.length - (k + 1)) ⟨(k + 1), rfl, by omega, ?_, hE.trans hE5, rfl⟩ (by omega)
 intro j hj
 by_cases e : j = k
 subst e; exact hq
 exact hall j (by omega)
 refine so ?_
 refine Pt ?_
 have hf : H.any badOp = false := by
   cases hb : H.any badOp
   · rfl
   · obtain ⟨x, hx, hxb⟩ := List.any_eq_true.1 hb
     obtain ⟨j, hj, rfl⟩ := List.mem_iff_getElem.1 hx
     rw [← hop_get H hj, hall j (by omega)] at hxb
     cases hxb
 exact ⟨_, rfl, _, rfl, by rw [hf]; rfl, hE⟩
end Go.Proofs.Ytgheaedligkhoaa
namespace Go.Proofs.Ytgheaedligkhoaa
open Go.RowKit Go.Eng _root_.Go.Proofs.Try Go.Eng _root_.Go.Proofs.Try
set_option maxRecDepth 100000
variable {w0 w : World} {M0 Fz : Nat → Prop} {H : List It} {A : Option Addr} {c : Nat}
theorem sealAt {w0 w : World} {M0 Fz : Nat → Prop} {H : List It} {i m : Nat} {f : Value → Option Value} {r : Value → Option (List Value)} {S : Int → Int → List Mrk} (hp : HP w0 M0 Fz w H) (hi : H[i]? = some (itMR prog 87 98 33 m f r)) (hj : sealR f r S) (g ep : Int) : ∃ A c, (f (eraV g ep)).getD (.slice none 0 0) = .slice A (S g ep).length c ∧ GS markR (fun _ => True) w A c (S g ep) := by
 rcases hj g ep with ⟨a1, a2, _⟩ | ⟨A, c, a1, a2, a3⟩
 ·exact ⟨none, 0, by rw [a1, a2]; rfl, by rw [a1]; exact GS.nil _ _ _ _ _⟩
 ·obtain ⟨A', n', c', b1, b2⟩ := rowIn hp hi a2
  rw [a1] at b1
  cases b1
  exact ⟨A, c, by rw [a1]; rfl, OwnRow.gsRF (r := markR) b2 (marksRF a3) (fun _ _ _ => trivial)⟩
theorem ValB.u2 {v : JVal} {n : Nat} (h : ValB v n) (e : Evt) : ValB (u2 v e) n := by
 unfold Proofs.Ytgheaedligkhoaa.u2
 split
 ·exact h
 ·refine ⟨fun g ep s a => ?_, h.s, h.m⟩
  dsimp only
  split
  ·dsimp only
   split
   ·exact Nat.zero_le _
   ·exact h.j g ep s a
  ·exact h.j g ep s a
theorem ValB.u6 {v : JVal} {n : Nat} (h : ValB v (n + 1)) (hs : ∀ g ep, (v.sld g ep).length ≤ n) (e : Evt) : ValB (u6 v e) (n + 1) := by
 unfold Proofs.Ytgheaedligkhoaa.u6
 split
 ·refine ⟨h.j, fun g ep => ?_, h.m⟩
  dsimp only [ups]
  have := hs g ep
  split
  ·rw [List.length_append, List.length_singleton]; omega
  ·omega
 ·exact h
theorem planP_rd {S : Nat → Prop} {w : World} : plnR.rd S w (plnC planP) planP := ⟨by unfold PlnI planP i64; decide, rfl⟩
end Go.Proofs.Ytgheaedligkhoaa
