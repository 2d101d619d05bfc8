/- Part 5 of 5 of what the proofs of chapter 12 share: the engine, then what each function computes, printed short by a program. -/
import Derived.Test.YtkdoomglflikkaaGreatYd
namespace Go.Proofs.YtkdoomglflikkaaGreat
open Go.RowKit Go.Eng _root_.Go.Proofs.Tryz
set_option maxRecDepth 100000
variable {w0 w : World} {M0 Fz : Nat → Prop} {H : List It} {A : Option Addr} {c : Nat}
set_option maxHeartbeats 40000000 in
theorem gShow_ok {gw : Nat} {out : List UInt8} {pa : Addr} {cs : List Value} {x : Nte} (hp : HP w0 M0 Fz w (itB gw 89 [.slice A out.length c] :: itR 5 1 A out.length c (out.map bv) :: H)) (hatx : AtF Fz w pa cs) (hrd : noteR.rd Fz w cs x) (hok : noteOk x) (hlen : out.length + (noteE x).length ≤ 1000000) (hmb : MutF Fz w pa.block) : Ret prog 65 #[.iface 87 (.pointer (some ⟨gw, 0, none⟩)), .pointer (some pa)] w (WrP 5 89 gw w0 M0 Fz w H (out ++ noteE x)) := by
 have hFr:=Frz.start Fz w
 obtain ⟨hIx, B0, d0, B1, d1, B2, d2, B3, d3, B4, d4, B5, d5, B6, d6, B7, d7, B8, d8, B9, d9, B10, d10, rfl, hx0, hx1, hx2, hx3, hx4, hx5, hx6, hx7, hx8, hx9, hx10⟩ := hrd
 refine ret_of_wk func65 rfl ntmps65 leB_ ?_
 refine go ?_
 refine wl_hbox (by decide) rfl hp ?_
 rintro gs2 wc1 hpc1 hEc1
 replace hFr:=hFr.ext hEc1
 have q0:=hEc1
 replace hp:=hpc1
 obtain ⟨Fzc, hpc2, hsc2, hcap⟩ := (hp.as_ (H' := itB gs2 123 [.iface 87 (pt gw 0)] :: _) rfl).frzBlk
 replace hp:=hpc2
 replace hFr:=hFr.wid hsc2
 have q1:=hatx.tk.ext q0
 replace q1:=q1.wid hsc2
 refine go ?_
 apply wdL [.eq _,.eq _,.eq _,.eq _,.eq _,.eq _,.eq _,.eq _,.eq _,.eq _,.eq _,.eq _,.eq _,.eq _]
 refine ⟨?_,?_,?_,?_,?_,?_,?_,?_,?_,?_,?_,?_,?_,?_,trivial⟩<;>intro F wF hER hk
 exact dm (hk.qi 1)
 exact Nc_ (hk.qe 0) qz
 exact Fe_ fld38_0 (hk.qe 1) qz
 exact dm (hk.qi 1)
 exact Nc_ (hk.qe 3) qz
 exact Fe_ fld38_1 (hk.qe 4) qz
 exact dm (hk.qi 1)
 exact Nc_ (hk.qe 6) qz
 exact Fe_ fld38_2 (hk.qe 7) qz
 exact dm (hk.qi 1)
 exact Nc_ (hk.qe 9) qz
 exact Fe_ fld38_3 (hk.qe 10) qz
 have e8:=hk.qe 2
 have e11:=hk.qe 5
 have e14:=hk.qe 8
 have e17:=hk.qe 11
 exact wl_builtS (ps := [(0, .tmp 8), (1, .tmp 11), (2, .tmp 14), (3, .tmp 17)]) (by decide) bld137 (by simp only [evp, ev, e8, e11, e14, e17]; first | done | rfl) rfl qz
 exact Mv_ rfl qz
 intro F wD hED hini hdo
 refine wk_drop [(1, _), (2, _), (18, _), (19, _)] ⟨di hini 1, di hini 2, dq hdo 12, dq hdo 13, trivial⟩ ?_
 clear hini hdo
 replace hFr:=hFr.ext hED
 replace q1:=q1.ext hED
 have q2:=hED
 replace hp:=hp.ext hED
 refine go ?_
 refine wc_unroll 5 ?_
 refine wc_unfold (go ?_)
 refine Ls_ rfl rfl ?_
 refine wl_re (k := 20) (v := .bool true) rfl (congrArg Value.bool (decide_eq_true (by decide))) (go ?_)
 refine wc_cond_t rfl (go ?_)
 refine wl_indexV (by decide) ar137 sc125 rfl rfl 0 rfl (by decide) rfl (go ?_)
 refine Ld_ sc123 rfl (hcap.ext q2).head (go ?_)
 have hcl:=gNum_ok hp ((hatx.fr q1).sub 0 1) hok.1 (by simp only [noteE, List.length_append] at hlen ⊢; omega)
 refine wl_invoke (t := 87) (name := "bastide/note.num") (f := 177) (by decide) mt177 rfl rfl hcl ?_
 clear hcl
 rintro _ w1 ⟨A1, c1, hp1, hF1⟩
 replace hFr:=hFr.fr hF1
 replace q1:=q1.fr hF1
 have q3:=hcap.tk.ext q2
 replace q3:=q3.fr hF1
 replace hp:=hp1
 refine go ?_
 refine wl_add (by decide) rfl rfl (w64 (by omega) (by omega)) (gl ?_)
 refine wc_unfold (go ?_)
 refine Ls_ rfl rfl ?_
 refine wl_re (k := 20) (v := .bool true) rfl (congrArg Value.bool (decide_eq_true (by decide))) (go ?_)
 refine wc_cond_t rfl (go ?_)
 refine wl_indexV (by decide) ar137 sc125 rfl rfl 1 rfl (by decide) rfl (go ?_)
 refine Ld_ sc123 rfl (hcap.fr q3).head (go ?_)
 have hcl:=gNum_ok hp ((hatx.fr q1).sub 1 1) hok.2.1 (by simp only [noteE, List.length_append] at hlen ⊢; omega)
 refine wl_invoke (t := 87) (name := "bastide/note.num") (f := 177) (by decide) mt177 rfl rfl hcl ?_
 clear hcl
 rintro _ w2 ⟨A2, c2, hp2, hF2⟩
 replace hFr:=hFr.fr hF2
 replace q1:=q1.fr hF2
 replace q3:=q3.fr hF2
 replace hp:=hp2
 refine go ?_
 refine wl_add (by decide) rfl rfl (w64 (by omega) (by omega)) (gl ?_)
 refine wc_unfold (go ?_)
 refine Ls_ rfl rfl ?_
 refine wl_re (k := 20) (v := .bool true) rfl (congrArg Value.bool (decide_eq_true (by decide))) (go ?_)
 refine wc_cond_t rfl (go ?_)
 refine wl_indexV (by decide) ar137 sc125 rfl rfl 2 rfl (by decide) rfl (go ?_)
 refine Ld_ sc123 rfl (hcap.fr q3).head (go ?_)
 have hcl:=gNum_ok hp ((hatx.fr q1).sub 2 1) hok.2.2.1 (by simp only [noteE, List.length_append] at hlen ⊢; omega)
 refine wl_invoke (t := 87) (name := "bastide/note.num") (f := 177) (by decide) mt177 rfl rfl hcl ?_
 clear hcl
 rintro _ w3 ⟨A3, c3, hp3, hF3⟩
 replace hFr:=hFr.fr hF3
 replace q1:=q1.fr hF3
 replace q3:=q3.fr hF3
 replace hp:=hp3
 refine go ?_
 refine wl_add (by decide) rfl rfl (w64 (by omega) (by omega)) (gl ?_)
 refine wc_unfold (go ?_)
 refine Ls_ rfl rfl ?_
 refine wl_re (k := 20) (v := .bool true) rfl (congrArg Value.bool (decide_eq_true (by decide))) (go ?_)
 refine wc_cond_t rfl (go ?_)
 refine wl_indexV (by decide) ar137 sc125 rfl rfl 3 rfl (by decide) rfl (go ?_)
 refine Ld_ sc123 rfl (hcap.fr q3).head (go ?_)
 have hcl:=gNum_ok hp ((hatx.fr q1).sub 3 1) hok.2.2.2.1 (by simp only [noteE, List.length_append] at hlen ⊢; omega)
 refine wl_invoke (t := 87) (name := "bastide/note.num") (f := 177) (by decide) mt177 rfl rfl hcl ?_
 clear hcl
 rintro _ w4 ⟨A4, c4, hp4, hF4⟩
 replace hFr:=hFr.fr hF4
 replace q1:=q1.fr hF4
 replace q3:=q3.fr hF4
 replace hp:=hp4
 refine go ?_
 refine wl_add (by decide) rfl rfl (w64 (by omega) (by omega)) (gl ?_)
 refine wc_unfold (go ?_)
 refine Ls_ rfl rfl ?_
 refine wl_re (k := 20) (v := .bool false) rfl (congrArg Value.bool (decide_eq_false (by decide))) (go ?_)
 refine wc_cond_f rfl ?_
 refine go ?_
 refine Fe_ fld38_0 rfl ?_
 refine Ld_ sc3 rfl ((hatx.fr q1).get rfl) (go ?_)
 refine Eq_ rfl rfl (go ?_)
 refine Cd (fun hc1 => ?_) fun hc1 => ?_
 refine go ?_
 refine Cd (fun hc2 => ?_) fun hc2 => ?_
 refine go ?_
 apply wdT 7 [.eq _,.eq _,.eq _,.eq _,.eq _,.eq _,.eq _]
 refine ⟨?_,?_,?_,?_,?_,?_,?_,trivial⟩<;>intro F wF hER hk
 exact Ld_ sc123 (hk.qi 2) ((hcap.fr q3).ext hER).head qz
 exact dm (hk.qi 1)
 exact Nc_ (hk.qe 1) qz
 exact Fe_ fld38_7 (hk.qe 2) qz
 have e57:=hk.qe 0
 exact wl_makeFunc (first := [.tmp 57]) (cap := []) (by decide) (by simp only [evs, ev, e57]; rfl) rfl qz
 exact wl_nilCheckM (t := 87) (by decide) mt174 (hk.qe 4) qz
 exact dm (hk.qe 0)
 intro F wD hED hini hdo
 refine wl_drop [(60, _), (63, _)] ⟨dr hdo 3, dr hdo 6, trivial⟩ ?_
 clear hini hdo
 replace hFr:=hFr.ext hED
 replace q1:=q1.ext hED
 replace hp:=hp.ext hED
 have hbl:=hlen
 unfold noteE bodyE at hbl
 have hbk:=hok.2.2.2.2
 unfold bodyOk at hbk
 repeat (first | rw [if_neg (by omega)] at hbl | rw [if_pos (by omega)] at hbl)
 repeat (first | rw [if_neg (by omega)] at hbk | rw [if_pos (by omega)] at hbk)
 simp only [List.length_append] at hbl
 have hok5 : batchOk x.batch := by first | exact hbk.1 | exact hbk
 have hcl:=gBatch_ok hp ((hatx.fr q1).sub 38 1) (hx0.fr q1) hok5 (by simp only [List.length_append] at hbl ⊢; omega)
 refine wl_invoke (t := 87) (name := "bastide/note.batch") (f := 174) (by decide) mt174 rfl rfl hcl ?_
 clear hcl
 rintro _ w6 ⟨A6, c6, hp6, hF6⟩
 replace hFr:=hFr.fr hF6
 replace hp:=hp6
 refine go ?_
 refine wk_post0 (.inr rfl) results65  ?_
 have hWO : out ++ noteE x = (((((out ++ numE x.kind) ++ numE x.from_) ++ numE x.group) ++ numE x.epoch) ++ batchE x.batch) := by
   unfold noteE bodyE
   repeat (first | rw [if_neg (by omega)] | rw [if_pos (by omega)])
   simp only [← List.append_assoc]
 rw [hWO]
 exact ⟨_, rfl, _, _, hp.less hFr.sub, hFr.chg, fun _ h => h⟩
 exact absurd hc1 hc2
 refine go ?_
 refine Eq_ rfl rfl (go ?_)
 refine Cd (fun hc3 => ?_) fun hc3 => ?_
 refine go ?_
 refine Cd (fun hc4 => ?_) fun hc4 => ?_
 refine go ?_
 apply wdT 7 [.eq _,.eq _,.eq _,.eq _,.eq _,.eq _,.eq _]
 refine ⟨?_,?_,?_,?_,?_,?_,?_,trivial⟩<;>intro F wF hER hk
 exact Ld_ sc123 (hk.qi 2) ((hcap.fr q3).ext hER).head qz
 exact dm (hk.qi 1)
 exact Nc_ (hk.qe 1) qz
 exact Fe_ fld38_7 (hk.qe 2) qz
 have e57:=hk.qe 0
 exact wl_makeFunc (first := [.tmp 57]) (cap := []) (by decide) (by simp only [evs, ev, e57]; rfl) rfl qz
 exact wl_nilCheckM (t := 87) (by decide) mt174 (hk.qe 4) qz
 exact dm (hk.qe 0)
 intro F wD hED hini hdo
 refine wl_drop [(60, _), (63, _)] ⟨dr hdo 3, dr hdo 6, trivial⟩ ?_
 clear hini hdo
 replace hFr:=hFr.ext hED
 replace q1:=q1.ext hED
 replace hp:=hp.ext hED
 have hbl:=hlen
 unfold noteE bodyE at hbl
 have hbk:=hok.2.2.2.2
 unfold bodyOk at hbk
 repeat (first | rw [if_neg (by omega)] at hbl | rw [if_pos (by omega)] at hbl)
 repeat (first | rw [if_neg (by omega)] at hbk | rw [if_pos (by omega)] at hbk)
 simp only [List.length_append] at hbl
 have hok7 : batchOk x.batch := by first | exact hbk.1 | exact hbk
 have hcl:=gBatch_ok hp ((hatx.fr q1).sub 38 1) (hx0.fr q1) hok7 (by simp only [List.length_append] at hbl ⊢; omega)
 refine wl_invoke (t := 87) (name := "bastide/note.batch") (f := 174) (by decide) mt174 rfl rfl hcl ?_
 clear hcl
 rintro _ w8 ⟨A8, c8, hp8, hF8⟩
 replace hFr:=hFr.fr hF8
 replace hp:=hp8
 refine go ?_
 refine wk_post0 (.inr rfl) results65  ?_
 have hWO : out ++ noteE x = (((((out ++ numE x.kind) ++ numE x.from_) ++ numE x.group) ++ numE x.epoch) ++ batchE x.batch) := by
   unfold noteE bodyE
   repeat (first | rw [if_neg (by omega)] | rw [if_pos (by omega)])
   simp only [← List.append_assoc]
 rw [hWO]
 exact ⟨_, rfl, _, _, hp.less hFr.sub, hFr.chg, fun _ h => h⟩
 exact absurd hc3 hc4
 refine go ?_
 refine Eq_ rfl rfl (go ?_)
 refine Cd (fun hc5 => ?_) fun hc5 => ?_
 refine go ?_
 apply wdT 7 [.eq _,.eq _,.eq _,.eq _,.eq _,.eq _,.eq _]
 refine ⟨?_,?_,?_,?_,?_,?_,?_,trivial⟩<;>intro F wF hER hk
 exact Ld_ sc123 (hk.qi 2) ((hcap.fr q3).ext hER).head qz
 exact dm (hk.qi 1)
 exact Nc_ (hk.qe 1) qz
 exact Fe_ fld38_7 (hk.qe 2) qz
 have e57:=hk.qe 0
 exact wl_makeFunc (first := [.tmp 57]) (cap := []) (by decide) (by simp only [evs, ev, e57]; rfl) rfl qz
 exact wl_nilCheckM (t := 87) (by decide) mt174 (hk.qe 4) qz
 exact dm (hk.qe 0)
 intro F wD hED hini hdo
 refine wl_drop [(60, _), (63, _)] ⟨dr hdo 3, dr hdo 6, trivial⟩ ?_
 clear hini hdo
 replace hFr:=hFr.ext hED
 replace q1:=q1.ext hED
 replace hp:=hp.ext hED
 have hbl:=hlen
 unfold noteE bodyE at hbl
 have hbk:=hok.2.2.2.2
 unfold bodyOk at hbk
 repeat (first | rw [if_neg (by omega)] at hbl | rw [if_pos (by omega)] at hbl)
 repeat (first | rw [if_neg (by omega)] at hbk | rw [if_pos (by omega)] at hbk)
 simp only [List.length_append] at hbl
 have hok9 : batchOk x.batch := by first | exact hbk.1 | exact hbk
 have hcl:=gBatch_ok hp ((hatx.fr q1).sub 38 1) (hx0.fr q1) hok9 (by simp only [List.length_append] at hbl ⊢; omega)
 refine wl_invoke (t := 87) (name := "bastide/note.batch") (f := 174) (by decide) mt174 rfl rfl hcl ?_
 clear hcl
 rintro _ w10 ⟨A10, c10, hp10, hF10⟩
 replace hFr:=hFr.fr hF10
 replace hp:=hp10
 refine go ?_
 refine wk_post0 (.inr rfl) results65  ?_
 have hWO : out ++ noteE x = (((((out ++ numE x.kind) ++ numE x.from_) ++ numE x.group) ++ numE x.epoch) ++ batchE x.batch) := by
   unfold noteE bodyE
   repeat (first | rw [if_neg (by omega)] | rw [if_pos (by omega)])
   simp only [← List.append_assoc]
 rw [hWO]
 exact ⟨_, rfl, _, _, hp.less hFr.sub, hFr.chg, fun _ h => h⟩
 refine go ?_
 refine Eq_ rfl rfl (go ?_)
 refine Cd (fun hc6 => ?_) fun hc6 => ?_
 refine go ?_
 apply wdT 7 [.eq _,.eq _,.eq _,.eq _,.eq _,.eq _,.eq _]
 refine ⟨?_,?_,?_,?_,?_,?_,?_,trivial⟩<;>intro F wF hER hk
 exact Ld_ sc123 (hk.qi 2) ((hcap.fr q3).ext hER).head qz
 exact dm (hk.qi 1)
 exact Nc_ (hk.qe 1) qz
 exact Fe_ fld38_10 (hk.qe 2) qz
 have e65:=hk.qe 0
 exact wl_makeFunc (first := [.tmp 65]) (cap := []) (by decide) (by simp only [evs, ev, e65]; rfl) rfl qz
 exact wl_nilCheckM (t := 87) (by decide) mt177 (hk.qe 4) qz
 exact dm (hk.qe 0)
 intro F wD hED hini hdo
 refine wl_drop [(1, _), (2, _), (68, _), (71, _)] ⟨di hini 1, di hini 2, dr hdo 3, dr hdo 6, trivial⟩ ?_
 clear hini hdo
 replace hFr:=hFr.ext hED
 replace q1:=q1.ext hED
 replace q3:=q3.ext hED
 replace hp:=hp.ext hED
 have hbl:=hlen
 unfold noteE bodyE at hbl
 have hbk:=hok.2.2.2.2
 unfold bodyOk at hbk
 repeat (first | rw [if_neg (by omega)] at hbl | rw [if_pos (by omega)] at hbl)
 repeat (first | rw [if_neg (by omega)] at hbk | rw [if_pos (by omega)] at hbk)
 simp only [List.length_append] at hbl
 have hok11 : isNum x.node := by first | exact hbk.1 | exact hbk
 have hcl:=gNum_ok hp ((hatx.fr q1).sub 44 1) hok11 (by simp only [List.length_append] at hbl ⊢; omega)
 refine wl_invoke (t := 87) (name := "bastide/note.num") (f := 177) (by decide) mt177 rfl rfl hcl ?_
 clear hcl
 rintro _ w12 ⟨A12, c12, hp12, hF12⟩
 replace hFr:=hFr.fr hF12
 replace q1:=q1.fr hF12
 replace q3:=q3.fr hF12
 replace hp:=hp12
 refine go ?_
 apply wdT 7 [.eq _,.eq _,.eq _,.eq _,.eq _,.eq _,.eq _]
 refine ⟨?_,?_,?_,?_,?_,?_,?_,trivial⟩<;>intro F wF hER hk
 exact Ld_ sc123 (hk.qi 2) ((hcap.fr q3).ext hER).head qz
 exact dm (hk.qi 1)
 exact Nc_ (hk.qe 1) qz
 exact Fe_ fld38_9 (hk.qe 2) qz
 have e73:=hk.qe 0
 exact wl_makeFunc (first := [.tmp 73]) (cap := []) (by decide) (by simp only [evs, ev, e73]; rfl) rfl qz
 exact wl_nilCheckM (t := 87) (by decide) mt177 (hk.qe 4) qz
 exact dm (hk.qe 0)
 intro F wD hED hini hdo
 refine wl_drop [(1, _), (2, _), (76, _), (79, _)] ⟨di hini 1, di hini 2, dr hdo 3, dr hdo 6, trivial⟩ ?_
 clear hini hdo
 replace hFr:=hFr.ext hED
 replace q1:=q1.ext hED
 replace q3:=q3.ext hED
 replace hp:=hp.ext hED
 have hok13 : isNum x.stamp := by first | exact hbk.2.1 | exact hbk.2
 have hcl:=gNum_ok hp ((hatx.fr q1).sub 43 1) hok13 (by simp only [List.length_append] at hbl ⊢; omega)
 refine wl_invoke (t := 87) (name := "bastide/note.num") (f := 177) (by decide) mt177 rfl rfl hcl ?_
 clear hcl
 rintro _ w14 ⟨A14, c14, hp14, hF14⟩
 replace hFr:=hFr.fr hF14
 replace q1:=q1.fr hF14
 replace q3:=q3.fr hF14
 replace hp:=hp14
 refine go ?_
 apply wdT 4 [.eq _,.eq _,.eq _,.eq _]
 refine ⟨?_,?_,?_,?_,trivial⟩<;>intro F wF hER hk
 exact Ld_ sc123 (hk.qi 2) ((hcap.fr q3).ext hER).head qz
 exact dm (hk.qi 1)
 exact Nc_ (hk.qe 1) qz
 exact Fe_ fld38_8 (hk.qe 2) qz
 intro F wD hED hini hdo
 refine wl_drop [(81, _), (84, _)] ⟨dr hdo 0, dr hdo 3, trivial⟩ ?_
 clear hini hdo
 replace hFr:=hFr.ext hED
 replace q1:=q1.ext hED
 replace hp:=hp.ext hED
 have hok15 : ansOk x.ans := by first | exact hbk.2.2.1 | exact hbk.2.2
 have hcl:=gAnswer_ok hp ((hatx.fr q1).sub 39 4) ⟨hIx.ans, _, _, _, _, rfl, (hx1.fr q1), (hx2.fr q1)⟩ hok15 (by simp only [List.length_append] at hbl ⊢; omega) (by rw [block_add]; exact (hmb.fr q1))
 refine Cl_ cl108 rfl hcl ?_
 clear hcl
 rintro _ w16 ⟨A16, c16, hp16, hF16⟩
 replace hFr:=hFr.fr hF16
 replace hp:=hp16
 refine go ?_
 refine wk_post0 (.inr rfl) results65  ?_
 have hWO : out ++ noteE x = (((((((out ++ numE x.kind) ++ numE x.from_) ++ numE x.group) ++ numE x.epoch) ++ numE x.node) ++ numE x.stamp) ++ ansE x.ans) := by
   unfold noteE bodyE
   repeat (first | rw [if_neg (by omega)] | rw [if_pos (by omega)])
   simp only [← List.append_assoc]
 rw [hWO]
 exact ⟨_, rfl, _, _, hp.less hFr.sub, hFr.chg, fun _ h => h⟩
 refine go ?_
 refine Eq_ rfl rfl (go ?_)
 refine Cd (fun hc7 => ?_) fun hc7 => ?_
 refine go ?_
 apply wdT 7 [.eq _,.eq _,.eq _,.eq _,.eq _,.eq _,.eq _]
 refine ⟨?_,?_,?_,?_,?_,?_,?_,trivial⟩<;>intro F wF hER hk
 exact Ld_ sc123 (hk.qi 2) ((hcap.fr q3).ext hER).head qz
 exact dm (hk.qi 1)
 exact Nc_ (hk.qe 1) qz
 exact Fe_ fld38_4 (hk.qe 2) qz
 have e86:=hk.qe 0
 exact wl_makeFunc (first := [.tmp 86]) (cap := []) (by decide) (by simp only [evs, ev, e86]; rfl) rfl qz
 exact wl_nilCheckM (t := 87) (by decide) mt177 (hk.qe 4) qz
 exact dm (hk.qe 0)
 intro F wD hED hini hdo
 refine wl_drop [(1, _), (2, _), (89, _), (92, _)] ⟨di hini 1, di hini 2, dr hdo 3, dr hdo 6, trivial⟩ ?_
 clear hini hdo
 replace hFr:=hFr.ext hED
 replace q1:=q1.ext hED
 replace q3:=q3.ext hED
 replace hp:=hp.ext hED
 have hbl:=hlen
 unfold noteE bodyE at hbl
 have hbk:=hok.2.2.2.2
 unfold bodyOk at hbk
 repeat (first | rw [if_neg (by omega)] at hbl | rw [if_pos (by omega)] at hbl)
 repeat (first | rw [if_neg (by omega)] at hbk | rw [if_pos (by omega)] at hbk)
 simp only [List.length_append] at hbl
 have hok17 : isNum x.view := by first | exact hbk.1 | exact hbk
 have hcl:=gNum_ok hp ((hatx.fr q1).sub 4 1) hok17 (by simp only [List.length_append] at hbl ⊢; omega)
 refine wl_invoke (t := 87) (name := "bastide/note.num") (f := 177) (by decide) mt177 rfl rfl hcl ?_
 clear hcl
 rintro _ w18 ⟨A18, c18, hp18, hF18⟩
 replace hFr:=hFr.fr hF18
 replace q1:=q1.fr hF18
 replace q3:=q3.fr hF18
 replace hp:=hp18
 refine go ?_
 apply wdT 7 [.eq _,.eq _,.eq _,.eq _,.eq _,.eq _,.eq _]
 refine ⟨?_,?_,?_,?_,?_,?_,?_,trivial⟩<;>intro F wF hER hk
 exact Ld_ sc123 (hk.qi 2) ((hcap.fr q3).ext hER).head qz
 exact dm (hk.qi 1)
 exact Nc_ (hk.qe 1) qz
 exact Fe_ fld38_5 (hk.qe 2) qz
 have e94:=hk.qe 0
 exact wl_makeFunc (first := [.tmp 94]) (cap := []) (by decide) (by simp only [evs, ev, e94]; rfl) rfl qz
 exact wl_nilCheckM (t := 87) (by decide) mt177 (hk.qe 4) qz
 exact dm (hk.qe 0)
 intro F wD hED hini hdo
 refine wl_drop [(1, _), (2, _), (97, _), (100, _)] ⟨di hini 1, di hini 2, dr hdo 3, dr hdo 6, trivial⟩ ?_
 clear hini hdo
 replace hFr:=hFr.ext hED
 replace q1:=q1.ext hED
 replace q3:=q3.ext hED
 replace hp:=hp.ext hED
 have hok19 : isNum x.seq := by first | exact hbk.2.1 | exact hbk.2
 have hcl:=gNum_ok hp ((hatx.fr q1).sub 5 1) hok19 (by simp only [List.length_append] at hbl ⊢; omega)
 refine wl_invoke (t := 87) (name := "bastide/note.num") (f := 177) (by decide) mt177 rfl rfl hcl ?_
 clear hcl
 rintro _ w20 ⟨A20, c20, hp20, hF20⟩
 replace hFr:=hFr.fr hF20
 replace q1:=q1.fr hF20
 replace q3:=q3.fr hF20
 replace hp:=hp20
 refine go ?_
 apply wdT 7 [.eq _,.eq _,.eq _,.eq _,.eq _,.eq _,.eq _]
 refine ⟨?_,?_,?_,?_,?_,?_,?_,trivial⟩<;>intro F wF hER hk
 exact Ld_ sc123 (hk.qi 2) ((hcap.fr q3).ext hER).head qz
 exact dm (hk.qi 1)
 exact Nc_ (hk.qe 1) qz
 exact Fe_ fld38_7 (hk.qe 2) qz
 have e102:=hk.qe 0
 exact wl_makeFunc (first := [.tmp 102]) (cap := []) (by decide) (by simp only [evs, ev, e102]; rfl) rfl qz
 exact wl_nilCheckM (t := 87) (by decide) mt174 (hk.qe 4) qz
 exact dm (hk.qe 0)
 intro F wD hED hini hdo
 refine wl_drop [(105, _), (108, _)] ⟨dr hdo 3, dr hdo 6, trivial⟩ ?_
 clear hini hdo
 replace hFr:=hFr.ext hED
 replace q1:=q1.ext hED
 replace hp:=hp.ext hED
 have hok21 : batchOk x.batch := by first | exact hbk.2.2.1 | exact hbk.2.2
 have hcl:=gBatch_ok hp ((hatx.fr q1).sub 38 1) (hx0.fr q1) hok21 (by simp only [List.length_append] at hbl ⊢; omega)
 refine wl_invoke (t := 87) (name := "bastide/note.batch") (f := 174) (by decide) mt174 rfl rfl hcl ?_
 clear hcl
 rintro _ w22 ⟨A22, c22, hp22, hF22⟩
 replace hFr:=hFr.fr hF22
 replace hp:=hp22
 refine go ?_
 refine wk_post0 (.inr rfl) results65  ?_
 have hWO : out ++ noteE x = (((((((out ++ numE x.kind) ++ numE x.from_) ++ numE x.group) ++ numE x.epoch) ++ numE x.view) ++ numE x.seq) ++ batchE x.batch) := by
   unfold noteE bodyE
   repeat (first | rw [if_neg (by omega)] | rw [if_pos (by omega)])
   simp only [← List.append_assoc]
 rw [hWO]
 exact ⟨_, rfl, _, _, hp.less hFr.sub, hFr.chg, fun _ h => h⟩
 refine go ?_
 refine Eq_ rfl rfl (go ?_)
 refine Cd (fun hc8 => ?_) fun hc8 => ?_
 refine go ?_
 refine Cd (fun hc9 => ?_) fun hc9 => ?_
 refine go ?_
 apply wdT 7 [.eq _,.eq _,.eq _,.eq _,.eq _,.eq _,.eq _]
 refine ⟨?_,?_,?_,?_,?_,?_,?_,trivial⟩<;>intro F wF hER hk
 exact Ld_ sc123 (hk.qi 2) ((hcap.fr q3).ext hER).head qz
 exact dm (hk.qi 1)
 exact Nc_ (hk.qe 1) qz
 exact Fe_ fld38_4 (hk.qe 2) qz
 have e110:=hk.qe 0
 exact wl_makeFunc (first := [.tmp 110]) (cap := []) (by decide) (by simp only [evs, ev, e110]; rfl) rfl qz
 exact wl_nilCheckM (t := 87) (by decide) mt177 (hk.qe 4) qz
 exact dm (hk.qe 0)
 intro F wD hED hini hdo
 refine wl_drop [(1, _), (2, _), (113, _), (116, _)] ⟨di hini 1, di hini 2, dr hdo 3, dr hdo 6, trivial⟩ ?_
 clear hini hdo
 replace hFr:=hFr.ext hED
 replace q1:=q1.ext hED
 replace q3:=q3.ext hED
 replace hp:=hp.ext hED
 have hbl:=hlen
 unfold noteE bodyE at hbl
 have hbk:=hok.2.2.2.2
 unfold bodyOk at hbk
 repeat (first | rw [if_neg (by omega)] at hbl | rw [if_pos (by omega)] at hbl)
 repeat (first | rw [if_neg (by omega)] at hbk | rw [if_pos (by omega)] at hbk)
 simp only [List.length_append] at hbl
 have hok23 : isNum x.view := by first | exact hbk.1 | exact hbk
 have hcl:=gNum_ok hp ((hatx.fr q1).sub 4 1) hok23 (by simp only [digE, List.length_append] at hbl ⊢; omega)
 refine wl_invoke (t := 87) (name := "bastide/note.num") (f := 177) (by decide) mt177 rfl rfl hcl ?_
 clear hcl
 rintro _ w24 ⟨A24, c24, hp24, hF24⟩
 replace hFr:=hFr.fr hF24
 replace q1:=q1.fr hF24
 replace q3:=q3.fr hF24
 replace hp:=hp24
 refine go ?_
 apply wdT 7 [.eq _,.eq _,.eq _,.eq _,.eq _,.eq _,.eq _]
 refine ⟨?_,?_,?_,?_,?_,?_,?_,trivial⟩<;>intro F wF hER hk
 exact Ld_ sc123 (hk.qi 2) ((hcap.fr q3).ext hER).head qz
 exact dm (hk.qi 1)
 exact Nc_ (hk.qe 1) qz
 exact Fe_ fld38_5 (hk.qe 2) qz
 have e118:=hk.qe 0
 exact wl_makeFunc (first := [.tmp 118]) (cap := []) (by decide) (by simp only [evs, ev, e118]; rfl) rfl qz
 exact wl_nilCheckM (t := 87) (by decide) mt177 (hk.qe 4) qz
 exact dm (hk.qe 0)
 intro F wD hED hini hdo
 refine wl_drop [(1, _), (2, _), (121, _), (124, _)] ⟨di hini 1, di hini 2, dr hdo 3, dr hdo 6, trivial⟩ ?_
 clear hini hdo
 replace hFr:=hFr.ext hED
 replace q1:=q1.ext hED
 replace q3:=q3.ext hED
 replace hp:=hp.ext hED
 have hok25 : isNum x.seq := by first | exact hbk.2.1 | exact hbk.2
 have hcl:=gNum_ok hp ((hatx.fr q1).sub 5 1) hok25 (by simp only [digE, List.length_append] at hbl ⊢; omega)
 refine wl_invoke (t := 87) (name := "bastide/note.num") (f := 177) (by decide) mt177 rfl rfl hcl ?_
 clear hcl
 rintro _ w26 ⟨A26, c26, hp26, hF26⟩
 replace hFr:=hFr.fr hF26
 replace q1:=q1.fr hF26
 replace q3:=q3.fr hF26
 replace hp:=hp26
 refine go ?_
 apply wdT 7 [.eq _,.eq _,.eq _,.eq _,.eq _,.eq _,.eq _]
 refine ⟨?_,?_,?_,?_,?_,?_,?_,trivial⟩<;>intro F wF hER hk
 exact Ld_ sc123 (hk.qi 2) ((hcap.fr q3).ext hER).head qz
 exact dm (hk.qi 1)
 exact Nc_ (hk.qe 1) qz
 exact Fe_ fld38_6 (hk.qe 2) qz
 have e126:=hk.qe 0
 exact wl_makeFunc (first := [.tmp 126]) (cap := []) (by decide) (by simp only [evs, ev, e126]; rfl) rfl qz
 exact wl_nilCheckM (t := 87) (by decide) mt175 (hk.qe 4) qz
 exact dm (hk.qe 0)
 intro F wD hED hini hdo
 refine wl_drop [(129, _), (132, _)] ⟨dr hdo 3, dr hdo 6, trivial⟩ ?_
 clear hini hdo
 replace hFr:=hFr.ext hED
 replace q1:=q1.ext hED
 replace hp:=hp.ext hED
 have hcl:=gDig_ok hp ((hatx.fr q1).sub 6 32) (by simp only [digE, List.length_append] at hbl ⊢; omega)
 refine wl_invoke (t := 87) (name := "bastide/note.digest") (f := 175) (by decide) mt175 rfl rfl hcl ?_
 clear hcl
 rintro _ w27 ⟨A27, c27, hp27, hF27⟩
 replace hFr:=hFr.fr hF27
 replace hp:=hp27
 refine go ?_
 refine wk_post0 (.inr rfl) results65  ?_
 have hWO : out ++ noteE x = (((((((out ++ numE x.kind) ++ numE x.from_) ++ numE x.group) ++ numE x.epoch) ++ numE x.view) ++ numE x.seq) ++ x.dig.l) := by
   unfold noteE bodyE
   repeat (first | rw [if_neg (by omega)] | rw [if_pos (by omega)])
   simp only [digE, ← List.append_assoc]
 rw [hWO]
 exact ⟨_, rfl, _, _, hp.less hFr.sub, hFr.chg, fun _ h => h⟩
 exact absurd hc8 hc9
 refine go ?_
 refine Eq_ rfl rfl (go ?_)
 refine Cd (fun hc10 => ?_) fun hc10 => ?_
 refine go ?_
 apply wdT 7 [.eq _,.eq _,.eq _,.eq _,.eq _,.eq _,.eq _]
 refine ⟨?_,?_,?_,?_,?_,?_,?_,trivial⟩<;>intro F wF hER hk
 exact Ld_ sc123 (hk.qi 2) ((hcap.fr q3).ext hER).head qz
 exact dm (hk.qi 1)
 exact Nc_ (hk.qe 1) qz
 exact Fe_ fld38_4 (hk.qe 2) qz
 have e110:=hk.qe 0
 exact wl_makeFunc (first := [.tmp 110]) (cap := []) (by decide) (by simp only [evs, ev, e110]; rfl) rfl qz
 exact wl_nilCheckM (t := 87) (by decide) mt177 (hk.qe 4) qz
 exact dm (hk.qe 0)
 intro F wD hED hini hdo
 refine wl_drop [(1, _), (2, _), (113, _), (116, _)] ⟨di hini 1, di hini 2, dr hdo 3, dr hdo 6, trivial⟩ ?_
 clear hini hdo
 replace hFr:=hFr.ext hED
 replace q1:=q1.ext hED
 replace q3:=q3.ext hED
 replace hp:=hp.ext hED
 have hbl:=hlen
 unfold noteE bodyE at hbl
 have hbk:=hok.2.2.2.2
 unfold bodyOk at hbk
 repeat (first | rw [if_neg (by omega)] at hbl | rw [if_pos (by omega)] at hbl)
 repeat (first | rw [if_neg (by omega)] at hbk | rw [if_pos (by omega)] at hbk)
 simp only [List.length_append] at hbl
 have hok28 : isNum x.view := by first | exact hbk.1 | exact hbk
 have hcl:=gNum_ok hp ((hatx.fr q1).sub 4 1) hok28 (by simp only [digE, List.length_append] at hbl ⊢; omega)
 refine wl_invoke (t := 87) (name := "bastide/note.num") (f := 177) (by decide) mt177 rfl rfl hcl ?_
 clear hcl
 rintro _ w29 ⟨A29, c29, hp29, hF29⟩
 replace hFr:=hFr.fr hF29
 replace q1:=q1.fr hF29
 replace q3:=q3.fr hF29
 replace hp:=hp29
 refine go ?_
 apply wdT 7 [.eq _,.eq _,.eq _,.eq _,.eq _,.eq _,.eq _]
 refine ⟨?_,?_,?_,?_,?_,?_,?_,trivial⟩<;>intro F wF hER hk
 exact Ld_ sc123 (hk.qi 2) ((hcap.fr q3).ext hER).head qz
 exact dm (hk.qi 1)
 exact Nc_ (hk.qe 1) qz
 exact Fe_ fld38_5 (hk.qe 2) qz
 have e118:=hk.qe 0
 exact wl_makeFunc (first := [.tmp 118]) (cap := []) (by decide) (by simp only [evs, ev, e118]; rfl) rfl qz
 exact wl_nilCheckM (t := 87) (by decide) mt177 (hk.qe 4) qz
 exact dm (hk.qe 0)
 intro F wD hED hini hdo
 refine wl_drop [(1, _), (2, _), (121, _), (124, _)] ⟨di hini 1, di hini 2, dr hdo 3, dr hdo 6, trivial⟩ ?_
 clear hini hdo
 replace hFr:=hFr.ext hED
 replace q1:=q1.ext hED
 replace q3:=q3.ext hED
 replace hp:=hp.ext hED
 have hok30 : isNum x.seq := by first | exact hbk.2.1 | exact hbk.2
 have hcl:=gNum_ok hp ((hatx.fr q1).sub 5 1) hok30 (by simp only [digE, List.length_append] at hbl ⊢; omega)
 refine wl_invoke (t := 87) (name := "bastide/note.num") (f := 177) (by decide) mt177 rfl rfl hcl ?_
 clear hcl
 rintro _ w31 ⟨A31, c31, hp31, hF31⟩
 replace hFr:=hFr.fr hF31
 replace q1:=q1.fr hF31
 replace q3:=q3.fr hF31
 replace hp:=hp31
 refine go ?_
 apply wdT 7 [.eq _,.eq _,.eq _,.eq _,.eq _,.eq _,.eq _]
 refine ⟨?_,?_,?_,?_,?_,?_,?_,trivial⟩<;>intro F wF hER hk
 exact Ld_ sc123 (hk.qi 2) ((hcap.fr q3).ext hER).head qz
 exact dm (hk.qi 1)
 exact Nc_ (hk.qe 1) qz
 exact Fe_ fld38_6 (hk.qe 2) qz
 have e126:=hk.qe 0
 exact wl_makeFunc (first := [.tmp 126]) (cap := []) (by decide) (by simp only [evs, ev, e126]; rfl) rfl qz
 exact wl_nilCheckM (t := 87) (by decide) mt175 (hk.qe 4) qz
 exact dm (hk.qe 0)
 intro F wD hED hini hdo
 refine wl_drop [(129, _), (132, _)] ⟨dr hdo 3, dr hdo 6, trivial⟩ ?_
 clear hini hdo
 replace hFr:=hFr.ext hED
 replace q1:=q1.ext hED
 replace hp:=hp.ext hED
 have hcl:=gDig_ok hp ((hatx.fr q1).sub 6 32) (by simp only [digE, List.length_append] at hbl ⊢; omega)
 refine wl_invoke (t := 87) (name := "bastide/note.digest") (f := 175) (by decide) mt175 rfl rfl hcl ?_
 clear hcl
 rintro _ w32 ⟨A32, c32, hp32, hF32⟩
 replace hFr:=hFr.fr hF32
 replace hp:=hp32
 refine go ?_
 refine wk_post0 (.inr rfl) results65  ?_
 have hWO : out ++ noteE x = (((((((out ++ numE x.kind) ++ numE x.from_) ++ numE x.group) ++ numE x.epoch) ++ numE x.view) ++ numE x.seq) ++ x.dig.l) := by
   unfold noteE bodyE
   repeat (first | rw [if_neg (by omega)] | rw [if_pos (by omega)])
   simp only [digE, ← List.append_assoc]
 rw [hWO]
 exact ⟨_, rfl, _, _, hp.less hFr.sub, hFr.chg, fun _ h => h⟩
 refine go ?_
 refine Eq_ rfl rfl (go ?_)
 refine Cd (fun hc11 => ?_) fun hc11 => ?_
 refine go ?_
 refine Cd (fun hc12 => ?_) fun hc12 => ?_
 refine go ?_
 apply wdT 7 [.eq _,.eq _,.eq _,.eq _,.eq _,.eq _,.eq _]
 refine ⟨?_,?_,?_,?_,?_,?_,?_,trivial⟩<;>intro F wF hER hk
 exact Ld_ sc123 (hk.qi 2) ((hcap.fr q3).ext hER).head qz
 exact dm (hk.qi 1)
 exact Nc_ (hk.qe 1) qz
 exact Fe_ fld38_5 (hk.qe 2) qz
 have e118:=hk.qe 0
 exact wl_makeFunc (first := [.tmp 118]) (cap := []) (by decide) (by simp only [evs, ev, e118]; rfl) rfl qz
 exact wl_nilCheckM (t := 87) (by decide) mt177 (hk.qe 4) qz
 exact dm (hk.qe 0)
 intro F wD hED hini hdo
 refine wl_drop [(1, _), (2, _), (121, _), (124, _)] ⟨di hini 1, di hini 2, dr hdo 3, dr hdo 6, trivial⟩ ?_
 clear hini hdo
 replace hFr:=hFr.ext hED
 replace q1:=q1.ext hED
 replace q3:=q3.ext hED
 replace hp:=hp.ext hED
 have hbl:=hlen
 unfold noteE bodyE at hbl
 have hbk:=hok.2.2.2.2
 unfold bodyOk at hbk
 repeat (first | rw [if_neg (by omega)] at hbl | rw [if_pos (by omega)] at hbl)
 repeat (first | rw [if_neg (by omega)] at hbk | rw [if_pos (by omega)] at hbk)
 simp only [List.length_append] at hbl
 have hok33 : isNum x.seq := by first | exact hbk.1 | exact hbk
 have hcl:=gNum_ok hp ((hatx.fr q1).sub 5 1) hok33 (by simp only [digE, List.length_append] at hbl ⊢; omega)
 refine wl_invoke (t := 87) (name := "bastide/note.num") (f := 177) (by decide) mt177 rfl rfl hcl ?_
 clear hcl
 rintro _ w34 ⟨A34, c34, hp34, hF34⟩
 replace hFr:=hFr.fr hF34
 replace q1:=q1.fr hF34
 replace q3:=q3.fr hF34
 replace hp:=hp34
 refine go ?_
 apply wdT 7 [.eq _,.eq _,.eq _,.eq _,.eq _,.eq _,.eq _]
 refine ⟨?_,?_,?_,?_,?_,?_,?_,trivial⟩<;>intro F wF hER hk
 exact Ld_ sc123 (hk.qi 2) ((hcap.fr q3).ext hER).head qz
 exact dm (hk.qi 1)
 exact Nc_ (hk.qe 1) qz
 exact Fe_ fld38_6 (hk.qe 2) qz
 have e126:=hk.qe 0
 exact wl_makeFunc (first := [.tmp 126]) (cap := []) (by decide) (by simp only [evs, ev, e126]; rfl) rfl qz
 exact wl_nilCheckM (t := 87) (by decide) mt175 (hk.qe 4) qz
 exact dm (hk.qe 0)
 intro F wD hED hini hdo
 refine wl_drop [(129, _), (132, _)] ⟨dr hdo 3, dr hdo 6, trivial⟩ ?_
 clear hini hdo
 replace hFr:=hFr.ext hED
 replace q1:=q1.ext hED
 replace hp:=hp.ext hED
 have hcl:=gDig_ok hp ((hatx.fr q1).sub 6 32) (by simp only [digE, List.length_append] at hbl ⊢; omega)
 refine wl_invoke (t := 87) (name := "bastide/note.digest") (f := 175) (by decide) mt175 rfl rfl hcl ?_
 clear hcl
 rintro _ w35 ⟨A35, c35, hp35, hF35⟩
 replace hFr:=hFr.fr hF35
 replace hp:=hp35
 refine go ?_
 refine wk_post0 (.inr rfl) results65  ?_
 have hWO : out ++ noteE x = ((((((out ++ numE x.kind) ++ numE x.from_) ++ numE x.group) ++ numE x.epoch) ++ numE x.seq) ++ x.dig.l) := by
   unfold noteE bodyE
   repeat (first | rw [if_neg (by omega)] | rw [if_pos (by omega)])
   simp only [digE, ← List.append_assoc]
 rw [hWO]
 exact ⟨_, rfl, _, _, hp.less hFr.sub, hFr.chg, fun _ h => h⟩
 exact absurd hc11 hc12
 refine go ?_
 refine Eq_ rfl rfl (go ?_)
 refine Cd (fun hc13 => ?_) fun hc13 => ?_
 refine go ?_
 apply wdT 7 [.eq _,.eq _,.eq _,.eq _,.eq _,.eq _,.eq _]
 refine ⟨?_,?_,?_,?_,?_,?_,?_,trivial⟩<;>intro F wF hER hk
 exact Ld_ sc123 (hk.qi 2) ((hcap.fr q3).ext hER).head qz
 exact dm (hk.qi 1)
 exact Nc_ (hk.qe 1) qz
 exact Fe_ fld38_5 (hk.qe 2) qz
 have e118:=hk.qe 0
 exact wl_makeFunc (first := [.tmp 118]) (cap := []) (by decide) (by simp only [evs, ev, e118]; rfl) rfl qz
 exact wl_nilCheckM (t := 87) (by decide) mt177 (hk.qe 4) qz
 exact dm (hk.qe 0)
 intro F wD hED hini hdo
 refine wl_drop [(1, _), (2, _), (121, _), (124, _)] ⟨di hini 1, di hini 2, dr hdo 3, dr hdo 6, trivial⟩ ?_
 clear hini hdo
 replace hFr:=hFr.ext hED
 replace q1:=q1.ext hED
 replace q3:=q3.ext hED
 replace hp:=hp.ext hED
 have hbl:=hlen
 unfold noteE bodyE at hbl
 have hbk:=hok.2.2.2.2
 unfold bodyOk at hbk
 repeat (first | rw [if_neg (by omega)] at hbl | rw [if_pos (by omega)] at hbl)
 repeat (first | rw [if_neg (by omega)] at hbk | rw [if_pos (by omega)] at hbk)
 simp only [List.length_append] at hbl
 have hok36 : isNum x.seq := by first | exact hbk.1 | exact hbk
 have hcl:=gNum_ok hp ((hatx.fr q1).sub 5 1) hok36 (by simp only [digE, List.length_append] at hbl ⊢; omega)
 refine wl_invoke (t := 87) (name := "bastide/note.num") (f := 177) (by decide) mt177 rfl rfl hcl ?_
 clear hcl
 rintro _ w37 ⟨A37, c37, hp37, hF37⟩
 replace hFr:=hFr.fr hF37
 replace q1:=q1.fr hF37
 replace q3:=q3.fr hF37
 replace hp:=hp37
 refine go ?_
 apply wdT 7 [.eq _,.eq _,.eq _,.eq _,.eq _,.eq _,.eq _]
 refine ⟨?_,?_,?_,?_,?_,?_,?_,trivial⟩<;>intro F wF hER hk
 exact Ld_ sc123 (hk.qi 2) ((hcap.fr q3).ext hER).head qz
 exact dm (hk.qi 1)
 exact Nc_ (hk.qe 1) qz
 exact Fe_ fld38_6 (hk.qe 2) qz
 have e126:=hk.qe 0
 exact wl_makeFunc (first := [.tmp 126]) (cap := []) (by decide) (by simp only [evs, ev, e126]; rfl) rfl qz
 exact wl_nilCheckM (t := 87) (by decide) mt175 (hk.qe 4) qz
 exact dm (hk.qe 0)
 intro F wD hED hini hdo
 refine wl_drop [(129, _), (132, _)] ⟨dr hdo 3, dr hdo 6, trivial⟩ ?_
 clear hini hdo
 replace hFr:=hFr.ext hED
 replace q1:=q1.ext hED
 replace hp:=hp.ext hED
 have hcl:=gDig_ok hp ((hatx.fr q1).sub 6 32) (by simp only [digE, List.length_append] at hbl ⊢; omega)
 refine wl_invoke (t := 87) (name := "bastide/note.digest") (f := 175) (by decide) mt175 rfl rfl hcl ?_
 clear hcl
 rintro _ w38 ⟨A38, c38, hp38, hF38⟩
 replace hFr:=hFr.fr hF38
 replace hp:=hp38
 refine go ?_
 refine wk_post0 (.inr rfl) results65  ?_
 have hWO : out ++ noteE x = ((((((out ++ numE x.kind) ++ numE x.from_) ++ numE x.group) ++ numE x.epoch) ++ numE x.seq) ++ x.dig.l) := by
   unfold noteE bodyE
   repeat (first | rw [if_neg (by omega)] | rw [if_pos (by omega)])
   simp only [digE, ← List.append_assoc]
 rw [hWO]
 exact ⟨_, rfl, _, _, hp.less hFr.sub, hFr.chg, fun _ h => h⟩
 refine go ?_
 refine Eq_ rfl rfl (go ?_)
 refine Cd (fun hc14 => ?_) fun hc14 => ?_
 refine go ?_
 apply wdT 4 [.eq _,.eq _,.eq _,.eq _]
 refine ⟨?_,?_,?_,?_,trivial⟩<;>intro F wF hER hk
 exact Ld_ sc123 (hk.qi 2) ((hcap.fr q3).ext hER).head qz
 exact dm (hk.qi 1)
 exact Nc_ (hk.qe 1) qz
 exact Fe_ fld38_11 (hk.qe 2) qz
 intro F wD hED hini hdo
 refine wl_drop [(134, _), (137, _)] ⟨dr hdo 0, dr hdo 3, trivial⟩ ?_
 clear hini hdo
 replace hFr:=hFr.ext hED
 replace q1:=q1.ext hED
 replace hp:=hp.ext hED
 have hbl:=hlen
 unfold noteE bodyE at hbl
 have hbk:=hok.2.2.2.2
 unfold bodyOk at hbk
 repeat (first | rw [if_neg (by omega)] at hbl | rw [if_pos (by omega)] at hbl)
 repeat (first | rw [if_neg (by omega)] at hbk | rw [if_pos (by omega)] at hbk)
 simp only [List.length_append] at hbl
 have hok39 : changeOk x.change := by first | exact hbk.1 | exact hbk
 have hcl:=gChange_ok hp ((hatx.fr q1).sub 45 6) ⟨hIx.change, _, _, _, _, _, _, rfl, (hx3.fr q1), (hx4.fr q1), (hx5.fr q1)⟩ hok39 (by simp only [List.length_append] at hbl ⊢; omega)
 refine Cl_ cl57 rfl hcl ?_
 clear hcl
 rintro _ w40 ⟨A40, c40, hp40, hF40⟩
 replace hFr:=hFr.fr hF40
 replace hp:=hp40
 refine go ?_
 refine wk_post0 (.inr rfl) results65  ?_
 have hWO : out ++ noteE x = (((((out ++ numE x.kind) ++ numE x.from_) ++ numE x.group) ++ numE x.epoch) ++ changeE x.change) := by
   unfold noteE bodyE
   repeat (first | rw [if_neg (by omega)] | rw [if_pos (by omega)])
   simp only [← List.append_assoc]
 rw [hWO]
 exact ⟨_, rfl, _, _, hp.less hFr.sub, hFr.chg, fun _ h => h⟩
 refine go ?_
 refine Eq_ rfl rfl (go ?_)
 refine Cd (fun hc15 => ?_) fun hc15 => ?_
 refine go ?_
 apply wdT 7 [.eq _,.eq _,.eq _,.eq _,.eq _,.eq _,.eq _]
 refine ⟨?_,?_,?_,?_,?_,?_,?_,trivial⟩<;>intro F wF hER hk
 exact Ld_ sc123 (hk.qi 2) ((hcap.fr q3).ext hER).head qz
 exact dm (hk.qi 1)
 exact Nc_ (hk.qe 1) qz
 exact Fe_ fld38_4 (hk.qe 2) qz
 have e139:=hk.qe 0
 exact wl_makeFunc (first := [.tmp 139]) (cap := []) (by decide) (by simp only [evs, ev, e139]; rfl) rfl qz
 exact wl_nilCheckM (t := 87) (by decide) mt177 (hk.qe 4) qz
 exact dm (hk.qe 0)
 intro F wD hED hini hdo
 refine wl_drop [(1, _), (2, _), (142, _), (145, _)] ⟨di hini 1, di hini 2, dr hdo 3, dr hdo 6, trivial⟩ ?_
 clear hini hdo
 replace hFr:=hFr.ext hED
 replace q1:=q1.ext hED
 replace q3:=q3.ext hED
 replace hp:=hp.ext hED
 have hbl:=hlen
 unfold noteE bodyE at hbl
 have hbk:=hok.2.2.2.2
 unfold bodyOk at hbk
 repeat (first | rw [if_neg (by omega)] at hbl | rw [if_pos (by omega)] at hbl)
 repeat (first | rw [if_neg (by omega)] at hbk | rw [if_pos (by omega)] at hbk)
 simp only [List.length_append] at hbl
 have hok41 : isNum x.view := by first | exact hbk.1 | exact hbk
 have hcl:=gNum_ok hp ((hatx.fr q1).sub 4 1) hok41 (by simp only [digE, List.length_append] at hbl ⊢; omega)
 refine wl_invoke (t := 87) (name := "bastide/note.num") (f := 177) (by decide) mt177 rfl rfl hcl ?_
 clear hcl
 rintro _ w42 ⟨A42, c42, hp42, hF42⟩
 replace hFr:=hFr.fr hF42
 replace q1:=q1.fr hF42
 replace q3:=q3.fr hF42
 replace hp:=hp42
 refine go ?_
 apply wdT 7 [.eq _,.eq _,.eq _,.eq _,.eq _,.eq _,.eq _]
 refine ⟨?_,?_,?_,?_,?_,?_,?_,trivial⟩<;>intro F wF hER hk
 exact Ld_ sc123 (hk.qi 2) ((hcap.fr q3).ext hER).head qz
 exact dm (hk.qi 1)
 exact Nc_ (hk.qe 1) qz
 exact Fe_ fld38_10 (hk.qe 2) qz
 have e147:=hk.qe 0
 exact wl_makeFunc (first := [.tmp 147]) (cap := []) (by decide) (by simp only [evs, ev, e147]; rfl) rfl qz
 exact wl_nilCheckM (t := 87) (by decide) mt177 (hk.qe 4) qz
 exact dm (hk.qe 0)
 intro F wD hED hini hdo
 refine wl_drop [(1, _), (2, _), (150, _), (153, _)] ⟨di hini 1, di hini 2, dr hdo 3, dr hdo 6, trivial⟩ ?_
 clear hini hdo
 replace hFr:=hFr.ext hED
 replace q1:=q1.ext hED
 replace q3:=q3.ext hED
 replace hp:=hp.ext hED
 have hok43 : isNum x.node := by first | exact hbk.2.1 | exact hbk.2
 have hcl:=gNum_ok hp ((hatx.fr q1).sub 44 1) hok43 (by simp only [digE, List.length_append] at hbl ⊢; omega)
 refine wl_invoke (t := 87) (name := "bastide/note.num") (f := 177) (by decide) mt177 rfl rfl hcl ?_
 clear hcl
 rintro _ w44 ⟨A44, c44, hp44, hF44⟩
 replace hFr:=hFr.fr hF44
 replace q1:=q1.fr hF44
 replace q3:=q3.fr hF44
 replace hp:=hp44
 refine go ?_
 apply wdT 7 [.eq _,.eq _,.eq _,.eq _,.eq _,.eq _,.eq _]
 refine ⟨?_,?_,?_,?_,?_,?_,?_,trivial⟩<;>intro F wF hER hk
 exact Ld_ sc123 (hk.qi 2) ((hcap.fr q3).ext hER).head qz
 exact dm (hk.qi 1)
 exact Nc_ (hk.qe 1) qz
 exact Fe_ fld38_6 (hk.qe 2) qz
 have e155:=hk.qe 0
 exact wl_makeFunc (first := [.tmp 155]) (cap := []) (by decide) (by simp only [evs, ev, e155]; rfl) rfl qz
 exact wl_nilCheckM (t := 87) (by decide) mt175 (hk.qe 4) qz
 exact dm (hk.qe 0)
 intro F wD hED hini hdo
 refine wl_drop [(158, _), (161, _)] ⟨dr hdo 3, dr hdo 6, trivial⟩ ?_
 clear hini hdo
 replace hFr:=hFr.ext hED
 replace q1:=q1.ext hED
 replace hp:=hp.ext hED
 have hcl:=gDig_ok hp ((hatx.fr q1).sub 6 32) (by simp only [digE, List.length_append] at hbl ⊢; omega)
 refine wl_invoke (t := 87) (name := "bastide/note.digest") (f := 175) (by decide) mt175 rfl rfl hcl ?_
 clear hcl
 rintro _ w45 ⟨A45, c45, hp45, hF45⟩
 replace hFr:=hFr.fr hF45
 replace hp:=hp45
 refine go ?_
 refine wk_post0 (.inr rfl) results65  ?_
 have hWO : out ++ noteE x = (((((((out ++ numE x.kind) ++ numE x.from_) ++ numE x.group) ++ numE x.epoch) ++ numE x.view) ++ numE x.node) ++ x.dig.l) := by
   unfold noteE bodyE
   repeat (first | rw [if_neg (by omega)] | rw [if_pos (by omega)])
   simp only [digE, ← List.append_assoc]
 rw [hWO]
 exact ⟨_, rfl, _, _, hp.less hFr.sub, hFr.chg, fun _ h => h⟩
 refine go ?_
 refine Eq_ rfl rfl (go ?_)
 refine Cd (fun hc16 => ?_) fun hc16 => ?_
 refine go ?_
 apply wdT 7 [.eq _,.eq _,.eq _,.eq _,.eq _,.eq _,.eq _]
 refine ⟨?_,?_,?_,?_,?_,?_,?_,trivial⟩<;>intro F wF hER hk
 exact Ld_ sc123 (hk.qi 2) ((hcap.fr q3).ext hER).head qz
 exact dm (hk.qi 1)
 exact Nc_ (hk.qe 1) qz
 exact Fe_ fld38_4 (hk.qe 2) qz
 have e163:=hk.qe 0
 exact wl_makeFunc (first := [.tmp 163]) (cap := []) (by decide) (by simp only [evs, ev, e163]; rfl) rfl qz
 exact wl_nilCheckM (t := 87) (by decide) mt177 (hk.qe 4) qz
 exact dm (hk.qe 0)
 intro F wD hED hini hdo
 refine wl_drop [(1, _), (2, _), (166, _), (169, _)] ⟨di hini 1, di hini 2, dr hdo 3, dr hdo 6, trivial⟩ ?_
 clear hini hdo
 replace hFr:=hFr.ext hED
 replace q1:=q1.ext hED
 replace q3:=q3.ext hED
 replace hp:=hp.ext hED
 have hbl:=hlen
 unfold noteE bodyE at hbl
 have hbk:=hok.2.2.2.2
 unfold bodyOk at hbk
 repeat (first | rw [if_neg (by omega)] at hbl | rw [if_pos (by omega)] at hbl)
 repeat (first | rw [if_neg (by omega)] at hbk | rw [if_pos (by omega)] at hbk)
 simp only [List.length_append] at hbl
 have hok46 : isNum x.view := by first | exact hbk.1 | exact hbk
 have hcl:=gNum_ok hp ((hatx.fr q1).sub 4 1) hok46 (by simp only [List.length_append] at hbl ⊢; omega)
 refine wl_invoke (t := 87) (name := "bastide/note.num") (f := 177) (by decide) mt177 rfl rfl hcl ?_
 clear hcl
 rintro _ w47 ⟨A47, c47, hp47, hF47⟩
 replace hFr:=hFr.fr hF47
 replace q1:=q1.fr hF47
 replace q3:=q3.fr hF47
 replace hp:=hp47
 refine go ?_
 apply wdT 5 [.eq _,.eq _,.eq _,.eq _,.eq _]
 refine ⟨?_,?_,?_,?_,?_,trivial⟩<;>intro F wF hER hk
 exact Ld_ sc123 (hk.qi 2) ((hcap.fr q3).ext hER).head qz
 exact dm (hk.qi 1)
 exact Nc_ (hk.qe 1) qz
 exact Fe_ fld38_12 (hk.qe 2) qz
 have e2:=hk.qi 2
 exact wl_makeFunc (first := []) (cap := [.tmp 2]) (by decide) rfl (by simp only [evs, ev, e2]; rfl) qz
 intro F wD hED hini hdo
 refine wl_drop [(1, _), (2, _), (171, _), (174, _), (175, _)] ⟨di hini 1, di hini 2, dr hdo 0, dr hdo 3, dr hdo 4, trivial⟩ ?_
 clear hini hdo
 replace hFr:=hFr.ext hED
 replace q1:=q1.ext hED
 replace q3:=q3.ext hED
 replace hp:=hp.ext hED
 have hok48 : (x.changes.length : Int) ≤ 7 ∧ ∀ y ∈ x.changes, changeOk y := by first | exact hbk.2.1 | exact hbk.2
 have hcl:=gListC_ok (E := changeE) (ok := changeOk) (FV := .func (.func 110) ([] : List Value).toArray [Value.pointer (some ⟨gs2, 0, none⟩)].toArray) (most := 7) hp ((hatx.fr q1).sub 51 1) (hx6.fr q1) (hok48).2 (fun w1 H1 A c out pa cs x hF hp hat hrd hok hlen => RetV.func (first := []) (cap := [pt gs2 0]) (vs := [.pointer (some pa)]) cl110 (gShow1_ok hp hat hrd hok hlen ((hcap.fr q3).frz hF))) (by have := (hok48).1; unfold isNum; omega) (by simp only [List.length_append] at hbl ⊢; omega)
 refine Cl_ cl109 rfl hcl ?_
 clear hcl
 rintro _ w49 ⟨A49, c49, hp49, hF49⟩
 replace hFr:=hFr.fr hF49
 replace q1:=q1.fr hF49
 replace q3:=q3.fr hF49
 replace hp:=hp49
 refine go ?_
 apply wdT 5 [.eq _,.eq _,.eq _,.eq _,.eq _]
 refine ⟨?_,?_,?_,?_,?_,trivial⟩<;>intro F wF hER hk
 exact Ld_ sc123 (hk.qi 2) ((hcap.fr q3).ext hER).head qz
 exact dm (hk.qi 1)
 exact Nc_ (hk.qe 1) qz
 exact Fe_ fld38_13 (hk.qe 2) qz
 have e2:=hk.qi 2
 exact wl_makeFunc (first := []) (cap := [.tmp 2]) (by decide) rfl (by simp only [evs, ev, e2]; rfl) qz
 intro F wD hED hini hdo
 refine wl_drop [(177, _), (180, _), (181, _)] ⟨dr hdo 0, dr hdo 3, dr hdo 4, trivial⟩ ?_
 clear hini hdo
 replace hFr:=hFr.ext hED
 replace q1:=q1.ext hED
 replace q3:=q3.ext hED
 replace hp:=hp.ext hED
 have hok50 : (x.picks.length : Int) ≤ 8 ∧ ∀ y ∈ x.picks, pickOk y := by first | exact hbk.2.2.1 | exact hbk.2.2
 have hcl:=gListP_ok (E := pickE) (ok := pickOk) (FV := .func (.func 112) ([] : List Value).toArray [Value.pointer (some ⟨gs2, 0, none⟩)].toArray) (most := 8) hp ((hatx.fr q1).sub 52 1) (hx7.fr q1) (hok50).2 (fun w1 H1 A c out pa cs x hF hp hat hrd hok hlen => RetV.func (first := []) (cap := [pt gs2 0]) (vs := [.pointer (some pa)]) cl112 (gPick_ok hp hat hrd hok hlen ((hcap.fr q3).frz hF))) (by have := (hok50).1; unfold isNum; omega) (by simp only [List.length_append] at hbl ⊢; omega)
 refine Cl_ cl111 rfl hcl ?_
 clear hcl
 rintro _ w51 ⟨A51, c51, hp51, hF51⟩
 replace hFr:=hFr.fr hF51
 replace hp:=hp51
 refine go ?_
 refine wk_post0 (.inr rfl) results65  ?_
 have hWO : out ++ noteE x = (((((((out ++ numE x.kind) ++ numE x.from_) ++ numE x.group) ++ numE x.epoch) ++ numE x.view) ++ listE changeE x.changes) ++ listE pickE x.picks) := by
   unfold noteE bodyE
   repeat (first | rw [if_neg (by omega)] | rw [if_pos (by omega)])
   simp only [← List.append_assoc]
 rw [hWO]
 exact ⟨_, rfl, _, _, hp.less hFr.sub, hFr.chg, fun _ h => h⟩
 refine go ?_
 refine Eq_ rfl rfl (go ?_)
 refine Cd (fun hc17 => ?_) fun hc17 => ?_
 refine go ?_
 refine Cd (fun hc18 => ?_) fun hc18 => ?_
 refine go ?_
 apply wdT 7 [.eq _,.eq _,.eq _,.eq _,.eq _,.eq _,.eq _]
 refine ⟨?_,?_,?_,?_,?_,?_,?_,trivial⟩<;>intro F wF hER hk
 exact Ld_ sc123 (hk.qi 2) ((hcap.fr q3).ext hER).head qz
 exact dm (hk.qi 1)
 exact Nc_ (hk.qe 1) qz
 exact Fe_ fld38_5 (hk.qe 2) qz
 have e183:=hk.qe 0
 exact wl_makeFunc (first := [.tmp 183]) (cap := []) (by decide) (by simp only [evs, ev, e183]; rfl) rfl qz
 exact wl_nilCheckM (t := 87) (by decide) mt177 (hk.qe 4) qz
 exact dm (hk.qe 0)
 intro F wD hED hini hdo
 refine wl_drop [(1, _), (2, _), (186, _), (189, _)] ⟨di hini 1, di hini 2, dr hdo 3, dr hdo 6, trivial⟩ ?_
 clear hini hdo
 replace hFr:=hFr.ext hED
 replace q1:=q1.ext hED
 replace q3:=q3.ext hED
 replace hp:=hp.ext hED
 have hbl:=hlen
 unfold noteE bodyE at hbl
 have hbk:=hok.2.2.2.2
 unfold bodyOk at hbk
 repeat (first | rw [if_neg (by omega)] at hbl | rw [if_pos (by omega)] at hbl)
 repeat (first | rw [if_neg (by omega)] at hbk | rw [if_pos (by omega)] at hbk)
 simp only [List.length_append] at hbl
 have hok52 : isNum x.seq := by first | exact hbk.1 | exact hbk
 have hcl:=gNum_ok hp ((hatx.fr q1).sub 5 1) hok52 (by simp only [digE, List.length_append] at hbl ⊢; omega)
 refine wl_invoke (t := 87) (name := "bastide/note.num") (f := 177) (by decide) mt177 rfl rfl hcl ?_
 clear hcl
 rintro _ w53 ⟨A53, c53, hp53, hF53⟩
 replace hFr:=hFr.fr hF53
 replace q1:=q1.fr hF53
 replace q3:=q3.fr hF53
 replace hp:=hp53
 refine go ?_
 apply wdT 7 [.eq _,.eq _,.eq _,.eq _,.eq _,.eq _,.eq _]
 refine ⟨?_,?_,?_,?_,?_,?_,?_,trivial⟩<;>intro F wF hER hk
 exact Ld_ sc123 (hk.qi 2) ((hcap.fr q3).ext hER).head qz
 exact dm (hk.qi 1)
 exact Nc_ (hk.qe 1) qz
 exact Fe_ fld38_6 (hk.qe 2) qz
 have e191:=hk.qe 0
 exact wl_makeFunc (first := [.tmp 191]) (cap := []) (by decide) (by simp only [evs, ev, e191]; rfl) rfl qz
 exact wl_nilCheckM (t := 87) (by decide) mt175 (hk.qe 4) qz
 exact dm (hk.qe 0)
 intro F wD hED hini hdo
 refine wl_drop [(1, _), (2, _), (194, _), (197, _)] ⟨di hini 1, di hini 2, dr hdo 3, dr hdo 6, trivial⟩ ?_
 clear hini hdo
 replace hFr:=hFr.ext hED
 replace q1:=q1.ext hED
 replace q3:=q3.ext hED
 replace hp:=hp.ext hED
 have hcl:=gDig_ok hp ((hatx.fr q1).sub 6 32) (by simp only [digE, List.length_append] at hbl ⊢; omega)
 refine wl_invoke (t := 87) (name := "bastide/note.digest") (f := 175) (by decide) mt175 rfl rfl hcl ?_
 clear hcl
 rintro _ w54 ⟨A54, c54, hp54, hF54⟩
 replace hFr:=hFr.fr hF54
 replace q1:=q1.fr hF54
 replace q3:=q3.fr hF54
 replace hp:=hp54
 refine go ?_
 apply wdT 7 [.eq _,.eq _,.eq _,.eq _,.eq _,.eq _,.eq _]
 refine ⟨?_,?_,?_,?_,?_,?_,?_,trivial⟩<;>intro F wF hER hk
 exact Ld_ sc123 (hk.qi 2) ((hcap.fr q3).ext hER).head qz
 exact dm (hk.qi 1)
 exact Nc_ (hk.qe 1) qz
 exact Fe_ fld38_14 (hk.qe 2) qz
 have e199:=hk.qe 0
 exact wl_makeFunc (first := [.tmp 199]) (cap := []) (by decide) (by simp only [evs, ev, e199]; rfl) rfl qz
 exact wl_nilCheckM (t := 87) (by decide) mt177 (hk.qe 4) qz
 exact dm (hk.qe 0)
 intro F wD hED hini hdo
 refine wl_drop [(1, _), (2, _), (202, _), (205, _)] ⟨di hini 1, di hini 2, dr hdo 3, dr hdo 6, trivial⟩ ?_
 clear hini hdo
 replace hFr:=hFr.ext hED
 replace q1:=q1.ext hED
 replace q3:=q3.ext hED
 replace hp:=hp.ext hED
 have hok55 : isNum x.level := by first | exact hbk.2.2.1 | exact hbk.2.2
 have hcl:=gNum_ok hp ((hatx.fr q1).sub 53 1) hok55 (by simp only [digE, List.length_append] at hbl ⊢; omega)
 refine wl_invoke (t := 87) (name := "bastide/note.num") (f := 177) (by decide) mt177 rfl rfl hcl ?_
 clear hcl
 rintro _ w56 ⟨A56, c56, hp56, hF56⟩
 replace hFr:=hFr.fr hF56
 replace q1:=q1.fr hF56
 replace q3:=q3.fr hF56
 replace hp:=hp56
 refine go ?_
 apply wdT 7 [.eq _,.eq _,.eq _,.eq _,.eq _,.eq _,.eq _]
 refine ⟨?_,?_,?_,?_,?_,?_,?_,trivial⟩<;>intro F wF hER hk
 exact Ld_ sc123 (hk.qi 2) ((hcap.fr q3).ext hER).head qz
 exact dm (hk.qi 1)
 exact Nc_ (hk.qe 1) qz
 exact Fe_ fld38_15 (hk.qe 2) qz
 have e207:=hk.qe 0
 exact wl_makeFunc (first := [.tmp 207]) (cap := []) (by decide) (by simp only [evs, ev, e207]; rfl) rfl qz
 exact wl_nilCheckM (t := 87) (by decide) mt177 (hk.qe 4) qz
 exact dm (hk.qe 0)
 intro F wD hED hini hdo
 refine wl_drop [(1, _), (2, _), (210, _), (213, _)] ⟨di hini 1, di hini 2, dr hdo 3, dr hdo 6, trivial⟩ ?_
 clear hini hdo
 replace hFr:=hFr.ext hED
 replace q1:=q1.ext hED
 replace hp:=hp.ext hED
 have hok57 : isNum x.place := by first | exact hbk.2.2.2.1 | exact hbk.2.2.2
 have hcl:=gNum_ok hp ((hatx.fr q1).sub 54 1) hok57 (by simp only [digE, List.length_append] at hbl ⊢; omega)
 refine wl_invoke (t := 87) (name := "bastide/note.num") (f := 177) (by decide) mt177 rfl rfl hcl ?_
 clear hcl
 rintro _ w58 ⟨A58, c58, hp58, hF58⟩
 replace hFr:=hFr.fr hF58
 replace q1:=q1.fr hF58
 replace hp:=hp58
 refine go ?_
 refine Fe_ fld38_0 rfl ?_
 refine Ld_ sc3 rfl ((hatx.fr q1).get rfl) ?_
 refine Eq_ rfl rfl (go ?_)
 refine Cd (fun hc19 => ?_) fun hc19 => ?_
 exact absurd hc19 (by omega)
 refine go ?_
 refine wk_post0 (.inr rfl) results65  ?_
 have hWO : out ++ noteE x = ((((((((out ++ numE x.kind) ++ numE x.from_) ++ numE x.group) ++ numE x.epoch) ++ numE x.seq) ++ x.dig.l) ++ numE x.level) ++ numE x.place) := by
   unfold noteE bodyE
   repeat (first | rw [if_neg (by omega)] | rw [if_pos (by omega)])
   simp only [digE, ← List.append_assoc]
 rw [hWO]
 exact ⟨_, rfl, _, _, hp.less hFr.sub, hFr.chg, fun _ h => h⟩
 exact absurd hc17 hc18
 refine go ?_
 refine Eq_ rfl rfl (go ?_)
 refine Cd (fun hc20 => ?_) fun hc20 => ?_
 refine go ?_
 apply wdT 7 [.eq _,.eq _,.eq _,.eq _,.eq _,.eq _,.eq _]
 refine ⟨?_,?_,?_,?_,?_,?_,?_,trivial⟩<;>intro F wF hER hk
 exact Ld_ sc123 (hk.qi 2) ((hcap.fr q3).ext hER).head qz
 exact dm (hk.qi 1)
 exact Nc_ (hk.qe 1) qz
 exact Fe_ fld38_5 (hk.qe 2) qz
 have e183:=hk.qe 0
 exact wl_makeFunc (first := [.tmp 183]) (cap := []) (by decide) (by simp only [evs, ev, e183]; rfl) rfl qz
 exact wl_nilCheckM (t := 87) (by decide) mt177 (hk.qe 4) qz
 exact dm (hk.qe 0)
 intro F wD hED hini hdo
 refine wl_drop [(1, _), (2, _), (186, _), (189, _)] ⟨di hini 1, di hini 2, dr hdo 3, dr hdo 6, trivial⟩ ?_
 clear hini hdo
 replace hFr:=hFr.ext hED
 replace q1:=q1.ext hED
 replace q3:=q3.ext hED
 replace hp:=hp.ext hED
 have hbl:=hlen
 unfold noteE bodyE at hbl
 have hbk:=hok.2.2.2.2
 unfold bodyOk at hbk
 repeat (first | rw [if_neg (by omega)] at hbl | rw [if_pos (by omega)] at hbl)
 repeat (first | rw [if_neg (by omega)] at hbk | rw [if_pos (by omega)] at hbk)
 simp only [List.length_append] at hbl
 have hok59 : isNum x.seq := by first | exact hbk.1 | exact hbk
 have hcl:=gNum_ok hp ((hatx.fr q1).sub 5 1) hok59 (by simp only [digE, List.length_append] at hbl ⊢; omega)
 refine wl_invoke (t := 87) (name := "bastide/note.num") (f := 177) (by decide) mt177 rfl rfl hcl ?_
 clear hcl
 rintro _ w60 ⟨A60, c60, hp60, hF60⟩
 replace hFr:=hFr.fr hF60
 replace q1:=q1.fr hF60
 replace q3:=q3.fr hF60
 replace hp:=hp60
 refine go ?_
 apply wdT 7 [.eq _,.eq _,.eq _,.eq _,.eq _,.eq _,.eq _]
 refine ⟨?_,?_,?_,?_,?_,?_,?_,trivial⟩<;>intro F wF hER hk
 exact Ld_ sc123 (hk.qi 2) ((hcap.fr q3).ext hER).head qz
 exact dm (hk.qi 1)
 exact Nc_ (hk.qe 1) qz
 exact Fe_ fld38_6 (hk.qe 2) qz
 have e191:=hk.qe 0
 exact wl_makeFunc (first := [.tmp 191]) (cap := []) (by decide) (by simp only [evs, ev, e191]; rfl) rfl qz
 exact wl_nilCheckM (t := 87) (by decide) mt175 (hk.qe 4) qz
 exact dm (hk.qe 0)
 intro F wD hED hini hdo
 refine wl_drop [(1, _), (2, _), (194, _), (197, _)] ⟨di hini 1, di hini 2, dr hdo 3, dr hdo 6, trivial⟩ ?_
 clear hini hdo
 replace hFr:=hFr.ext hED
 replace q1:=q1.ext hED
 replace q3:=q3.ext hED
 replace hp:=hp.ext hED
 have hcl:=gDig_ok hp ((hatx.fr q1).sub 6 32) (by simp only [digE, List.length_append] at hbl ⊢; omega)
 refine wl_invoke (t := 87) (name := "bastide/note.digest") (f := 175) (by decide) mt175 rfl rfl hcl ?_
 clear hcl
 rintro _ w61 ⟨A61, c61, hp61, hF61⟩
 replace hFr:=hFr.fr hF61
 replace q1:=q1.fr hF61
 replace q3:=q3.fr hF61
 replace hp:=hp61
 refine go ?_
 apply wdT 7 [.eq _,.eq _,.eq _,.eq _,.eq _,.eq _,.eq _]
 refine ⟨?_,?_,?_,?_,?_,?_,?_,trivial⟩<;>intro F wF hER hk
 exact Ld_ sc123 (hk.qi 2) ((hcap.fr q3).ext hER).head qz
 exact dm (hk.qi 1)
 exact Nc_ (hk.qe 1) qz
 exact Fe_ fld38_14 (hk.qe 2) qz
 have e199:=hk.qe 0
 exact wl_makeFunc (first := [.tmp 199]) (cap := []) (by decide) (by simp only [evs, ev, e199]; rfl) rfl qz
 exact wl_nilCheckM (t := 87) (by decide) mt177 (hk.qe 4) qz
 exact dm (hk.qe 0)
 intro F wD hED hini hdo
 refine wl_drop [(1, _), (2, _), (202, _), (205, _)] ⟨di hini 1, di hini 2, dr hdo 3, dr hdo 6, trivial⟩ ?_
 clear hini hdo
 replace hFr:=hFr.ext hED
 replace q1:=q1.ext hED
 replace q3:=q3.ext hED
 replace hp:=hp.ext hED
 have hok62 : isNum x.level := by first | exact hbk.2.2.1 | exact hbk.2.2
 have hcl:=gNum_ok hp ((hatx.fr q1).sub 53 1) hok62 (by simp only [digE, List.length_append] at hbl ⊢; omega)
 refine wl_invoke (t := 87) (name := "bastide/note.num") (f := 177) (by decide) mt177 rfl rfl hcl ?_
 clear hcl
 rintro _ w63 ⟨A63, c63, hp63, hF63⟩
 replace hFr:=hFr.fr hF63
 replace q1:=q1.fr hF63
 replace q3:=q3.fr hF63
 replace hp:=hp63
 refine go ?_
 apply wdT 7 [.eq _,.eq _,.eq _,.eq _,.eq _,.eq _,.eq _]
 refine ⟨?_,?_,?_,?_,?_,?_,?_,trivial⟩<;>intro F wF hER hk
 exact Ld_ sc123 (hk.qi 2) ((hcap.fr q3).ext hER).head qz
 exact dm (hk.qi 1)
 exact Nc_ (hk.qe 1) qz
 exact Fe_ fld38_15 (hk.qe 2) qz
 have e207:=hk.qe 0
 exact wl_makeFunc (first := [.tmp 207]) (cap := []) (by decide) (by simp only [evs, ev, e207]; rfl) rfl qz
 exact wl_nilCheckM (t := 87) (by decide) mt177 (hk.qe 4) qz
 exact dm (hk.qe 0)
 intro F wD hED hini hdo
 refine wl_drop [(1, _), (2, _), (210, _), (213, _)] ⟨di hini 1, di hini 2, dr hdo 3, dr hdo 6, trivial⟩ ?_
 clear hini hdo
 replace hFr:=hFr.ext hED
 replace q1:=q1.ext hED
 replace q3:=q3.ext hED
 replace hp:=hp.ext hED
 have hok64 : isNum x.place := by first | exact hbk.2.2.2.1 | exact hbk.2.2.2
 have hcl:=gNum_ok hp ((hatx.fr q1).sub 54 1) hok64 (by simp only [digE, List.length_append] at hbl ⊢; omega)
 refine wl_invoke (t := 87) (name := "bastide/note.num") (f := 177) (by decide) mt177 rfl rfl hcl ?_
 clear hcl
 rintro _ w65 ⟨A65, c65, hp65, hF65⟩
 replace hFr:=hFr.fr hF65
 replace q1:=q1.fr hF65
 replace q3:=q3.fr hF65
 replace hp:=hp65
 refine go ?_
 refine Fe_ fld38_0 rfl ?_
 refine Ld_ sc3 rfl ((hatx.fr q1).get rfl) ?_
 refine Eq_ rfl rfl (go ?_)
 refine Cd (fun hc21 => ?_) fun hc21 => ?_
 refine go ?_
 apply wdT 7 [.eq _,.eq _,.eq _,.eq _,.eq _,.eq _,.eq _]
 refine ⟨?_,?_,?_,?_,?_,?_,?_,trivial⟩<;>intro F wF hER hk
 exact Ld_ sc123 (hk.qi 2) ((hcap.fr q3).ext hER).head qz
 exact dm (hk.qi 1)
 exact Nc_ (hk.qe 1) qz
 exact Fe_ fld38_16 (hk.qe 2) qz
 exact Ld_ sc123 (hk.qi 2) ((hcap.fr q3).ext hER).head qz
 exact wl_nilCheckI (by decide) (hk.qe 4) qz
 have e225:=hk.qe 5
 exact wl_makeFunc (first := [.tmp 225]) (cap := []) (by decide) (by simp only [evs, ev, e225]; rfl) rfl qz
 intro F wD hED hini hdo
 refine wl_drop [(1, _), (2, _), (220, _), (223, _), (226, _)] ⟨di hini 1, di hini 2, dr hdo 0, dr hdo 3, dr hdo 6, trivial⟩ ?_
 clear hini hdo
 replace hFr:=hFr.ext hED
 replace q1:=q1.ext hED
 replace q3:=q3.ext hED
 replace hp:=hp.ext hED
 have hok66 : (x.digs.length : Int) ≤ 8 ∧ ∀ y ∈ x.digs, (fun _ => True) y := by first | exact hbk.2.2.2.2.1 | exact hbk.2.2.2.2
 have hcl:=gListD_ok (E := digE) (ok := (fun _ => True)) (FV := .func (.method "bastide/note.digest") [Value.iface 87 (pt gw 0)].toArray ([] : List Value).toArray) (most := 8) hp ((hatx.fr q1).sub 55 1) (hx8.fr q1) (hok66).2 (fun w1 H1 A c out pa cs x hF hp hat hrd hok hlen => by
   obtain rfl : _ = _ := hrd
   exact RetV.meth (vs := [.pointer (some pa)]) mt175 (gDig_ok hp hat hlen)) (by have := (hok66).1; unfold isNum; omega) (by simp only [digE, List.length_append] at hbl ⊢; omega)
 refine Cl_ cl113 rfl hcl ?_
 clear hcl
 rintro _ w67 ⟨A67, c67, hp67, hF67⟩
 replace hFr:=hFr.fr hF67
 replace q1:=q1.fr hF67
 replace q3:=q3.fr hF67
 replace hp:=hp67
 refine go ?_
 apply wdT 7 [.eq _,.eq _,.eq _,.eq _,.eq _,.eq _,.eq _]
 refine ⟨?_,?_,?_,?_,?_,?_,?_,trivial⟩<;>intro F wF hER hk
 exact Ld_ sc123 (hk.qi 2) ((hcap.fr q3).ext hER).head qz
 exact dm (hk.qi 1)
 exact Nc_ (hk.qe 1) qz
 exact Fe_ fld38_17 (hk.qe 2) qz
 have e228:=hk.qe 0
 exact wl_makeFunc (first := [.tmp 228]) (cap := []) (by decide) (by simp only [evs, ev, e228]; rfl) rfl qz
 exact wl_nilCheckM (t := 87) (by decide) mt178 (hk.qe 4) qz
 exact dm (hk.qe 0)
 intro F wD hED hini hdo
 refine wl_drop [(231, _), (234, _)] ⟨dr hdo 3, dr hdo 6, trivial⟩ ?_
 clear hini hdo
 replace hFr:=hFr.ext hED
 replace q1:=q1.ext hED
 replace hp:=hp.ext hED
 have hok68 : (x.data.length : Int) ≤ 1024 := by first | exact hbk.2.2.2.2.2.1 | exact hbk.2.2.2.2.2
 have hcl:=gStr_ok (v9 := iv 1024) hp ((hatx.fr q1).sub 56 1) (hx9.fr q1) (by have := hok68; omega) (by simp only [digE, List.length_append] at hbl ⊢; omega)
 refine wl_invoke (t := 87) (name := "bastide/note.str") (f := 178) (by decide) mt178 rfl rfl hcl ?_
 clear hcl
 rintro _ w69 ⟨A69, c69, hp69, hF69⟩
 replace hFr:=hFr.fr hF69
 replace hp:=hp69
 refine go ?_
 refine wk_post0 (.inr rfl) results65  ?_
 have hWO : out ++ noteE x = ((((((((((out ++ numE x.kind) ++ numE x.from_) ++ numE x.group) ++ numE x.epoch) ++ numE x.seq) ++ x.dig.l) ++ numE x.level) ++ numE x.place) ++ listE digE x.digs) ++ strE x.data) := by
   unfold noteE bodyE
   repeat (first | rw [if_neg (by omega)] | rw [if_pos (by omega)])
   simp only [digE, ← List.append_assoc]
 rw [hWO]
 exact ⟨_, rfl, _, _, hp.less hFr.sub, hFr.chg, fun _ h => h⟩
 exact absurd hc20 hc21
 refine go ?_
 refine Eq_ rfl rfl (go ?_)
 refine Cd (fun hc22 => ?_) fun hc22 => ?_
 refine go ?_
 apply wdT 7 [.eq _,.eq _,.eq _,.eq _,.eq _,.eq _,.eq _]
 refine ⟨?_,?_,?_,?_,?_,?_,?_,trivial⟩<;>intro F wF hER hk
 exact Ld_ sc123 (hk.qi 2) ((hcap.fr q3).ext hER).head qz
 exact dm (hk.qi 1)
 exact Nc_ (hk.qe 1) qz
 exact Fe_ fld38_18 (hk.qe 2) qz
 exact Ld_ sc123 (hk.qi 2) ((hcap.fr q3).ext hER).head qz
 exact wl_nilCheckI (by decide) (hk.qe 4) qz
 have e241:=hk.qe 5
 exact wl_makeFunc (first := [.tmp 241]) (cap := []) (by decide) (by simp only [evs, ev, e241]; rfl) rfl qz
 intro F wD hED hini hdo
 refine wl_drop [(236, _), (239, _), (242, _)] ⟨dr hdo 0, dr hdo 3, dr hdo 6, trivial⟩ ?_
 clear hini hdo
 replace hFr:=hFr.ext hED
 replace q1:=q1.ext hED
 replace hp:=hp.ext hED
 have hbl:=hlen
 unfold noteE bodyE at hbl
 have hbk:=hok.2.2.2.2
 unfold bodyOk at hbk
 repeat (first | rw [if_neg (by omega)] at hbl | rw [if_pos (by omega)] at hbl)
 repeat (first | rw [if_neg (by omega)] at hbk | rw [if_pos (by omega)] at hbk)
 simp only [List.length_append] at hbl
 have hok70 : (x.nodes.length : Int) ≤ 7 ∧ ∀ y ∈ x.nodes, isNum y := by first | exact hbk.1 | exact hbk
 have hcl:=gListI_ok (E := numE) (ok := isNum) (FV := .func (.method "bastide/note.num") [Value.iface 87 (pt gw 0)].toArray ([] : List Value).toArray) (most := 7) hp ((hatx.fr q1).sub 57 1) (hx10.fr q1) (hok70).2 (fun w1 H1 A c out pa cs x hF hp hat hrd hok hlen => by
   obtain rfl : _ = _ := hrd
   exact RetV.meth (vs := [.pointer (some pa)]) mt177 (gNum_ok hp hat hok hlen)) (by have := (hok70).1; unfold isNum; omega) (by simp only [List.length_append] at hbl ⊢; omega)
 refine Cl_ cl114 rfl hcl ?_
 clear hcl
 rintro _ w71 ⟨A71, c71, hp71, hF71⟩
 replace hFr:=hFr.fr hF71
 replace hp:=hp71
 refine go ?_
 refine wk_post0 (.inr rfl) results65  ?_
 have hWO : out ++ noteE x = (((((out ++ numE x.kind) ++ numE x.from_) ++ numE x.group) ++ numE x.epoch) ++ listE numE x.nodes) := by
   unfold noteE bodyE
   repeat (first | rw [if_neg (by omega)] | rw [if_pos (by omega)])
   simp only [← List.append_assoc]
 rw [hWO]
 exact ⟨_, rfl, _, _, hp.less hFr.sub, hFr.chg, fun _ h => h⟩
 refine go ?_
 refine Eq_ rfl rfl (go ?_)
 refine Cd (fun hc23 => ?_) fun hc23 => ?_
 refine go ?_
 apply wdT 7 [.eq _,.eq _,.eq _,.eq _,.eq _,.eq _,.eq _]
 refine ⟨?_,?_,?_,?_,?_,?_,?_,trivial⟩<;>intro F wF hER hk
 exact Ld_ sc123 (hk.qi 2) ((hcap.fr q3).ext hER).head qz
 exact dm (hk.qi 1)
 exact Nc_ (hk.qe 1) qz
 exact Fe_ fld38_5 (hk.qe 2) qz
 have e244:=hk.qe 0
 exact wl_makeFunc (first := [.tmp 244]) (cap := []) (by decide) (by simp only [evs, ev, e244]; rfl) rfl qz
 exact wl_nilCheckM (t := 87) (by decide) mt177 (hk.qe 4) qz
 exact dm (hk.qe 0)
 intro F wD hED hini hdo
 refine wl_drop [(1, _), (2, _), (247, _), (250, _)] ⟨di hini 1, di hini 2, dr hdo 3, dr hdo 6, trivial⟩ ?_
 clear hini hdo
 replace hFr:=hFr.ext hED
 replace q1:=q1.ext hED
 replace q3:=q3.ext hED
 replace hp:=hp.ext hED
 have hbl:=hlen
 unfold noteE bodyE at hbl
 have hbk:=hok.2.2.2.2
 unfold bodyOk at hbk
 repeat (first | rw [if_neg (by omega)] at hbl | rw [if_pos (by omega)] at hbl)
 repeat (first | rw [if_neg (by omega)] at hbk | rw [if_pos (by omega)] at hbk)
 simp only [List.length_append] at hbl
 have hok72 : isNum x.seq := by first | exact hbk.1 | exact hbk
 have hcl:=gNum_ok hp ((hatx.fr q1).sub 5 1) hok72 (by simp only [List.length_append] at hbl ⊢; omega)
 refine wl_invoke (t := 87) (name := "bastide/note.num") (f := 177) (by decide) mt177 rfl rfl hcl ?_
 clear hcl
 rintro _ w73 ⟨A73, c73, hp73, hF73⟩
 replace hFr:=hFr.fr hF73
 replace q1:=q1.fr hF73
 replace q3:=q3.fr hF73
 replace hp:=hp73
 refine go ?_
 apply wdT 7 [.eq _,.eq _,.eq _,.eq _,.eq _,.eq _,.eq _]
 refine ⟨?_,?_,?_,?_,?_,?_,?_,trivial⟩<;>intro F wF hER hk
 exact Ld_ sc123 (hk.qi 2) ((hcap.fr q3).ext hER).head qz
 exact dm (hk.qi 1)
 exact Nc_ (hk.qe 1) qz
 exact Fe_ fld38_7 (hk.qe 2) qz
 have e252:=hk.qe 0
 exact wl_makeFunc (first := [.tmp 252]) (cap := []) (by decide) (by simp only [evs, ev, e252]; rfl) rfl qz
 exact wl_nilCheckM (t := 87) (by decide) mt174 (hk.qe 4) qz
 exact dm (hk.qe 0)
 intro F wD hED hini hdo
 refine wl_drop [(255, _), (258, _)] ⟨dr hdo 3, dr hdo 6, trivial⟩ ?_
 clear hini hdo
 replace hFr:=hFr.ext hED
 replace q1:=q1.ext hED
 replace hp:=hp.ext hED
 have hok74 : batchOk x.batch := by first | exact hbk.2.1 | exact hbk.2
 have hcl:=gBatch_ok hp ((hatx.fr q1).sub 38 1) (hx0.fr q1) hok74 (by simp only [List.length_append] at hbl ⊢; omega)
 refine wl_invoke (t := 87) (name := "bastide/note.batch") (f := 174) (by decide) mt174 rfl rfl hcl ?_
 clear hcl
 rintro _ w75 ⟨A75, c75, hp75, hF75⟩
 replace hFr:=hFr.fr hF75
 replace hp:=hp75
 refine go ?_
 refine wk_post0 (.inr rfl) results65  ?_
 have hWO : out ++ noteE x = ((((((out ++ numE x.kind) ++ numE x.from_) ++ numE x.group) ++ numE x.epoch) ++ numE x.seq) ++ batchE x.batch) := by
   unfold noteE bodyE
   repeat (first | rw [if_neg (by omega)] | rw [if_pos (by omega)])
   simp only [← List.append_assoc]
 rw [hWO]
 exact ⟨_, rfl, _, _, hp.less hFr.sub, hFr.chg, fun _ h => h⟩
 refine go ?_
 refine wk_post0 (.inr rfl) results65  ?_
 have hWO : out ++ noteE x = ((((out ++ numE x.kind) ++ numE x.from_) ++ numE x.group) ++ numE x.epoch) := by
   unfold noteE bodyE
   repeat (first | rw [if_neg (by omega)] | rw [if_pos (by omega)])
   simp only [← List.append_assoc, List.append_nil]
 rw [hWO]
 exact ⟨_, rfl, _, _, hp.less hFr.sub, hFr.chg, fun _ h => h⟩
set_option maxHeartbeats 40000000 in
theorem wNum_ok {gr : Nat} {l : List UInt8} {e : Int} (hp : HP w0 M0 Fz w (itB gr 207 [.slice A l.length c, .int .i64 e] :: H)) (hl : GS byteR Fz w A c l) : Ret prog 200 #[.pointer (some ⟨gr, 0, none⟩)] w (RvE 207 gr w0 M0 Fz w H i64R false numP e l) := by
 have hFr:=Frz.start Fz w
 refine ret_of_wk func200 rfl ntmps200 leB_ ?_
 refine go ?_
 refine Fd_ 1 fld207_1 rfl rfl ?_
 refine Hl_ 0 sc25 rfl hp rfl rfl ?_
 refine Eq_ rfl rfl (go ?_)
 refine Cd (fun hc1 => ?_) fun hc1 => ?_
 refine go ?_
 refine Fd_ 0 fld207_0 rfl rfl ?_
 refine Hl_ 0 sc26 rfl hp rfl rfl ?_
 have hcl:=takeNum_ok hl
 refine Cl_ cl193 rfl hcl ?_
 clear hcl
 rintro _ w1 ⟨A1, c1, rfl, ho1, hE1⟩
 replace ho1:=ho1.bs
 have hsz2:=hp.chg.size
 obtain ⟨Fz2, hp2, hsub2, hnew2, hup2⟩ := hp.frz hE1
 replace hp:=hp2
 replace hFr:=(hFr.ext hE1).wid hsub2
 replace ho1:=ho1.frz hnew2
 refine go ?_
 refine Fd_ 0 fld207_0 rfl rfl ?_
 refine wl_hstore1 (i := 0) rfl rfl hp rfl sz26 (Nat.lt_of_lt_of_le (Nat.lt_succ_self _) leB_) rfl ?_
 rintro w3 hp3 hC3
 replace hFr:=hFr.fz hC3
 have q0:=ho1.tk.fz hC3
 replace hp:=hp3
 replace hp:=hp.ay (itB gr 207 ([.slice A1 (takeS l).2.1.length c1, iv e]) :: _)
 refine go ?_
 refine Fd_ 1 fld207_1 rfl rfl ?_
 refine wl_hstore1 (i := 0) rfl rfl hp rfl sz25 (Nat.lt_of_lt_of_le (Nat.lt_succ_self _) leB_) rfl ?_
 rintro w4 hp4 hC4
 replace hFr:=hFr.fz hC4
 replace q0:=q0.fz hC4
 replace hp:=hp4
 replace hp:=hp.ay (itB gr 207 ([.slice A1 (takeS l).2.1.length c1, iv ((takeS l).2.2)]) :: _)
 refine go ?_
 refine P1 results200 ?_
 have hlm:=takeS_lim l
 exact ⟨_, rfl, _, A1, c1, (takeS l).2.1, ((takeS l).2.2), _, (takeS l).1, rfl, (hp.up 0 rfl), hFr, (ho1.fr q0), ⟨⟨by omega, by omega⟩, rfl⟩, step_num (by first | rfl | (simp_all; done) | (simp_all; omega)) (fun h => by first | exact ⟨rfl, rfl⟩ | (simp_all; done))⟩
 refine go ?_
 refine P1 results200 ?_
 have hlm:=takeS_lim l
 exact ⟨_, rfl, _, A, c, l, e, _, 0, rfl, (hp.up 0 rfl), hFr, hl, ⟨⟨by omega, by omega⟩, rfl⟩, step_num (by first | rfl | (simp_all; done) | (simp_all; omega)) (fun h => by first | exact ⟨rfl, rfl⟩ | (simp_all; done))⟩
set_option maxHeartbeats 40000000 in
theorem wStr_ok {gr : Nat} {l : List UInt8} {e : Int} {most : Int} (hp : HP w0 M0 Fz w (itB gr 207 [.slice A l.length c, .int .i64 e] :: H)) (hl : GS byteR Fz w A c l) : Ret prog 196 #[.pointer (some ⟨gr, 0, none⟩), .int .i64 most] w (RvE 207 gr w0 M0 Fz w H (sliceR byteR) false (strP most) e l) := by
 have hFr:=Frz.start Fz w
 refine ret_of_wk func196 rfl ntmps196 leB_ ?_
 refine go ?_
 refine Fd_ 1 fld207_1 rfl rfl ?_
 refine Hl_ 0 sc25 rfl hp rfl rfl ?_
 refine Eq_ rfl rfl (go ?_)
 refine Cd (fun hc1 => ?_) fun hc1 => ?_
 refine go ?_
 refine Fd_ 0 fld207_0 rfl rfl ?_
 refine Hl_ 0 sc26 rfl hp rfl rfl (go ?_)
 have hcl:=takeStr_ok (most := most) hl
 refine Cl_ cl194 rfl hcl ?_
 clear hcl
 rintro _ w1 ⟨A1, c1, B1, d1, rfl, ho1, hq1, hE1⟩
 replace ho1:=ho1.bs
 replace hq1:=hq1.bs
 have hsz2:=hp.chg.size
 obtain ⟨Fz2, hp2, hsub2, hnew2, hup2⟩ := hp.frz hE1
 replace hp:=hp2
 replace hFr:=(hFr.ext hE1).wid hsub2
 replace ho1:=ho1.frz hnew2
 replace hq1:=hq1.frz hnew2
 refine go ?_
 refine Fd_ 0 fld207_0 rfl rfl ?_
 refine wl_hstore1 (i := 0) rfl rfl hp rfl sz26 (Nat.lt_of_lt_of_le (Nat.lt_succ_self _) leB_) rfl ?_
 rintro w3 hp3 hC3
 replace hFr:=hFr.fz hC3
 have q0:=ho1.tk.fz hC3
 replace hp:=hp3
 replace hp:=hp.ay (itB gr 207 ([.slice B1 (takeStrS l most).2.1.length d1, iv e]) :: _)
 refine go ?_
 refine Fd_ 1 fld207_1 rfl rfl ?_
 refine wl_hstore1 (i := 0) rfl rfl hp rfl sz25 (Nat.lt_of_lt_of_le (Nat.lt_succ_self _) leB_) rfl ?_
 rintro w4 hp4 hC4
 replace hFr:=hFr.fz hC4
 replace q0:=q0.fz hC4
 replace hp:=hp4
 replace hp:=hp.ay (itB gr 207 ([.slice B1 (takeStrS l most).2.1.length d1, iv ((takeStrS l most).2.2)]) :: _)
 refine go ?_
 refine P1 results196 ?_
 exact ⟨_, rfl, _, B1, d1, (takeStrS l most).2.1, ((takeStrS l most).2.2), _, (takeStrS l most).1, rfl, (hp.up 0 rfl), hFr, (hq1.fr q0), sliceR_mk (ho1.fr q0), step_str (by first | rfl | (simp_all; done) | (simp_all; omega)) (fun h => by first | exact ⟨rfl, rfl⟩ | (simp_all; done))⟩
 refine go ?_
 refine P1 results196 ?_
 exact ⟨_, rfl, _, A, c, l, e, _, [], rfl, (hp.up 0 rfl), hFr, hl, sliceR_mk (GS.nil _ _ _ none 0), step_str (by first | rfl | (simp_all; done) | (simp_all; omega)) (fun h => by first | exact ⟨rfl, rfl⟩ | (simp_all; done))⟩
set_option maxHeartbeats 40000000 in
theorem wMany_ok {gr : Nat} {l : List UInt8} {e : Int} {most : Int} (hp : HP w0 M0 Fz w (itB gr 207 [.slice A l.length c, .int .i64 e] :: H)) (hl : GS byteR Fz w A c l) (h0 : 0 ≤ most) : Ret prog 195 #[.pointer (some ⟨gr, 0, none⟩), .int .i64 most] w (fun v w2 => ∃ F2 A' c' l' e2 x, v = .int .i64 x ∧ HP w0 M0 F2 w2 (itB gr 207 [.slice A' (l' : List UInt8).length c', .int .i64 e2] :: H) ∧ Frz Fz F2 w w2 ∧ GS byteR F2 w2 A' c' l' ∧ StepP (manyP most) (rst (decide (e ≠ 0)) l) (rst (decide (e2 ≠ 0)) l') x ∧ x ≤ most) := by
 have hFr:=Frz.start Fz w
 refine ret_of_wk func195 rfl ntmps195 leB_ ?_
 refine go ?_
 have hcl:=wNum_ok hp hl
 refine Cl_ cl200 rfl hcl ?_
 clear hcl
 rintro v1 w1 ⟨F1, A1, c1, l1, b1, cs1, x1, hv1, hp1, hF1, hl1, hrd1, hst1⟩
 obtain ⟨hI1, rfl⟩ := hrd1
 obtain rfl : v1 = iv x1 := hv1
 have hJ1:=hI1
 unfold i64 at hJ1
 replace hFr:=hFr.fr hF1
 replace hp:=(hp1.ay (itB gr 207 ([.slice A1 l1.length c1, iv b1]) :: H))
 refine go ?_
 refine Fd_ 1 fld207_1 rfl rfl ?_
 refine Hl_ 0 sc25 rfl hp rfl rfl ?_
 refine Eq_ rfl rfl (go ?_)
 refine Gs 13 (fun hg1 => ?_) fun hg1 => ?_
 refine go ?_
 refine Gt_ rfl rfl (go ?_)
 refine Cd (fun hc2 => ?_) fun hc2 => ?_
 refine go ?_
 refine Fd_ 1 fld207_1 rfl rfl ?_
 refine wl_hstore1 (i := 0) rfl rfl hp rfl sz25 (Nat.lt_of_lt_of_le (Nat.lt_succ_self _) leB_) rfl ?_
 rintro w2 hp2 hC2
 replace hFr:=hFr.fz hC2
 have q0:=hl1.tk.fz hC2
 replace hp:=hp2
 replace hp:=hp.ay (itB gr 207 ([.slice A1 l1.length c1, iv 5]) :: _)
 refine go ?_
 refine Fd_ 1 fld207_1 rfl rfl ?_
 refine Hl_ 0 sc25 rfl hp rfl rfl ?_
 refine Ne_ rfl rfl (go ?_)
 refine Cd (fun hc3 => ?_) fun hc3 => ?_
 refine go ?_
 refine P1 results195 ?_
 exact ⟨_, rfl, _, A1, c1, l1, 5, 0, rfl, (hp.up 0 rfl), hFr, (hl1.fr q0), many_fin2 hst1 (by first | rfl | (simp_all; done) | (simp_all; omega) | (simp_all; intros; omega) | (split <;> simp_all)) (fun h => by first | rfl | (simp_all; done) | (simp_all; omega)), by omega⟩
 refine go ?_
 refine P1 results195 ?_
 exact ⟨_, rfl, _, A1, c1, l1, 5, x1, rfl, (hp.up 0 rfl), hFr, (hl1.fr q0), many_fin2 hst1 (by first | rfl | (simp_all; done) | (simp_all; omega) | (simp_all; intros; omega) | (split <;> simp_all)) (fun h => by first | rfl | (simp_all; done) | (simp_all; omega)), by omega⟩
 refine go ?_
 refine Fd_ 1 fld207_1 rfl rfl ?_
 refine Hl_ 0 sc25 rfl hp rfl rfl ?_
 refine Ne_ rfl rfl (go ?_)
 refine Cd (fun hc4 => ?_) fun hc4 => ?_
 refine go ?_
 refine P1 results195 ?_
 exact ⟨_, rfl, _, A1, c1, l1, b1, 0, rfl, (hp.up 0 rfl), hFr, hl1, many_fin2 hst1 (by first | rfl | (simp_all; done) | (simp_all; omega) | (simp_all; intros; omega) | (split <;> simp_all)) (fun h => by first | rfl | (simp_all; done) | (simp_all; omega)), by omega⟩
 refine go ?_
 refine P1 results195 ?_
 exact ⟨_, rfl, _, A1, c1, l1, b1, x1, rfl, (hp.up 0 rfl), hFr, hl1, many_fin2 hst1 (by first | rfl | (simp_all; done) | (simp_all; omega) | (simp_all; intros; omega) | (split <;> simp_all)) (fun h => by first | rfl | (simp_all; done) | (simp_all; omega)), by omega⟩
 refine go ?_
 refine wc_cond_f rfl ?_
 refine go ?_
 refine Fd_ 1 fld207_1 rfl rfl ?_
 refine Hl_ 0 sc25 rfl hp rfl rfl ?_
 refine Ne_ rfl rfl (go ?_)
 refine Cd (fun hc5 => ?_) fun hc5 => ?_
 refine go ?_
 refine P1 results195 ?_
 exact ⟨_, rfl, _, A1, c1, l1, b1, 0, rfl, (hp.up 0 rfl), hFr, hl1, many_fin2 hst1 (by first | rfl | (simp_all; done) | (simp_all; omega) | (simp_all; intros; omega) | (split <;> simp_all)) (fun h => by first | rfl | (simp_all; done) | (simp_all; omega)), by omega⟩
 refine go ?_
 refine P1 results195 ?_
 exact ⟨_, rfl, _, A1, c1, l1, b1, x1, rfl, (hp.up 0 rfl), hFr, hl1, many_fin2 hst1 (by first | rfl | (simp_all; done) | (simp_all; omega) | (simp_all; intros; omega) | (split <;> simp_all)) (fun h => by first | rfl | (simp_all; done) | (simp_all; omega)), by omega⟩
set_option maxHeartbeats 40000000 in
theorem wEnd_ok {gr : Nat} {l : List UInt8} {e : Int} (hp : HP w0 M0 Fz w (itB gr 207 [.slice A l.length c, .int .i64 e] :: H)) (_hl : GS byteR Fz w A c l) : Ret prog 198 #[.pointer (some ⟨gr, 0, none⟩)] w (fun v w2 => ∃ e2 e3, v = .int .i64 e2 ∧ (e2 = if e = 0 ∧ 0 < l.length then 4 else e) ∧ HP w0 M0 Fz w2 (itB gr 207 [.slice A l.length c, .int .i64 e3] :: H) ∧ Frz Fz Fz w w2) := by
 have hFr:=Frz.start Fz w
 refine ret_of_wk func198 rfl ntmps198 leB_ ?_
 refine go ?_
 refine Fd_ 1 fld207_1 rfl rfl ?_
 refine Hl_ 0 sc25 rfl hp rfl rfl ?_
 refine Eq_ rfl rfl (go ?_)
 refine Gs 8 (fun hg1 => ?_) fun hg1 => ?_
 refine go ?_
 refine Fd_ 0 fld207_0 rfl rfl (go ?_)
 refine Hl_ 0 sc26 rfl hp rfl rfl (go ?_)
 refine Ln_ underlying26 rfl (go ?_)
 refine Gt_ rfl rfl (go ?_)
 refine Cd (fun hc2 => ?_) fun hc2 => ?_
 refine go ?_
 refine Fd_ 1 fld207_1 rfl rfl ?_
 refine wl_hstore1 (i := 0) rfl rfl hp rfl sz25 (Nat.lt_of_lt_of_le (Nat.lt_succ_self _) leB_) rfl ?_
 rintro w1 hp1 hC1
 replace hFr:=hFr.fz hC1
 replace hp:=hp1
 replace hp:=hp.ay (itB gr 207 ([.slice A l.length c, iv 4]) :: _)
 refine go ?_
 refine Fd_ 1 fld207_1 rfl rfl ?_
 refine Hl_ 0 sc25 rfl hp rfl rfl (go ?_)
 refine P1 results198 ?_
 exact ⟨_, rfl, _, _, rfl, (by first | rfl | (simp_all; done) | (simp_all; omega) | (simp_all; intros; omega) | (split <;> simp_all)), (hp.up 0 rfl), hFr⟩
 refine go ?_
 refine Fd_ 1 fld207_1 rfl rfl ?_
 refine Hl_ 0 sc25 rfl hp rfl rfl (go ?_)
 refine P1 results198 ?_
 exact ⟨_, rfl, _, _, rfl, (by first | rfl | (simp_all; done) | (simp_all; omega) | (simp_all; intros; omega) | (split <;> simp_all)), (hp.up 0 rfl), hFr⟩
 refine go ?_
 refine wc_cond_f rfl ?_
 refine go ?_
 refine Fd_ 1 fld207_1 rfl rfl ?_
 refine Hl_ 0 sc25 rfl hp rfl rfl (go ?_)
 refine P1 results198 ?_
 exact ⟨_, rfl, _, _, rfl, (by first | rfl | (simp_all; done) | (simp_all; omega) | (simp_all; intros; omega) | (split <;> simp_all)), (hp.up 0 rfl), hFr⟩
def parseS (l : List UInt8) : Option Wsh := match wishP l with
 | some (x, u) => if u = [] ∧ WishMay x then some x else none
 | none => none
theorem parse_no {l lR : List UInt8} {eR e2 : Int} {x : Wsh} (h : StepP wishP (some l) (rst (decide (eR ≠ 0)) lR) x) (hen : e2 = if eR = 0 ∧ 0 < lR.length then 4 else eR) (h2 : e2 ≠ 0) : parseS l = none := by
 have h0 := (not_congr (end_E hen)).1 h2
 unfold parseS
 cases hs : rst (decide (eR ≠ 0)) lR with
 | none =>
  rw [hs] at h
  have h1 : wishP l = none := h
  rw [h1]
 | some u =>
  rw [hs] at h h0
  have h1 : wishP l = some (x, u) := h
  rw [h1]
  exact if_neg (fun hh => h0 (by rw [hh.1]))
theorem parse_some {l lR : List UInt8} {eR e2 : Int} {x : Wsh} (h : StepP wishP (some l) (rst (decide (eR ≠ 0)) lR) x) (hen : e2 = if eR = 0 ∧ 0 < lR.length then 4 else eR) (h2 : e2 = 0) : parseS l = if WishMay x then some x else none := by
 have h0 := (end_E hen).1 h2
 rw [h0] at h
 have h1 : wishP l = some (x, []) := h
 unfold parseS
 rw [h1]
 by_cases hm : WishMay x <;> simp [hm]
def ParseR (l : List UInt8) (x : Wsh) (e : Int) : Prop := (e = 0 ∧ parseS l = some x) ∨ (e ≠ 0 ∧ parseS l = none ∧ x = wish0)
set_option maxHeartbeats 40000000 in
theorem wParse_ok {l : List UInt8} (hp : HP w0 M0 Fz w H) (hl : GS byteR Fz w A c l) : Ret prog 197 #[.slice A l.length c] w (fun v w2 => ∃ F2 cs x e, v = .tuple #[.agg cs.toArray, .int .i64 e] ∧ HP w0 M0 F2 w2 H ∧ Frz Fz F2 w w2 ∧ wishR.rd F2 w2 cs x ∧ ParseR l x e) := by
 have hFr:=Frz.start Fz w
 refine ret_of_wk func197 rfl ntmps197 leB_ ?_
 refine go ?_
 refine wl_halloc (z := .agg #[iv 0, iv 0, iv 0, iv 0, iv 0, iv 0, s0, iv 0, iv 0, s0]) (by decide) (by kernel_rfl) hp ?_
 rintro gs2 w1 hp1 hE1
 replace hFr:=hFr.ext hE1
 have q0:=hE1
 replace hp:=hp1
 refine go ?_
 refine wl_builtS (ps := [(0, .tmp 9)]) (by decide) bld207 rfl rfl ?_
 refine wl_hbox (by decide) rfl hp ?_
 rintro gs11 w2 hp2 hE2
 replace hFr:=hFr.ext hE2
 replace q0:=q0.trans hE2
 replace hp:=hp2
 refine go ?_
 refine go ?_
 refine wl_halloc (z := .agg #[iv 0, iv 0, iv 0, iv 0, iv 0, iv 0, s0, iv 0, iv 0, s0]) (by decide) (by kernel_rfl) hp ?_
 rintro gs5 w3 hp3 hE3
 replace hFr:=hFr.ext hE3
 replace q0:=q0.trans hE3
 replace hp:=hp3
 refine go ?_
 refine Fd_ 4 fld68_4 rfl rfl ?_
 refine Fd_ 0 fld68_0 rfl rfl ?_
 refine Fd_ 1 fld68_1 rfl rfl ?_
 refine Fd_ 2 fld68_2 rfl rfl ?_
 refine Fd_ 3 fld68_3 rfl rfl ?_
 refine Fd_ 5 fld68_5 rfl rfl ?_
 refine wl_bslice (size := 1) (xs := [.tmp 12, .tmp 13, .tmp 14, .tmp 15, .tmp 16, .tmp 17]) (vs := [pt gs5 4, pt gs5 0, pt gs5 1, pt gs5 2, pt gs5 3, pt gs5 5]) (by decide) sl209 rfl rfl rfl (by intro v hv; simp only [List.mem_cons, List.not_mem_nil, or_false] at hv; rcases hv with rfl | rfl | rfl | rfl | rfl | rfl <;> rfl) leB_ _ (Nat.le_refl _) ?_
 rintro gpp wpp hgpp hopp hEpp
 replace hFr:=hFr.ext hEpp
 replace q0:=q0.trans hEpp
 replace hp:=((hp.newRow hEpp hgpp hopp).as_ (H' := itR 125 1 (some ⟨gpp, 0, none⟩) 6 6 [pt gs5 4, pt gs5 0, pt gs5 1, pt gs5 2, pt gs5 3, pt gs5 5] :: _) rfl)
 refine Ln_ underlying209 rfl (go ?_)
 refine wc_unroll 7 ?_
 refine wc_unfold (go ?_)
 refine Ls_ rfl rfl ?_
 refine wl_re (k := 21) (v := .bool true) rfl (congrArg Value.bool (decide_eq_true (by decide))) (go ?_)
 refine wc_cond_t rfl (go ?_)
 refine wl_idx0 (size := 1) (by decide) sl209 rfl rfl rfl 0 rfl (by decide) ?_
 refine Ld_ sc125 rfl ((hp.rowAt (i := 0) rfl).at0.get (j := 0) rfl) (go ?_)
 replace hp:=(hp.up 2 rfl).as_ (H' := itB gs11 207 ([.slice A l.length c, iv 0]) :: itR 125 1 (some ⟨gpp, 0, none⟩) 6 6 [pt gs5 4, pt gs5 0, pt gs5 1, pt gs5 2, pt gs5 3, pt gs5 5] :: itB gs5 68 ([iv wish0.client, iv wish0.stamp, iv wish0.group, iv wish0.epoch, iv wish0.kind, iv wish0.block, s0, iv wish0.old, iv wish0.new, s0]) :: itB gs2 68 ([iv wish0.client, iv wish0.stamp, iv wish0.group, iv wish0.epoch, iv wish0.kind, iv wish0.block, s0, iv wish0.old, iv wish0.new, s0]) :: H) rfl
 have hcl:=wNum_ok hp (hl.ext q0)
 refine Cl_ cl200 rfl hcl ?_
 clear hcl
 rintro v4 w4 ⟨F4, A4, c4, l4, b4, cs4, x4, hv4, hp4, hF4, hl4, hrd4, hst4⟩
 obtain ⟨hI4, rfl⟩ := hrd4
 obtain rfl : v4 = iv x4 := hv4
 have hJ4:=hI4
 unfold i64 at hJ4
 replace hFr:=hFr.fr hF4
 replace hp:=hp4
 refine go ?_
 refine wl_hstore1 (i := 2) rfl rfl hp rfl sz3 (Nat.lt_of_lt_of_le (Nat.lt_succ_self _) leB_) rfl ?_
 rintro w5 hp5 hC5
 replace hFr:=hFr.fz hC5
 have q1:=hl4.tk.fz hC5
 replace hp:=hp5
 refine go ?_
 refine wl_add (by decide) rfl rfl (w64 (by omega) (by omega)) (gl ?_)
 refine wc_unfold (go ?_)
 refine Ls_ rfl rfl ?_
 refine wl_re (k := 21) (v := .bool true) rfl (congrArg Value.bool (decide_eq_true (by decide))) (go ?_)
 refine wc_cond_t rfl (go ?_)
 refine wl_idx0 (size := 1) (by decide) sl209 rfl rfl rfl 1 rfl (by decide) ?_
 refine Ld_ sc125 rfl ((hp.rowAt (i := 1) rfl).at0.get (j := 1) rfl) (go ?_)
 have hcl:=wNum_ok hp (hl4.fr q1)
 refine Cl_ cl200 rfl hcl ?_
 clear hcl
 rintro v6 w6 ⟨F6, A6, c6, l6, b6, cs6, x6, hv6, hp6, hF6, hl6, hrd6, hst6⟩
 obtain ⟨hI6, rfl⟩ := hrd6
 obtain rfl : v6 = iv x6 := hv6
 have hJ6:=hI6
 unfold i64 at hJ6
 replace hFr:=hFr.fr hF6
 replace hp:=hp6
 refine go ?_
 refine wl_hstore1 (i := 2) rfl rfl hp rfl sz3 (Nat.lt_of_lt_of_le (Nat.lt_succ_self _) leB_) rfl ?_
 rintro w7 hp7 hC7
 replace hFr:=hFr.fz hC7
 have q2:=hl6.tk.fz hC7
 replace hp:=hp7
 refine go ?_
 refine wl_add (by decide) rfl rfl (w64 (by omega) (by omega)) (gl ?_)
 refine wc_unfold (go ?_)
 refine Ls_ rfl rfl ?_
 refine wl_re (k := 21) (v := .bool true) rfl (congrArg Value.bool (decide_eq_true (by decide))) (go ?_)
 refine wc_cond_t rfl (go ?_)
 refine wl_idx0 (size := 1) (by decide) sl209 rfl rfl rfl 2 rfl (by decide) ?_
 refine Ld_ sc125 rfl ((hp.rowAt (i := 1) rfl).at0.get (j := 2) rfl) (go ?_)
 have hcl:=wNum_ok hp (hl6.fr q2)
 refine Cl_ cl200 rfl hcl ?_
 clear hcl
 rintro v8 w8 ⟨F8, A8, c8, l8, b8, cs8, x8, hv8, hp8, hF8, hl8, hrd8, hst8⟩
 obtain ⟨hI8, rfl⟩ := hrd8
 obtain rfl : v8 = iv x8 := hv8
 have hJ8:=hI8
 unfold i64 at hJ8
 replace hFr:=hFr.fr hF8
 replace hp:=hp8
 refine go ?_
 refine wl_hstore1 (i := 2) rfl rfl hp rfl sz3 (Nat.lt_of_lt_of_le (Nat.lt_succ_self _) leB_) rfl ?_
 rintro w9 hp9 hC9
 replace hFr:=hFr.fz hC9
 have q3:=hl8.tk.fz hC9
 replace hp:=hp9
 refine go ?_
 refine wl_add (by decide) rfl rfl (w64 (by omega) (by omega)) (gl ?_)
 refine wc_unfold (go ?_)
 refine Ls_ rfl rfl ?_
 refine wl_re (k := 21) (v := .bool true) rfl (congrArg Value.bool (decide_eq_true (by decide))) (go ?_)
 refine wc_cond_t rfl (go ?_)
 refine wl_idx0 (size := 1) (by decide) sl209 rfl rfl rfl 3 rfl (by decide) ?_
 refine Ld_ sc125 rfl ((hp.rowAt (i := 1) rfl).at0.get (j := 3) rfl) (go ?_)
 have hcl:=wNum_ok hp (hl8.fr q3)
 refine Cl_ cl200 rfl hcl ?_
 clear hcl
 rintro v10 w10 ⟨F10, A10, c10, l10, b10, cs10, x10, hv10, hp10, hF10, hl10, hrd10, hst10⟩
 obtain ⟨hI10, rfl⟩ := hrd10
 obtain rfl : v10 = iv x10 := hv10
 have hJ10:=hI10
 unfold i64 at hJ10
 replace hFr:=hFr.fr hF10
 replace hp:=hp10
 refine go ?_
 refine wl_hstore1 (i := 2) rfl rfl hp rfl sz3 (Nat.lt_of_lt_of_le (Nat.lt_succ_self _) leB_) rfl ?_
 rintro w11 hp11 hC11
 replace hFr:=hFr.fz hC11
 have q4:=hl10.tk.fz hC11
 replace hp:=hp11
 refine go ?_
 refine wl_add (by decide) rfl rfl (w64 (by omega) (by omega)) (gl ?_)
 refine wc_unfold (go ?_)
 refine Ls_ rfl rfl ?_
 refine wl_re (k := 21) (v := .bool true) rfl (congrArg Value.bool (decide_eq_true (by decide))) (go ?_)
 refine wc_cond_t rfl (go ?_)
 refine wl_idx0 (size := 1) (by decide) sl209 rfl rfl rfl 4 rfl (by decide) ?_
 refine Ld_ sc125 rfl ((hp.rowAt (i := 1) rfl).at0.get (j := 4) rfl) (go ?_)
 have hcl:=wNum_ok hp (hl10.fr q4)
 refine Cl_ cl200 rfl hcl ?_
 clear hcl
 rintro v12 w12 ⟨F12, A12, c12, l12, b12, cs12, x12, hv12, hp12, hF12, hl12, hrd12, hst12⟩
 obtain ⟨hI12, rfl⟩ := hrd12
 obtain rfl : v12 = iv x12 := hv12
 have hJ12:=hI12
 unfold i64 at hJ12
 replace hFr:=hFr.fr hF12
 replace hp:=hp12
 refine go ?_
 refine wl_hstore1 (i := 2) rfl rfl hp rfl sz3 (Nat.lt_of_lt_of_le (Nat.lt_succ_self _) leB_) rfl ?_
 rintro w13 hp13 hC13
 replace hFr:=hFr.fz hC13
 have q5:=hl12.tk.fz hC13
 replace hp:=hp13
 refine go ?_
 refine wl_add (by decide) rfl rfl (w64 (by omega) (by omega)) (gl ?_)
 refine wc_unfold (go ?_)
 refine Ls_ rfl rfl ?_
 refine wl_re (k := 21) (v := .bool true) rfl (congrArg Value.bool (decide_eq_true (by decide))) (go ?_)
 refine wc_cond_t rfl (go ?_)
 refine wl_idx0 (size := 1) (by decide) sl209 rfl rfl rfl 5 rfl (by decide) ?_
 refine Ld_ sc125 rfl ((hp.rowAt (i := 1) rfl).at0.get (j := 5) rfl) (go ?_)
 have hcl:=wNum_ok hp (hl12.fr q5)
 refine Cl_ cl200 rfl hcl ?_
 clear hcl
 rintro v14 w14 ⟨F14, A14, c14, l14, b14, cs14, x14, hv14, hp14, hF14, hl14, hrd14, hst14⟩
 obtain ⟨hI14, rfl⟩ := hrd14
 obtain rfl : v14 = iv x14 := hv14
 have hJ14:=hI14
 unfold i64 at hJ14
 replace hFr:=hFr.fr hF14
 replace hp:=hp14
 refine go ?_
 refine wl_hstore1 (i := 2) rfl rfl hp rfl sz3 (Nat.lt_of_lt_of_le (Nat.lt_succ_self _) leB_) rfl ?_
 rintro w15 hp15 hC15
 replace hFr:=hFr.fz hC15
 have q6:=hl14.tk.fz hC15
 replace hp:=hp15
 refine go ?_
 refine wl_add (by decide) rfl rfl (w64 (by omega) (by omega)) (gl ?_)
 refine wc_unfold (go ?_)
 refine Ls_ rfl rfl ?_
 refine wl_re (k := 21) (v := .bool false) rfl (congrArg Value.bool (decide_eq_false (by decide))) (go ?_)
 refine wc_cond_f rfl ?_
 refine go ?_
 have hcl:=wStr_ok (most := 16) hp (hl14.fr q6)
 refine Cl_ cl196 rfl hcl ?_
 clear hcl
 rintro v16 w16 ⟨F16, A16, c16, l16, b16, cs16, x16, hv16, hp16, hF16, hl16, hrd16, hst16⟩
 obtain ⟨B16, d16, rfl, hg16⟩ := hrd16
 obtain rfl : v16 = .slice B16 x16.length d16 := hv16
 replace hFr:=hFr.fr hF16
 replace hp:=hp16
 refine Fd_ 6 fld68_6 rfl rfl ?_
 refine wl_hstore1 (i := 2) rfl rfl hp rfl sz26 (Nat.lt_of_lt_of_le (Nat.lt_succ_self _) leB_) rfl ?_
 rintro w17 hp17 hC17
 replace hFr:=hFr.fz hC17
 have q7:=hl16.tk.fz hC17
 replace hp:=hp17
 refine go ?_
 have hcl:=wNum_ok hp (hl16.fr q7)
 refine Cl_ cl200 rfl hcl ?_
 clear hcl
 rintro v18 w18 ⟨F18, A18, c18, l18, b18, cs18, x18, hv18, hp18, hF18, hl18, hrd18, hst18⟩
 obtain ⟨hI18, rfl⟩ := hrd18
 obtain rfl : v18 = iv x18 := hv18
 have hJ18:=hI18
 unfold i64 at hJ18
 replace hFr:=hFr.fr hF18
 replace q7:=q7.fr hF18
 replace hp:=hp18
 refine Fd_ 7 fld68_7 rfl rfl ?_
 refine wl_hstore1 (i := 2) rfl rfl hp rfl sz3 (Nat.lt_of_lt_of_le (Nat.lt_succ_self _) leB_) rfl ?_
 rintro w19 hp19 hC19
 replace hFr:=hFr.fz hC19
 replace q7:=q7.fz hC19
 have q8:=hl18.tk.fz hC19
 replace hp:=hp19
 refine go ?_
 have hcl:=wNum_ok hp (hl18.fr q8)
 refine Cl_ cl200 rfl hcl ?_
 clear hcl
 rintro v20 w20 ⟨F20, A20, c20, l20, b20, cs20, x20, hv20, hp20, hF20, hl20, hrd20, hst20⟩
 obtain ⟨hI20, rfl⟩ := hrd20
 obtain rfl : v20 = iv x20 := hv20
 have hJ20:=hI20
 unfold i64 at hJ20
 replace hFr:=hFr.fr hF20
 replace q7:=q7.fr hF20
 replace hp:=hp20
 refine Fd_ 8 fld68_8 rfl rfl ?_
 refine wl_hstore1 (i := 2) rfl rfl hp rfl sz3 (Nat.lt_of_lt_of_le (Nat.lt_succ_self _) leB_) rfl ?_
 rintro w21 hp21 hC21
 replace hFr:=hFr.fz hC21
 replace q7:=q7.fz hC21
 have q9:=hl20.tk.fz hC21
 replace hp:=hp21
 refine go ?_
 have hcl:=wMany_ok (most := 7) hp (hl20.fr q9) (by decide)
 refine Cl_ cl195 rfl hcl ?_
 clear hcl
 rintro _ w22 ⟨F22, A22, c22, l22, b22, x22, rfl, hp22, hF22, hl22, hst22, hxm22⟩
 replace hFr:=hFr.fr hF22
 replace q7:=q7.fr hF22
 replace hp:=hp22
 refine go ?_
 refine wc_loop (fun L' w' mes => ∃ (k : Nat), ∃ (Fq : Nat → Prop), ∃ (Aq : Option Addr), ∃ (cq : Nat), ∃ (lq : List UInt8), ∃ (bq : Int), ∃ (AL : Option Addr), ∃ (cL : Nat), ∃ (xs : List Int), ∃ (rows : List (List Value)), L' = [(2, pt gs2 0), (4, pt gs11 0), (5, pt gs5 0), (39, iv x22), (40, iv (k : Int))] ∧ (k ≤ x22.toNat) ∧ (xs.length = k) ∧ (RF i64R Fq w' rows xs) ∧ (Frz Fz Fq w w') ∧ (GS byteR Fq w' Aq cq lq) ∧ (StepP (repP numP k) (rst (decide (b22 ≠ 0)) l22) (rst (decide (bq ≠ 0)) lq) xs) ∧ (GS byteR Fq w' B16 d16 x16) ∧ (HP w0 M0 Fq w' (itB gs11 207 [.slice Aq lq.length cq, iv bq] :: itB gs5 68 ([iv x6, iv x8, iv x10, iv x12, iv x4, iv x14, .slice B16 x16.length d16, iv x18, iv x20, .slice AL xs.length cL]) :: itR 3 1 AL xs.length cL rows.flatten :: itR 125 1 (some ⟨gpp, 0, none⟩) 6 6 [pt gs5 4, pt gs5 0, pt gs5 1, pt gs5 2, pt gs5 3, pt gs5 5] :: itB gs2 68 ([iv wish0.client, iv wish0.stamp, iv wish0.group, iv wish0.epoch, iv wish0.kind, iv wish0.block, s0, iv wish0.old, iv wish0.new, s0]) :: H)) ∧ x22.toNat - k = mes) [(2, pt gs2 0), (4, pt gs11 0), (5, pt gs5 0), (39, iv x22), (40, iv (0 : Int))] (x22.toNat - 0) (by
     refine ⟨0, F22, A22, c22, l22, b22, none, 0, [], [], rfl, ?_, ?_, ?_, ?_, ?_, ?_, ?_, ?_, rfl⟩
     · exact Nat.zero_le _
     · rfl
     · exact RF.nil _ _ _
     · exact hFr
     · exact hl22
     · exact StepP.pure _ _
     · exact (hg16.fr q7)
     · replace hp := ((hp.up 2 rfl).up 1 rfl).as_ (H' := itB gs11 207 ([.slice A22 l22.length c22, iv b22]) :: itB gs5 68 ([iv x6, iv x8, iv x10, iv x12, iv x4, iv x14, .slice B16 x16.length d16, iv x18, iv x20, s0]) :: itR 125 1 (some ⟨gpp, 0, none⟩) 6 6 [pt gs5 4, pt gs5 0, pt gs5 1, pt gs5 2, pt gs5 3, pt gs5 5] :: itB gs2 68 ([iv wish0.client, iv wish0.stamp, iv wish0.group, iv wish0.epoch, iv wish0.kind, iv wish0.block, s0, iv wish0.old, iv wish0.new, s0]) :: H) rfl
       exact (((((((hp.noRow 3 1).up 4 rfl).up 4 rfl).up 2 rfl).up 4 rfl).up 4 rfl)).as_ (H' := _ :: _ :: _ :: _ :: _ :: _) rfl) ⟨rfl, rfl, rfl, rfl, rfl, trivial⟩ ?_
 rintro _ wr _ ⟨k, Fq, Aq, cq, lq, bq, AL, cL, xs, rows, rfl, hk, hxk, hRF, hFr, hlq, hstL, hg16, hp, rfl⟩ KL2 hKL2
 refine go ?_
 refine Ls_ rfl rfl (go ?_)
 refine Cd (fun hc1 => ?_) fun hc1 => ?_
 refine go ?_
 refine wc_drawE 5 3 45 4 46 (fun w9 v w2 => RvE 207 gs11 w0 M0 Fq w9 (itB gs5 68 ([iv x6, iv x8, iv x10, iv x12, iv x4, iv x14, .slice B16 x16.length d16, iv x18, iv x20, .slice AL xs.length cL]) :: itR 3 1 AL xs.length cL rows.flatten :: itR 125 1 (some ⟨gpp, 0, none⟩) 6 6 [pt gs5 4, pt gs5 0, pt gs5 1, pt gs5 2, pt gs5 3, pt gs5 5] :: itB gs2 68 ([iv wish0.client, iv wish0.stamp, iv wish0.group, iv wish0.epoch, iv wish0.kind, iv wish0.block, s0, iv wish0.old, iv wish0.new, s0]) :: H) i64R false numP bq lq v w2) OneOf (fun i v => match i with | 0 => v = pt gs5 9 | 1 => v = .slice AL xs.length cL | _ => v = pt gs11 0) rfl (by kernel_rfl) (by kernel_rfl) (fun v w1 w2 hE h => h.ext hE) (fun v u w1 w2 hE h => h.ext hE) ⟨?_, ?_, ?_, ?_, ?_, trivial⟩ ?_ ?_ ?_
 refine .inr (.inr ?_)
 intro F wF hPP hk
 have e5:=hk.init 5 _ rfl (by kernel_rfl)
 refine Fd_ 9 fld68_9 e5 rfl ?_
 exact qz ⟨Chg.refl _ _, rfl⟩
 refine .inr (.inr ?_)
 intro F wF hPP hk
 obtain ⟨u42, e42, h42⟩ := hk.pred 0 (by kernel_rfl) 42 rfl
 obtain rfl : u42 = pt gs5 9 := by simpa using h42
 rcases hPP with hER | ⟨v9, F9, A9, c9, l9, b9, cs9, x9, hv9, hp9, _⟩
 refine Hl_ 1 sc27 e42 (hp.ext hER) rfl rfl ?_
 exact qz ⟨Chg.refl _ _, rfl⟩
 refine Hl_ 1 sc27 e42 hp9 rfl rfl ?_
 exact qz ⟨Chg.refl _ _, rfl⟩
 refine .inr (.inr ?_)
 intro F wF hPP hk
 have e4:=hk.init 4 _ rfl (by kernel_rfl)
 refine Mv_ e4 ?_
 exact qz ⟨Chg.refl _ _, rfl⟩
 exact .inl rfl
 exact .inr (.inl rfl)
 intro o ho F wF hER hk
 cases ho
 obtain ⟨u44, e44, h44⟩ := hk.pred 2 (by kernel_rfl) 44 rfl
 obtain rfl : u44 = pt gs11 0 := by simpa using h44
 have hcl:=wNum_ok (hp.ext hER) (hlq.ext hER)
 refine Cl_ cl200 (by simp only [evs, ev, e44]; first | done | rfl) hcl ?_
 intro v9 w9 hv9
 exact wl_nil (qr_some (hv9.from hER))
 intro o ho F wF v9 e45 hPo hk
 cases ho
 obtain ⟨F23, A23, c23, l23, b23, cs23, x23, hv23, hp23, hF23, hl23, hrd23, hst23⟩ := hPo
 obtain ⟨hI23, rfl⟩ := hrd23
 obtain rfl : v9 = iv x23 := hv23
 refine wl_oneOf (by decide) sl27 rfl e45 rfl leB_ ?_
 intro u9 w9 h9 hE9
 exact qz ⟨hE9, h9⟩
 intro F wD v9 u9 e45 hPo e46 hOn hini hdo
 obtain ⟨F23, A23, c23, l23, b23, cs23, x23, hv23, hp23, hF23, hl23, hrd23, hst23⟩ := hPo
 obtain ⟨hI23, rfl⟩ := hrd23
 obtain rfl : v9 = iv x23 := hv23
 obtain ⟨gt, rfl, hat9⟩ := hOn
 have e2:=hini 2 _ rfl (by kernel_rfl)
 have e4:=hini 4 _ rfl (by kernel_rfl)
 have e5:=hini 5 _ rfl (by kernel_rfl)
 have e39:=hini 39 _ rfl (by kernel_rfl)
 have e40:=hini 40 _ rfl (by kernel_rfl)
 obtain ⟨u43, e43, h43⟩ := hdo 1 43 (Nat.lt_of_lt_of_eq (by decide) rfl) rfl
 obtain rfl : u43 = .slice AL xs.length cL := by simpa using h43
 refine wl_drop [(2, _), (4, _), (5, _), (39, _), (40, _), (43, _), (46, _)] ⟨e2, e4, e5, e39, e40, e43, e46, trivial⟩ ?_
 clear hini hdo
 replace hFr:=hFr.fr hF23
 have q10:=hRF.tk.fr hF23
 replace hp:=hp23
 refine wl_happend (i := 2) (m := 1) (size := 1) (news := [iv x23]) (by decide) sl27 rfl rfl hp rfl rfl (fun b hb => by cases hb; exact hat9) (by simp) (List.all_eq_true.1 rfl) (by omega) ?_
 rintro Aw cw ww hpw hCw
 replace hFr:=hFr.fz hCw
 replace q10:=q10.fz hCw
 have q11:=hl23.tk.fz hCw
 replace hp:=hpw
 refine Fd_ 9 fld68_9 rfl rfl ?_
 refine wl_hstore1 (i := 1) rfl rfl hp rfl sz27 (Nat.lt_of_lt_of_le (Nat.lt_succ_self _) leB_) rfl ?_
 rintro w24 hp24 hC24
 replace hFr:=hFr.fz hC24
 replace q10:=q10.fz hC24
 replace q11:=q11.fz hC24
 replace hp:=hp24
 refine go ?_
 refine wl_add (by decide) rfl rfl (w64 (by omega) (by omega)) (gl ?_)
 refine wk_drop [(2, pt gs2 0), (4, pt gs11 0), (5, pt gs5 0), (39, iv x22), (40, iv ((k + 1) : Int))] ⟨rfl, rfl, rfl, rfl, rfl, trivial⟩ (hKL2 _ _ (m2 := x22.toNat - (k + 1)) ?_ ?_)
 refine ⟨(k + 1), F23, A23, c23, l23, b23, Aw, cw, (xs ++ [x23]), (rows ++ [[iv x23]]), rfl, ?_, ?_, ?_, ?_, ?_, ?_, ?_, ?_, rfl⟩
 omega
 rw [List.length_append, hxk]; rfl
 exact (hRF.fr q10).append (RF.one ⟨hI23, rfl⟩)
 exact hFr
 exact (hl23.fr q11)
 exact StepP.snoc hstL hst23
 exact (hg16.fr q10)
 rw [flat_snoc, List.length_append]; exact ((((((hp.up 4 rfl).up 4 rfl).up 4 rfl).up 4 rfl).up 4 rfl).as_ (H' := _ :: _ :: _ :: _ :: _ :: _) rfl)
 omega
 have hrowA:=hp.rowAt (i := 2) rfl
 obtain ⟨F8, hp8, hs8, hb8⟩ := ((hp.up 2 rfl).as_ (H' := _ :: _ :: _ :: _ :: _ :: _) rfl).frzRow
 have hgs:=OwnRow.gsRF (r := i64R) hrowA (hRF.wid hs8) hb8
 replace hp:=hp8
 replace hgs:=hgs.ints
 replace hFr:=hFr.wid hs8
 have q12:=hlq.tk.wid hs8
 refine go ?_
 have hcl:=wEnd_ok hp (hlq.fr q12)
 refine Cl_ cl198 rfl hcl ?_
 clear hcl
 rintro _ w25 ⟨e2, e3, rfl, hen, hp25, hF25⟩
 replace hFr:=hFr.fz hF25.chg
 replace hg16:=(hg16.fr q12).fz hF25.chg
 replace hgs:=hgs.fz hF25.chg
 replace hp:=hp25
 refine go ?_
 refine Eq_ rfl rfl (go ?_)
 refine Cd (fun hc2 => ?_) fun hc2 => ?_
 refine go ?_
 refine Hx_ ([iv x6, iv x8, iv x10, iv x12, iv x4, iv x14, .slice B16 x16.length d16, iv x18, iv x20, .slice AL xs.length cL]) 1 ag68 rfl hp rfl rfl rfl ?_
 have hcl:=wCheck_ok (w0 := ({ client := x6, stamp := x8, group := x10, epoch := x12, kind := x4, block := x14, data := x16, old := x18, new := x20, next := xs } : Wsh)) ⟨⟨hI6, hI8, hI10, hI12, hI4, hI14, hI18, hI20⟩, _, _, _, _, rfl, hg16, hgs⟩
 refine Cl_ cl136 rfl hcl ?_
 clear hcl
 rintro _ w26 ⟨rfl, hE26⟩
 replace hFr:=hFr.ext hE26
 have q13:=hE26
 replace hp:=hp.ext hE26
 refine go ?_
 refine Ne_ rfl rfl (go ?_)
 refine Cd (fun hc3 => ?_) fun hc3 => ?_
 refine go ?_
 refine wl_builtS (ps := []) (by decide) bld68 rfl rfl ?_
 refine go ?_
 refine wl_hstore (i := 3) rfl rfl hp rfl sz68 leB_ (List.all_eq_true.1 rfl) ?_
 rintro w27 hp27 hC27
 replace hFr:=hFr.fz hC27
 replace hp:=hp27
 refine go ?_
 refine wk_postR (rs := [.cell 2 68, .tmp 3]) (.inl rfl) results197 ⟨_, _, _, rfl, rfl, loadVar_agg ag68 (hp.blkAt (i := 3) rfl).at0 rfl, ⟨_, _, rfl, rfl, rfl⟩⟩ ?_
 have hPX:=(show StepP wishP (some l) _ ({ client := x6, stamp := x8, group := x10, epoch := x12, kind := x4, block := x14, data := x16, old := x18, new := x20, next := xs } : Wsh) from StepP.bind hst4 (StepP.bind hst6 (StepP.bind hst8 (StepP.bind hst10 (StepP.bind hst12 (StepP.bind hst14 (StepP.bind hst16 (StepP.bind hst18 (StepP.bind hst20 (StepP.bind (StepP.bind hst22 (by rw [show x22.toNat = k by omega]; exact hstL)) (StepP.pure _ _)))))))))))
 have hpE:=hp.tail.tail.tail.tail
 first | (exfalso; omega) | exact ⟨_, rfl, _, _, wish0, _, rfl, hpE, hFr, ⟨WshI0, none, 0, none, 0, rfl, gsn, gsn⟩, .inr ⟨by assumption, parse_no hPX hen (by omega), rfl⟩⟩ | exact ⟨_, rfl, _, _, wish0, _, rfl, hpE, hFr, ⟨WshI0, none, 0, none, 0, rfl, gsn, gsn⟩, .inr ⟨by assumption, by rw [parse_some hPX hen (by omega), if_neg (show ¬ WishMay ({ client := x6, stamp := x8, group := x10, epoch := x12, kind := x4, block := x14, data := x16, old := x18, new := x20, next := xs } : Wsh) from fun hm => by simp [hm] at hc1 hc2 hc3)], rfl⟩⟩
 refine go ?_
 refine Hx_ ([iv x6, iv x8, iv x10, iv x12, iv x4, iv x14, .slice B16 x16.length d16, iv x18, iv x20, .slice AL xs.length cL]) 1 ag68 rfl hp rfl rfl rfl ?_
 refine wl_hstore (i := 3) rfl rfl hp rfl sz68 leB_ (List.all_eq_true.1 rfl) ?_
 rintro w28 hp28 hC28
 replace hFr:=hFr.fz hC28
 have q14:=hg16.tk.ext q13
 replace q14:=q14.fz hC28
 replace hp:=hp28
 refine go ?_
 refine wk_postR (rs := [.cell 2 68, .tmp 3]) (.inl rfl) results197 ⟨_, _, _, rfl, rfl, loadVar_agg ag68 (hp.blkAt (i := 3) rfl).at0 rfl, ⟨_, _, rfl, rfl, rfl⟩⟩ ?_
 have hPX:=(show StepP wishP (some l) _ ({ client := x6, stamp := x8, group := x10, epoch := x12, kind := x4, block := x14, data := x16, old := x18, new := x20, next := xs } : Wsh) from StepP.bind hst4 (StepP.bind hst6 (StepP.bind hst8 (StepP.bind hst10 (StepP.bind hst12 (StepP.bind hst14 (StepP.bind hst16 (StepP.bind hst18 (StepP.bind hst20 (StepP.bind (StepP.bind hst22 (by rw [show x22.toNat = k by omega]; exact hstL)) (StepP.pure _ _)))))))))))
 have hpE:=hp.tail.tail.tail.tail
 first | (exfalso; omega) | exact ⟨_, rfl, _, _, ({ client := x6, stamp := x8, group := x10, epoch := x12, kind := x4, block := x14, data := x16, old := x18, new := x20, next := xs } : Wsh), 0, rfl, hpE, hFr, ⟨⟨hI6, hI8, hI10, hI12, hI4, hI14, hI18, hI20⟩, _, _, _, _, rfl, (hg16.fr q14), (hgs.fr q14)⟩, .inl ⟨rfl, by rw [parse_some hPX hen (by omega), if_pos (show WishMay ({ client := x6, stamp := x8, group := x10, epoch := x12, kind := x4, block := x14, data := x16, old := x18, new := x20, next := xs } : Wsh) from Decidable.byContradiction fun hm => by simp [hm] at hc1 hc2 hc3)]⟩⟩
 refine go ?_
 refine Ne_ rfl rfl (go ?_)
 refine Cd (fun hc4 => ?_) fun hc4 => ?_
 refine go ?_
 refine wl_builtS (ps := []) (by decide) bld68 rfl rfl ?_
 refine go ?_
 refine wl_hstore (i := 3) rfl rfl hp rfl sz68 leB_ (List.all_eq_true.1 rfl) ?_
 rintro w29 hp29 hC29
 replace hFr:=hFr.fz hC29
 replace hp:=hp29
 refine go ?_
 refine wk_postR (rs := [.cell 2 68, .tmp 3]) (.inl rfl) results197 ⟨_, _, _, rfl, rfl, loadVar_agg ag68 (hp.blkAt (i := 3) rfl).at0 rfl, ⟨_, _, rfl, rfl, rfl⟩⟩ ?_
 have hPX:=(show StepP wishP (some l) _ ({ client := x6, stamp := x8, group := x10, epoch := x12, kind := x4, block := x14, data := x16, old := x18, new := x20, next := xs } : Wsh) from StepP.bind hst4 (StepP.bind hst6 (StepP.bind hst8 (StepP.bind hst10 (StepP.bind hst12 (StepP.bind hst14 (StepP.bind hst16 (StepP.bind hst18 (StepP.bind hst20 (StepP.bind (StepP.bind hst22 (by rw [show x22.toNat = k by omega]; exact hstL)) (StepP.pure _ _)))))))))))
 have hpE:=hp.tail.tail.tail.tail
 first | (exfalso; omega) | exact ⟨_, rfl, _, _, wish0, _, rfl, hpE, hFr, ⟨WshI0, none, 0, none, 0, rfl, gsn, gsn⟩, .inr ⟨by assumption, parse_no hPX hen (by omega), rfl⟩⟩ | exact ⟨_, rfl, _, _, wish0, _, rfl, hpE, hFr, ⟨WshI0, none, 0, none, 0, rfl, gsn, gsn⟩, .inr ⟨by assumption, by rw [parse_some hPX hen (by omega), if_neg (show ¬ WishMay ({ client := x6, stamp := x8, group := x10, epoch := x12, kind := x4, block := x14, data := x16, old := x18, new := x20, next := xs } : Wsh) from fun hm => by simp [hm] at hc1 hc2 hc4)], rfl⟩⟩
 refine go ?_
 refine Hx_ ([iv x6, iv x8, iv x10, iv x12, iv x4, iv x14, .slice B16 x16.length d16, iv x18, iv x20, .slice AL xs.length cL]) 1 ag68 rfl hp rfl rfl rfl ?_
 refine wl_hstore (i := 3) rfl rfl hp rfl sz68 leB_ (List.all_eq_true.1 rfl) ?_
 rintro w30 hp30 hC30
 replace hFr:=hFr.fz hC30
 have q15:=hg16.tk.fz hC30
 replace hp:=hp30
 refine go ?_
 refine wk_postR (rs := [.cell 2 68, .tmp 3]) (.inl rfl) results197 ⟨_, _, _, rfl, rfl, loadVar_agg ag68 (hp.blkAt (i := 3) rfl).at0 rfl, ⟨_, _, rfl, rfl, rfl⟩⟩ ?_
 have hPX:=(show StepP wishP (some l) _ ({ client := x6, stamp := x8, group := x10, epoch := x12, kind := x4, block := x14, data := x16, old := x18, new := x20, next := xs } : Wsh) from StepP.bind hst4 (StepP.bind hst6 (StepP.bind hst8 (StepP.bind hst10 (StepP.bind hst12 (StepP.bind hst14 (StepP.bind hst16 (StepP.bind hst18 (StepP.bind hst20 (StepP.bind (StepP.bind hst22 (by rw [show x22.toNat = k by omega]; exact hstL)) (StepP.pure _ _)))))))))))
 have hpE:=hp.tail.tail.tail.tail
 first | (exfalso; omega) | exact ⟨_, rfl, _, _, ({ client := x6, stamp := x8, group := x10, epoch := x12, kind := x4, block := x14, data := x16, old := x18, new := x20, next := xs } : Wsh), 0, rfl, hpE, hFr, ⟨⟨hI6, hI8, hI10, hI12, hI4, hI14, hI18, hI20⟩, _, _, _, _, rfl, (hg16.fr q15), (hgs.fr q15)⟩, .inl ⟨rfl, by rw [parse_some hPX hen (by omega), if_pos (show WishMay ({ client := x6, stamp := x8, group := x10, epoch := x12, kind := x4, block := x14, data := x16, old := x18, new := x20, next := xs } : Wsh) from Decidable.byContradiction fun hm => by simp [hm] at hc1 hc2 hc4)]⟩⟩
def unbS (l : List UInt8) : Option (List Wsh) := match blistP l with
 | some (x, u) => if u = [] then some x else none
 | none => none
def UnbR (l : List UInt8) (x : List Wsh) (e : Int) : Prop := (e = 0 ∧ unbS l = some x) ∨ (e ≠ 0 ∧ unbS l = none ∧ x = [])
theorem unb_fail {l : List UInt8} {x : List Wsh} (h : StepP blistP (some l) none x) : unbS l = none := by
 have h1 : blistP l = none := h
 unfold unbS
 rw [h1]
theorem unb_no {l lR : List UInt8} {eR e2 : Int} {x : List Wsh} (h : StepP blistP (some l) (rst (decide (eR ≠ 0)) lR) x) (hen : e2 = if eR = 0 ∧ 0 < lR.length then 4 else eR) (h2 : e2 ≠ 0) : unbS l = none := by
 have h0 := (not_congr (end_E hen)).1 h2
 cases hs : rst (decide (eR ≠ 0)) lR with
 | none => rw [hs] at h; exact unb_fail h
 | some u =>
  rw [hs] at h h0
  have h1 : blistP l = some (x, u) := h
  unfold unbS
  rw [h1]
  exact if_neg (fun hh => h0 (by rw [hh]))
theorem unb_some {l lR : List UInt8} {eR e2 : Int} {x : List Wsh} (h : StepP blistP (some l) (rst (decide (eR ≠ 0)) lR) x) (hen : e2 = if eR = 0 ∧ 0 < lR.length then 4 else eR) (h2 : e2 = 0) : unbS l = some x := by
 have h0 := (end_E hen).1 h2
 rw [h0] at h
 have h1 : blistP l = some (x, []) := h
 unfold unbS
 rw [h1]
 exact if_pos rfl
theorem step_witem {bad : Bool} {l l' s : List UInt8} {e eP : Int} {x : Wsh} (h : StepP (strP 256) (rst bad l) (rst (decide (e ≠ 0)) l') s) (he : ¬ e ≠ 0) (hp : ParseR s x eP) (heP : ¬ eP ≠ 0) : StepP witemP (rst bad l) (rst (decide (e ≠ 0)) l') x := by
 rw [show decide (e ≠ 0) = false from decide_eq_false he] at h ⊢
 rcases hp with ⟨_, hp⟩ | ⟨hp, _⟩
 ·cases bad with
  | true => cases h
  | false =>
   have h1 : strP 256 l = some (s, l') := h
   show witemP l = some (x, l')
   unfold witemP boxP
   rw [h1]
   unfold parseS at hp
   cases hw : wishP s with
   | none => rw [hw] at hp; cases hp
   | some v =>
    obtain ⟨y, u⟩ := v
    simp only [hw] at hp ⊢
    by_cases hc : u = [] ∧ WishMay y
    ·rw [if_pos hc] at hp ⊢; cases hp; rfl
    ·rw [if_neg hc] at hp; cases hp
 ·exact absurd hp heP
theorem step_witem_no {bad : Bool} {l l' s : List UInt8} {e eP : Int} {x : Wsh} (h : StepP (strP 256) (rst bad l) (rst (decide (e ≠ 0)) l') s) (hh : e ≠ 0 ∨ (¬ e ≠ 0 ∧ ParseR s x eP ∧ eP ≠ 0)) : StepP witemP (rst bad l) none wish0 := by
 rcases hh with he | ⟨he, hp, heP⟩
 ·rw [show decide (e ≠ 0) = true from decide_eq_true he] at h
  cases bad with
  | true => rfl
  | false =>
   have h1 : strP 256 l = none := h
   show witemP l = none
   unfold witemP boxP
   rw [h1]
 ·rw [show decide (e ≠ 0) = false from decide_eq_false he] at h
  cases bad with
  | true => rfl
  | false =>
   have h1 : strP 256 l = some (s, l') := h
   show witemP l = none
   unfold witemP boxP
   rw [h1]
   rcases hp with ⟨hz, _⟩ | ⟨_, hp, _⟩
   ·exact absurd hz heP
   ·unfold parseS at hp
    cases hw : wishP s with
    | none => simp only [hw]
    | some v =>
     obtain ⟨y, u⟩ := v
     simp only [hw] at hp ⊢
     by_cases hc : u = [] ∧ WishMay y
     ·rw [if_pos hc] at hp; cases hp
     ·rw [if_neg hc]
set_option maxHeartbeats 40000000 in
theorem wUnb_ok {l : List UInt8} (hp : HP w0 M0 Fz w H) (hl : GS byteR Fz w A c l) : Ret prog 190 #[.slice A l.length c] w (fun v w2 => ∃ F2 A' c' xs e, v = .tuple #[.slice A' (xs : List Wsh).length c', .int .i64 e] ∧ HP w0 M0 F2 w2 H ∧ Frz Fz F2 w w2 ∧ GS wishR F2 w2 A' c' xs ∧ UnbR l xs e) := by
 have hFr:=Frz.start Fz w
 refine ret_of_wk func190 rfl ntmps190 leB_ ?_
 refine go ?_
 refine wl_builtS (ps := [(0, .tmp 10)]) (by decide) bld207 rfl rfl ?_
 refine wl_hbox (by decide) rfl hp ?_
 rintro gs12 w1 hp1 hE1
 replace hFr:=hFr.ext hE1
 have q0:=hE1
 replace hp:=hp1
 refine go ?_
 refine go ?_
 have hcl:=wMany_ok (most := 4) hp (hl.ext q0) (by decide)
 refine Cl_ cl195 rfl hcl ?_
 clear hcl
 rintro _ w2 ⟨F2, A2, c2, l2, b2, x2, rfl, hp2, hF2, hl2, hst2, hxm2⟩
 replace hFr:=hFr.fr hF2
 replace hp:=hp2
 refine go ?_
 refine wc_loop (fun L' w' mes => ∃ (k : Nat), ∃ (Fq : Nat → Prop), ∃ (Aq : Option Addr), ∃ (cq : Nat), ∃ (lq : List UInt8), ∃ (bq : Int), ∃ (AL : Option Addr), ∃ (cL : Nat), ∃ (xs : List Wsh), ∃ (rows : List (List Value)), L' = [(4, pt gs12 0), (5, .slice AL xs.length cL), (14, iv x2), (15, iv (k : Int))] ∧ (k ≤ x2.toNat) ∧ (xs.length = k) ∧ (RF wishR Fq w' rows xs) ∧ (Frz Fz Fq w w') ∧ (GS byteR Fq w' Aq cq lq) ∧ (StepP (repP witemP k) (rst (decide (b2 ≠ 0)) l2) (rst (decide (bq ≠ 0)) lq) xs) ∧ (HP w0 M0 Fq w' (itB gs12 207 [.slice Aq lq.length cq, iv bq] :: itR 68 10 AL xs.length cL rows.flatten :: H)) ∧ x2.toNat - k = mes) [(4, pt gs12 0), (5, .slice none [].length 0), (14, iv x2), (15, iv (0 : Int))] (x2.toNat - 0) (by
     refine ⟨0, F2, A2, c2, l2, b2, none, 0, [], [], rfl, ?_, ?_, ?_, ?_, ?_, ?_, ?_, rfl⟩
     · exact Nat.zero_le _
     · rfl
     · exact RF.nil _ _ _
     · exact hFr
     · exact hl2
     · exact StepP.pure _ _
     · exact ((((hp.noRow 68 10).up 0 rfl).up 1 rfl)).as_ (H' := _ :: _ :: _) rfl) ⟨rfl, rfl, rfl, rfl, trivial⟩ ?_
 rintro _ wr _ ⟨k, Fq, Aq, cq, lq, bq, AL, cL, xs, rows, rfl, hk, hxk, hRF, hFr, hlq, hstL, hp, rfl⟩ KL1 hKL1
 refine go ?_
 refine Ls_ rfl rfl (go ?_)
 refine Cd (fun hc1 => ?_) fun hc1 => ?_
 refine go ?_
 have hcl:=wStr_ok (most := 256) hp hlq
 refine Cl_ cl196 rfl hcl ?_
 clear hcl
 rintro v3 w3 ⟨F3, A3, c3, l3, b3, cs3, x3, hv3, hp3, hF3, hl3, hrd3, hst3⟩
 obtain ⟨B3, d3, rfl, hg3⟩ := hrd3
 obtain rfl : v3 = .slice B3 x3.length d3 := hv3
 replace hFr:=hFr.fr hF3
 have q1:=hRF.tk.fr hF3
 replace hp:=hp3
 refine go ?_
 refine Fd_ 1 fld207_1 rfl rfl ?_
 refine Hl_ 0 sc25 rfl hp rfl rfl ?_
 refine Ne_ rfl rfl (go ?_)
 refine Cd (fun hc2 => ?_) fun hc2 => ?_
 refine go ?_
 apply wdL [.eq _,.eq _,.eq _,.eq _,.eq _,.eq _]
 refine ⟨?_,?_,?_,?_,?_,?_,trivial⟩<;>intro F wF hER hk
 exact dm (hk.qi 4)
 exact Nc_ (hk.qe 0) qz
 exact Fd_ 1 fld207_1 (hk.qe 1) rfl qz
 exact Hl_ 0 sc25 (hk.qe 2) (hp.ext hER) rfl rfl qz
 exact wl_assign (by decide) rfl qz
 exact wl_assign (by decide) (hk.qe 3) qz
 intro F wD hED hini hdo
 refine wk_drop [(2, _), (3, _)] ⟨dq hdo 4, dq hdo 5, trivial⟩ ?_
 clear hini hdo
 replace hFr:=hFr.ext hED
 replace hp:=hp.ext hED
 refine go ?_
 refine P2 results190 ?_
 have hpE:=hp.tail.tail
 exact ⟨_, rfl, _, none, 0, [], _, rfl, hpE, hFr, gsn, .inr ⟨by assumption, unb_fail (StepP.bind hst2 (rep_fail (k := k) (n := x2.toNat) hstL (step_witem_no (x := wish0) (eP := 0) hst3 (.inl (by assumption))) (by omega))), rfl⟩⟩
 refine go ?_
 have hcl:=wParse_ok hp hg3
 refine Cl_ cl197 rfl hcl ?_
 clear hcl
 rintro _ w4 ⟨F4, cs4, x4, e4, rfl, hp4, hF4, hrd4, hpr4⟩
 obtain ⟨hI4, A4_0, c4_0, A4_1, c4_1, rfl, hr4_0, hr4_1⟩ := hrd4
 replace hFr:=hFr.fr hF4
 replace q1:=q1.fr hF4
 have q2:=hl3.tk.fr hF4
 replace hp:=hp4
 refine go ?_
 refine wl_halloc (z := .agg #[iv 0, iv 0, iv 0, iv 0, iv 0, iv 0, s0, iv 0, iv 0, s0]) (by decide) (by kernel_rfl) hp ?_
 rintro gs7 w5 hp5 hE5
 replace hFr:=hFr.ext hE5
 replace q1:=q1.ext hE5
 replace q2:=q2.ext hE5
 have q3:=hE5
 replace hp:=hp5
 refine wl_hstore (i := 0) rfl rfl hp rfl sz68 leB_ (List.all_eq_true.1 rfl) ?_
 rintro w6 hp6 hC6
 replace hFr:=hFr.fz hC6
 replace q1:=q1.fz hC6
 replace q2:=q2.fz hC6
 have q4:=hr4_0.tk.ext q3
 replace q4:=q4.fz hC6
 replace hp:=hp6
 refine go ?_
 refine Ne_ rfl rfl (go ?_)
 refine Cd (fun hc3 => ?_) fun hc3 => ?_
 refine go ?_
 refine P2 results190 ?_
 have hpE:=hp.tail.tail.tail
 exact ⟨_, rfl, _, none, 0, [], _, rfl, hpE, hFr, gsn, .inr ⟨by assumption, unb_fail (StepP.bind hst2 (rep_fail (k := k) (n := x2.toNat) hstL (step_witem_no hst3 (.inr ⟨by assumption, hpr4, by assumption⟩)) (by omega))), rfl⟩⟩
 refine go ?_
 refine Hx_ ([iv x4.client, iv x4.stamp, iv x4.group, iv x4.epoch, iv x4.kind, iv x4.block, .slice A4_0 x4.data.length c4_0, iv x4.old, iv x4.new, .slice A4_1 x4.next.length c4_1]) 0 ag68 rfl hp rfl rfl rfl ?_
 refine wl_oneOf (by decide) sl24 rfl rfl rfl leB_ ?_
 rintro _ wo hOn hEo
 replace hFr:=hFr.ext hEo
 replace q1:=q1.ext hEo
 replace q2:=q2.ext hEo
 replace q4:=q4.ext hEo
 replace hp:=hp.ext hEo
 obtain ⟨gt, rfl, hat9⟩ := hOn
 refine wl_happend (i := 2) (m := 1) (size := 10) (news := [iv x4.client, iv x4.stamp, iv x4.group, iv x4.epoch, iv x4.kind, iv x4.block, .slice A4_0 x4.data.length c4_0, iv x4.old, iv x4.new, .slice A4_1 x4.next.length c4_1]) (by decide) sl24 rfl rfl hp rfl rfl (fun b hb => by cases hb; exact hat9) (by simp) (List.all_eq_true.1 rfl) (by omega) ?_
 rintro Aw cw ww hpw hCw
 replace hFr:=hFr.fz hCw
 replace q1:=q1.fz hCw
 replace q2:=q2.fz hCw
 replace q4:=q4.fz hCw
 replace hp:=hpw
 have hst4:=step_witem hst3 (by assumption) hpr4 (by assumption)
 refine go ?_
 refine wl_add (by decide) rfl rfl (w64 (by omega) (by omega)) (gl ?_)
 refine wk_drop [(4, pt gs12 0), (5, .slice Aw (xs ++ [x4]).length cw), (14, iv x2), (15, iv ((k + 1) : Int))] ⟨rfl, (by rw [List.length_append]; rfl), rfl, rfl, trivial⟩ (hKL1 _ _ (m2 := x2.toNat - (k + 1)) ?_ ?_)
 refine ⟨(k + 1), F4, A3, c3, l3, b3, Aw, cw, (xs ++ [x4]), (rows ++ [[iv x4.client, iv x4.stamp, iv x4.group, iv x4.epoch, iv x4.kind, iv x4.block, .slice A4_0 x4.data.length c4_0, iv x4.old, iv x4.new, .slice A4_1 x4.next.length c4_1]]), rfl, ?_, ?_, ?_, ?_, ?_, ?_, ?_, rfl⟩
 omega
 rw [List.length_append, hxk]; rfl
 exact (hRF.fr q1).append (RF.one ⟨hI4, _, _, _, _, rfl, (hr4_0.fr q4), (hr4_1.fr q4)⟩)
 exact hFr
 exact (hl3.fr q2)
 exact StepP.snoc hstL hst4
 rw [flat_snoc, List.length_append]; exact (((hp.tail.up 1 rfl).up 1 rfl).as_ (H' := _ :: _ :: _) rfl)
 omega
 refine go ?_
 have hrowA:=hp.rowAt (i := 1) rfl
 obtain ⟨F8, hp8, hs8, hb8⟩ := ((hp.up 1 rfl).as_ (H' := _ :: _ :: _) rfl).frzRow
 have hgs:=OwnRow.gsRF (r := wishR) hrowA (hRF.wid hs8) hb8
 replace hp:=hp8
 replace hFr:=hFr.wid hs8
 have q5:=hlq.tk.wid hs8
 refine go ?_
 have hcl:=wEnd_ok hp (hlq.fr q5)
 refine Cl_ cl198 rfl hcl ?_
 clear hcl
 rintro _ w7 ⟨e2, e3, rfl, hen, hp7, hF7⟩
 replace hFr:=hFr.fz hF7.chg
 replace hgs:=hgs.fz hF7.chg
 replace hp:=hp7
 refine go ?_
 refine Ne_ rfl rfl (go ?_)
 refine Cd (fun hc4 => ?_) fun hc4 => ?_
 refine go ?_
 refine P2 results190 ?_
 have hpE:=hp.tail
 exact ⟨_, rfl, _, none, 0, [], _, rfl, hpE, hFr, gsn, .inr ⟨by assumption, unb_no (show StepP blistP (some l) _ _ from (StepP.bind hst2 (rep_end hstL hk (by first | exact .inr (by omega) | exact .inl (decide_eq_true (by assumption)) | exact .inl (by assumption))))) hen (by assumption), rfl⟩⟩
 refine go ?_
 refine P2 results190 ?_
 have hpE:=hp.tail
 exact ⟨_, rfl, _, _, _, xs, 0, rfl, hpE, hFr, hgs, .inl ⟨rfl, unb_some (show StepP blistP (some l) _ _ from (StepP.bind hst2 (rep_end hstL hk (by first | exact .inr (by omega) | exact .inl (decide_eq_true (by assumption)) | exact .inl (by assumption))))) hen (by omega)⟩⟩
theorem step_batch {bad b' b2 : Bool} {l l' s : List UInt8} {xs x : List Wsh} {e : Int} (h : StepP (strP 65536) (rst bad l) (rst b' l') s) (hu : UnbR s xs e) (hb : b2 = (b' || decide (e ≠ 0))) (hx : b2 = false → x = xs) : StepP batchP (rst bad l) (rst b2 l') x := by
 have key : ∀ {l : List UInt8}, strP 65536 l = none → batchP l = none := fun hn => by unfold batchP boxP; rw [hn]
 cases bad with
 | true =>
   have hb' : b' = true := by cases b' with
     | true => rfl
     | false => cases h
   subst hb'
   rw [Bool.true_or] at hb
   subst hb
   rfl
 | false =>
   cases b' with
   | true =>
     rw [Bool.true_or] at hb
     subst hb
     exact key h
   | false =>
     have h1 : strP 65536 l = some (s, l') := h
     rw [Bool.false_or] at hb
     rcases hu with ⟨he, hu⟩ | ⟨he, hu, _⟩
     · have hb0 : b2 = false := by rw [hb]; simp [he]
       rw [hx hb0]
       subst hb0
       show batchP l = some (xs, l')
       unfold unbS at hu
       unfold batchP boxP
       rw [h1]
       cases hw : blistP s with
       | none => rw [hw] at hu; cases hu
       | some v =>
         obtain ⟨y, u⟩ := v
         simp only [hw] at hu ⊢
         by_cases hc : u = []
         · rw [if_pos hc] at hu; cases hu; rw [if_pos ⟨hc, trivial⟩]
         · rw [if_neg hc] at hu; cases hu
     · have hb0 : b2 = true := by rw [hb]; simp [he]
       subst hb0
       show batchP l = none
       unfold unbS at hu
       unfold batchP boxP
       rw [h1]
       cases hw : blistP s with
       | none => simp only [hw]
       | some v =>
         obtain ⟨y, u⟩ := v
         simp only [hw] at hu ⊢
         by_cases hc : u = []
         · rw [if_pos hc] at hu; cases hu
         · rw [if_neg (fun hh => hc hh.1)]
set_option maxHeartbeats 40000000 in
theorem nBatch_ok {gr : Nat} {l : List UInt8} {bad : Bool} {X : List Value → It} {pX : Addr} (hp : HP w0 M0 Fz w (itB gr 103 [.slice A l.length c, .bool bad] :: X ([.slice none 0 0]) :: H)) (hS : Slot X pX 1) (hl : GS byteR Fz w A c l) : Ret prog 185 #[.pointer (some ⟨gr, 0, none⟩), .pointer (some pX)] w (RdP 103 gr w0 M0 Fz w H X (sliceR wishR) batchP bad l) := by
 have hFr:=Frz.start Fz w
 refine ret_of_wk func185 rfl ntmps185 leB_ ?_
 refine go ?_
 refine wl_halloc (z := s0) (by decide) (by kernel_rfl) hp ?_
 rintro gs4 w1 hp1 hE1
 replace hFr:=hFr.ext hE1
 have q0:=hE1
 replace hp:=hp1
 refine go ?_
 replace hp:=((hp.up 0 rfl).up 1 rfl).as_ (H' := itB gr 103 [.slice A l.length c, .bool bad] :: itB gs4 26 ([s0]) :: X ([s0]) :: H) rfl
 have hcl:=nStr_ok (X := (fun cs => itB gs4 26 (([]) ++ (cs ++ ([]))))) (pX := ⟨gs4, 0, none⟩) (most := 65536) hp (Slot.blk ([]) ([])) (hl.ext q0)
 refine Cl_ cl189 rfl hcl ?_
 clear hcl
 rintro _ w2 ⟨F2, A2, c2, l2, b2, cs2, x2, hp2, hF2, hl2, hrd2, hst2⟩
 obtain ⟨B2, d2, rfl, hg2⟩ := hrd2
 replace hFr:=hFr.fr hF2
 replace hp:=hp2
 refine go ?_
 refine Hl_ 1 sc26 rfl hp rfl rfl ?_
 have hcl:=wUnb_ok hp hg2
 refine Cl_ cl190 rfl hcl ?_
 clear hcl
 rintro _ w3 ⟨F3, A3, c3, x3, e3, rfl, hp3, hF3, hg3, hu3⟩
 replace hFr:=hFr.fr hF3
 have q1:=hl2.tk.fr hF3
 replace hp:=hp3
 refine go ?_
 refine Fd_ 1 fld103_1 rfl rfl ?_
 refine Hl_ 0 sc4 rfl hp rfl rfl (go ?_)
 refine Gs 19 (fun hg1 => ?_) fun hg1 => ?_
 refine go ?_
 refine Fd_ 1 fld103_1 rfl rfl ?_
 refine wl_hstore1 (i := 0) rfl rfl hp rfl sz4 (Nat.lt_of_lt_of_le (Nat.lt_succ_self _) leB_) rfl ?_
 rintro w4 hp4 hC4
 replace hFr:=hFr.fz hC4
 replace q1:=q1.fz hC4
 replace hp:=hp4
 refine go ?_
 refine Fd_ 1 fld103_1 rfl rfl ?_
 refine Hl_ 0 sc4 rfl hp rfl rfl ?_
 first | refine Nd_ rfl ?_ | refine Nn_ rfl ?_
 refine go ?_
 refine wc_cond_f rfl ?_
 refine go ?_
 refine wk_post0 (.inr rfl) results185  ?_
 exact ⟨_, rfl, _, A2, c2, l2, true, _, [], (((hp.up 1 rfl).tail.up 1 rfl).up 1 rfl), hFr, (hl2.fr q1), sliceR_mk (GS.nil _ _ _ none 0), step_batch hst2 hu3 (by first | (simp_all; done) | rfl) (fun h => by first | rfl | (simp_all; done))⟩
 refine go ?_
 refine Ne_ rfl rfl (go ?_)
 refine Fd_ 1 fld103_1 rfl rfl ?_
 refine wl_hstore1 (i := 0) rfl rfl hp rfl sz4 (Nat.lt_of_lt_of_le (Nat.lt_succ_self _) leB_) rfl ?_
 rintro w5 hp5 hC5
 replace hFr:=hFr.fz hC5
 replace q1:=q1.fz hC5
 have q2:=hg3.tk.fz hC5
 replace hp:=hp5
 refine go ?_
 refine Fd_ 1 fld103_1 rfl rfl ?_
 refine Hl_ 0 sc4 rfl hp rfl rfl ?_
 first | refine Nd_ rfl ?_ | refine Nn_ rfl ?_
 refine go ?_
 refine Cd (fun hc2 => ?_) fun hc2 => ?_
 refine go ?_
 refine wl_sstore1 0 (i := 2) hS (by rw [add_zero']; rfl) rfl hp rfl rfl sz24 (by decide) rfl ?_
 rintro w6 hp6 hC6
 replace hFr:=hFr.fz hC6
 replace q1:=q1.fz hC6
 replace q2:=q2.fz hC6
 replace hp:=hp6
 refine go ?_
 refine wk_post0 (.inr rfl) results185  ?_
 exact ⟨_, rfl, _, A2, c2, l2, (decide (e3 ≠ 0)), _, x3, (((hp.up 1 rfl).tail.up 1 rfl).up 1 rfl), hFr, (hl2.fr q1), sliceR_mk (hg3.fr q2), step_batch hst2 hu3 (by first | (simp_all; done) | rfl) (fun h => by first | rfl | (simp_all; done))⟩
 refine go ?_
 refine wk_post0 (.inr rfl) results185  ?_
 exact ⟨_, rfl, _, A2, c2, l2, (decide (e3 ≠ 0)), _, [], (((hp.up 1 rfl).tail.up 1 rfl).up 1 rfl), hFr, (hl2.fr q1), sliceR_mk (GS.nil _ _ _ none 0), step_batch hst2 hu3 (by first | (simp_all; done) | rfl) (fun h => by first | rfl | (simp_all; done))⟩
set_option maxHeartbeats 40000000 in
theorem rPick_ok {gr : Nat} {l : List UInt8} {bad : Bool} {X : List Value → It} {pX pc : Addr} (hp : HP w0 M0 Fz w (itB gr 103 [.slice A l.length c, .bool bad] :: X ([.int .i64 0] ++ (digC dig0 ++ ([.slice none 0 0]))) :: H)) (hS : Slot X pX 34) (hl : GS byteR Fz w A c l) (hcap : AtF Fz w pc [.iface 101 (.pointer (some ⟨gr, 0, none⟩))]) : Ret prog 112 #[.pointer (some pX), .pointer (some pc)] w (RdP 103 gr w0 M0 Fz w H X pickR pickP bad l) := by
 have hFr:=Frz.start Fz w
 refine ret_of_wk func112 rfl ntmps112 leB_ ?_
 refine go ?_
 apply wdT 7 [.eq _,.eq _,.eq _,.eq _,.eq _,.eq _,.eq _]
 refine ⟨?_,?_,?_,?_,?_,?_,?_,trivial⟩<;>intro F wF hER hk
 exact Ld_ sc123 (hk.qi 1) (hcap.ext hER).head qz
 exact dm (hk.qi 0)
 exact Nc_ (hk.qe 1) qz
 have e5:=hk.qe 2
 refine Fe_ fld66_0 e5 ?_
 rw [add_zero']
 exact qz
 have e3:=hk.qe 0
 exact wl_makeFunc (first := [.tmp 3]) (cap := []) (by decide) (by simp only [evs, ev, e3]; rfl) rfl qz
 exact wl_nilCheckM (t := 101) (by decide) mt188 (hk.qe 4) qz
 exact dm (hk.qe 0)
 intro F wD hED hini hdo
 refine wl_drop [(0, _), (1, _), (6, _), (9, _)] ⟨di hini 0, di hini 1, dr hdo 3, dr hdo 6, trivial⟩ ?_
 clear hini hdo
 replace hFr:=hFr.ext hED
 have q0:=hED
 replace hp:=hp.ext hED
 have hcl:=nNum_ok (X := (fun cs => X (([]) ++ (cs ++ (digC dig0 ++ ([s0])))))) (pX := pX) (v0 := 0) hp (hS.sub ([]) (digC dig0 ++ ([s0])) rfl) (hl.ext q0) (by unfold i64; omega)
 refine wl_invoke (t := 101) (name := "bastide/note.num") (f := 188) (by decide) mt188 rfl rfl hcl ?_
 clear hcl
 rintro _ w1 ⟨F1, A1, c1, l1, b1, cs1, x1, hp1, hF1, hl1, hrd1, hst1⟩
 obtain ⟨hI1, rfl⟩ := hrd1
 replace hFr:=hFr.fr hF1
 have q1:=hl.tk.ext q0
 replace q1:=q1.fr hF1
 replace hp:=hp1
 refine go ?_
 apply wdT 7 [.eq _,.eq _,.eq _,.eq _,.eq _,.eq _,.eq _]
 refine ⟨?_,?_,?_,?_,?_,?_,?_,trivial⟩<;>intro F wF hER hk
 exact Ld_ sc123 (hk.qi 1) ((hcap.fr q1).ext hER).head qz
 exact dm (hk.qi 0)
 exact Nc_ (hk.qe 1) qz
 exact Fe_ fld66_1 (hk.qe 2) qz
 have e11:=hk.qe 0
 exact wl_makeFunc (first := [.tmp 11]) (cap := []) (by decide) (by simp only [evs, ev, e11]; rfl) rfl qz
 exact wl_nilCheckM (t := 101) (by decide) mt186 (hk.qe 4) qz
 exact dm (hk.qe 0)
 intro F wD hED hini hdo
 refine wl_drop [(0, _), (1, _), (14, _), (17, _)] ⟨di hini 0, di hini 1, dr hdo 3, dr hdo 6, trivial⟩ ?_
 clear hini hdo
 replace hFr:=hFr.ext hED
 replace q1:=q1.ext hED
 have q2:=hED
 replace hp:=hp.ext hED
 have hcl:=nDigest_ok (X := (fun cs => X (([iv x1]) ++ (cs ++ ([s0]))))) (pX := (pX.add 1)) (d0 := dig0) hp (hS.sub ([iv x1]) ([s0]) rfl) (hl1.ext q2)
 refine wl_invoke (t := 101) (name := "bastide/note.digest") (f := 186) (by decide) mt186 rfl rfl hcl ?_
 clear hcl
 rintro _ w2 ⟨F2, A2, c2, l2, b2, cs2, x2, hp2, hF2, hl2, hrd2, hst2⟩
 obtain rfl := hrd2
 replace hFr:=hFr.fr hF2
 replace q1:=q1.fr hF2
 replace hp:=hp2
 refine go ?_
 apply wdT 7 [.eq _,.eq _,.eq _,.eq _,.eq _,.eq _,.eq _]
 refine ⟨?_,?_,?_,?_,?_,?_,?_,trivial⟩<;>intro F wF hER hk
 exact Ld_ sc123 (hk.qi 1) ((hcap.fr q1).ext hER).head qz
 exact dm (hk.qi 0)
 exact Nc_ (hk.qe 1) qz
 exact Fe_ fld66_2 (hk.qe 2) qz
 have e19:=hk.qe 0
 exact wl_makeFunc (first := [.tmp 19]) (cap := []) (by decide) (by simp only [evs, ev, e19]; rfl) rfl qz
 exact wl_nilCheckM (t := 101) (by decide) mt185 (hk.qe 4) qz
 exact dm (hk.qe 0)
 intro F wD hED hini hdo
 refine wl_drop [(22, _), (25, _)] ⟨dr hdo 3, dr hdo 6, trivial⟩ ?_
 clear hini hdo
 replace hFr:=hFr.ext hED
 have q3:=hED
 replace hp:=hp.ext hED
 have hcl:=nBatch_ok (X := (fun cs => X (([iv x1] ++ (digC x2)) ++ (cs ++ ([]))))) (pX := (pX.add 33)) hp (hS.sub ([iv x1] ++ (digC x2)) ([]) rfl) (hl2.ext q3)
 refine wl_invoke (t := 101) (name := "bastide/note.batch") (f := 185) (by decide) mt185 rfl rfl hcl ?_
 clear hcl
 rintro _ w3 ⟨F3, A3, c3, l3, b3, cs3, x3, hp3, hF3, hl3, hrd3, hst3⟩
 obtain ⟨B3, d3, rfl, hg3⟩ := hrd3
 replace hFr:=hFr.fr hF3
 replace hp:=hp3
 refine go ?_
 refine wk_post0 (.inr rfl) results112  ?_
 exact ⟨_, rfl, _, A3, c3, l3, b3, _, ({ seq := x1, dig := x2, batch := x3 } : Pck), ((hp.up 1 rfl).up 1 rfl), hFr, hl3, ⟨hI1, _, _, rfl, hg3⟩, StepP.bind hst1 (StepP.bind hst2 (StepP.bind hst3 (StepP.pure _ _)))⟩
set_option maxHeartbeats 40000000 in
theorem rShow1_ok {gr : Nat} {l : List UInt8} {bad : Bool} {X : List Value → It} {pX pc : Addr} (hp : HP w0 M0 Fz w (itB gr 103 [.slice A l.length c, .bool bad] :: X ([.int .i64 0, .int .i64 0, .int .i64 0, .slice none 0 0, .slice none 0 0, .slice none 0 0]) :: H)) (hS : Slot X pX 6) (hl : GS byteR Fz w A c l) (hcap : AtF Fz w pc [.iface 101 (.pointer (some ⟨gr, 0, none⟩))]) : Ret prog 110 #[.pointer (some pX), .pointer (some pc)] w (RdP 103 gr w0 M0 Fz w H X changeR changeP bad l) := by
 have hFr:=Frz.start Fz w
 refine ret_of_wk func110 rfl ntmps110 leB_ ?_
 refine go ?_
 refine Ld_ sc123 rfl hcap.head (go ?_)
 have hcl:=rChange_ok (X := X) (pX := pX) hp hS hl
 refine Cl_ cl57 rfl hcl ?_
 clear hcl
 rintro _ w1 ⟨F1, A1, c1, l1, b1, cs1, x1, hp1, hF1, hl1, hrd1, hst1⟩
 obtain ⟨hI1, A1_0, c1_0, A1_1, c1_1, A1_2, c1_2, rfl, hr1_0, hr1_1, hr1_2⟩ := hrd1
 replace hFr:=hFr.fr hF1
 replace hp:=(hp1.ay (itB gr 103 ([.slice A1 l1.length c1, .bool b1]) :: X ([iv x1.node, iv x1.view, iv x1.low, .slice A1_0 x1.marks.length c1_0, .slice A1_1 x1.p.length c1_1, .slice A1_2 x1.q.length c1_2]) :: H))
 refine go ?_
 refine wk_post0 (.inr rfl) results110  ?_
 exact ⟨_, rfl, _, A1, c1, l1, b1, _, x1, ((hp.up 1 rfl).up 1 rfl), hFr, hl1, ⟨hI1, _, _, _, _, _, _, rfl, hr1_0, hr1_1, hr1_2⟩, hst1⟩
set_option maxHeartbeats 40000000 in
theorem rShow_ok {gr : Nat} {l : List UInt8} {bad : Bool} {gn : Nat} (hp : HP w0 M0 Fz w (itB gr 103 [.slice A l.length c, .bool bad] :: itB gn 38 ([.int .i64 0, .int .i64 0, .int .i64 0, .int .i64 0, .int .i64 0, .int .i64 0] ++ (digC dig0 ++ ([.slice none 0 0, .int .i64 0, .slice none 0 0, .int .i64 0, .slice none 0 0, .int .i64 0, .int .i64 0, .int .i64 0, .int .i64 0, .int .i64 0, .slice none 0 0, .slice none 0 0, .slice none 0 0, .slice none 0 0, .slice none 0 0, .int .i64 0, .int .i64 0, .slice none 0 0, .slice none 0 0, .slice none 0 0]))) :: H)) (hl : GS byteR Fz w A c l) : Ret prog 65 #[.iface 101 (.pointer (some ⟨gr, 0, none⟩)), .pointer (some ⟨gn, 0, none⟩)] w (RdP 103 gr w0 M0 Fz w H (fun cs => itB gn 38 cs) noteR noteP bad l) := by
 have hFr:=Frz.start Fz w
 refine ret_of_wk func65 rfl ntmps65 leB_ ?_
 refine go ?_
 refine wl_hbox (by decide) rfl hp ?_
 rintro gs2 wc1 hpc1 hEc1
 replace hFr:=hFr.ext hEc1
 have q0:=hEc1
 replace hp:=hpc1
 obtain ⟨Fzc, hpc2, hsc2, hcap⟩ := (hp.as_ (H' := itB gs2 123 [.iface 101 (pt gr 0)] :: _) rfl).frzBlk
 replace hp:=hpc2
 replace hFr:=hFr.wid hsc2
 have q1:=hl.tk.ext q0
 replace q1:=q1.wid hsc2
 refine go ?_
 apply wdL [.eq _,.eq _,.eq _,.eq _,.eq _,.eq _,.eq _,.eq _,.eq _,.eq _,.eq _,.eq _,.eq _,.eq _]
 refine ⟨?_,?_,?_,?_,?_,?_,?_,?_,?_,?_,?_,?_,?_,?_,trivial⟩<;>intro F wF hER hk
 exact dm (hk.qi 1)
 exact Nc_ (hk.qe 0) qz
 exact Fd_ 0 fld38_0 (hk.qe 1) rfl qz
 exact dm (hk.qi 1)
 exact Nc_ (hk.qe 3) qz
 exact Fd_ 1 fld38_1 (hk.qe 4) rfl qz
 exact dm (hk.qi 1)
 exact Nc_ (hk.qe 6) qz
 exact Fd_ 2 fld38_2 (hk.qe 7) rfl qz
 exact dm (hk.qi 1)
 exact Nc_ (hk.qe 9) qz
 exact Fd_ 3 fld38_3 (hk.qe 10) rfl qz
 have e8:=hk.qe 2
 have e11:=hk.qe 5
 have e14:=hk.qe 8
 have e17:=hk.qe 11
 exact wl_builtS (ps := [(0, .tmp 8), (1, .tmp 11), (2, .tmp 14), (3, .tmp 17)]) (by decide) bld137 (by simp only [evp, ev, e8, e11, e14, e17]; first | done | rfl) rfl qz
 exact Mv_ rfl qz
 intro F wD hED hini hdo
 refine wk_drop [(1, _), (2, _), (18, _), (19, _)] ⟨di hini 1, di hini 2, dq hdo 12, dq hdo 13, trivial⟩ ?_
 clear hini hdo
 replace hFr:=hFr.ext hED
 replace q1:=q1.ext hED
 have q2:=hED
 replace hp:=hp.ext hED
 refine go ?_
 refine wc_unroll 5 ?_
 refine wc_unfold (go ?_)
 refine Ls_ rfl rfl ?_
 refine wl_re (k := 20) (v := .bool true) rfl (congrArg Value.bool (decide_eq_true (by decide))) (go ?_)
 refine wc_cond_t rfl (go ?_)
 refine wl_indexV (by decide) ar137 sc125 rfl rfl 0 rfl (by decide) rfl (go ?_)
 refine Ld_ sc123 rfl (hcap.ext q2).head (go ?_)
 have hqq:=hp.az (itB gr 103 [.slice A l.length c, .bool bad] :: itB gn 38 (([]) ++ (([iv 0]) ++ ([iv 0, iv 0, iv 0, iv 0, iv 0] ++ (digC dig0 ++ ([s0, iv 0, s0, iv 0, s0, iv 0, iv 0, iv 0, iv 0, iv 0, s0, s0, s0, s0, s0, iv 0, iv 0, s0, s0, s0]))))) :: H)
 have hsq:=Slot.blk (g := gn) (e := 38) (k := 1) ([]) ([iv 0, iv 0, iv 0, iv 0, iv 0] ++ (digC dig0 ++ ([s0, iv 0, s0, iv 0, s0, iv 0, iv 0, iv 0, iv 0, iv 0, s0, s0, s0, s0, s0, iv 0, iv 0, s0, s0, s0])))
 have hcl:=nNum_ok (v0 := 0) hqq hsq (hl.fr q1) (by unfold i64; omega)
 refine wl_invoke (t := 101) (name := "bastide/note.num") (f := 188) (by decide) mt188 rfl rfl hcl ?_
 clear hcl
 rintro _ w1 ⟨F1, A1, c1, l1, b1, cs1, x1, hp1, hF1, hl1, hrd1, hst1⟩
 obtain ⟨hI1, rfl⟩ := hrd1
 replace hFr:=hFr.fr hF1
 replace q1:=q1.fr hF1
 have q3:=hcap.tk.ext q2
 replace q3:=q3.fr hF1
 replace hp:=(hp1.az (itB gr 103 ([.slice A1 l1.length c1, .bool b1]) :: itB gn 38 ([iv x1, iv 0, iv 0, iv 0, iv 0, iv 0] ++ (digC dig0 ++ ([s0, iv 0, s0, iv 0, s0, iv 0, iv 0, iv 0, iv 0, iv 0, s0, s0, s0, s0, s0, iv 0, iv 0, s0, s0, s0]))) :: H))
 refine go ?_
 refine wl_add (by decide) rfl rfl (w64 (by omega) (by omega)) (gl ?_)
 refine wc_unfold (go ?_)
 refine Ls_ rfl rfl ?_
 refine wl_re (k := 20) (v := .bool true) rfl (congrArg Value.bool (decide_eq_true (by decide))) (go ?_)
 refine wc_cond_t rfl (go ?_)
 refine wl_indexV (by decide) ar137 sc125 rfl rfl 1 rfl (by decide) rfl (go ?_)
 refine Ld_ sc123 rfl (hcap.fr q3).head (go ?_)
 have hqq:=hp.az (itB gr 103 ([.slice A1 l1.length c1, .bool b1]) :: itB gn 38 (([iv x1]) ++ (([iv 0]) ++ ([iv 0, iv 0, iv 0, iv 0] ++ (digC dig0 ++ ([s0, iv 0, s0, iv 0, s0, iv 0, iv 0, iv 0, iv 0, iv 0, s0, s0, s0, s0, s0, iv 0, iv 0, s0, s0, s0]))))) :: H)
 have hsq:=Slot.blk (g := gn) (e := 38) (k := 1) ([iv x1]) ([iv 0, iv 0, iv 0, iv 0] ++ (digC dig0 ++ ([s0, iv 0, s0, iv 0, s0, iv 0, iv 0, iv 0, iv 0, iv 0, s0, s0, s0, s0, s0, iv 0, iv 0, s0, s0, s0])))
 have hcl:=nNum_ok (v0 := 0) hqq hsq hl1 (by unfold i64; omega)
 refine wl_invoke (t := 101) (name := "bastide/note.num") (f := 188) (by decide) mt188 rfl rfl hcl ?_
 clear hcl
 rintro _ w2 ⟨F2, A2, c2, l2, b2, cs2, x2, hp2, hF2, hl2, hrd2, hst2⟩
 obtain ⟨hI2, rfl⟩ := hrd2
 replace hFr:=hFr.fr hF2
 replace q3:=q3.fr hF2
 replace hp:=(hp2.az (itB gr 103 ([.slice A2 l2.length c2, .bool b2]) :: itB gn 38 ([iv x1, iv x2, iv 0, iv 0, iv 0, iv 0] ++ (digC dig0 ++ ([s0, iv 0, s0, iv 0, s0, iv 0, iv 0, iv 0, iv 0, iv 0, s0, s0, s0, s0, s0, iv 0, iv 0, s0, s0, s0]))) :: H))
 refine go ?_
 refine wl_add (by decide) rfl rfl (w64 (by omega) (by omega)) (gl ?_)
 refine wc_unfold (go ?_)
 refine Ls_ rfl rfl ?_
 refine wl_re (k := 20) (v := .bool true) rfl (congrArg Value.bool (decide_eq_true (by decide))) (go ?_)
 refine wc_cond_t rfl (go ?_)
 refine wl_indexV (by decide) ar137 sc125 rfl rfl 2 rfl (by decide) rfl (go ?_)
 refine Ld_ sc123 rfl (hcap.fr q3).head (go ?_)
 have hqq:=hp.az (itB gr 103 ([.slice A2 l2.length c2, .bool b2]) :: itB gn 38 (([iv x1, iv x2]) ++ (([iv 0]) ++ ([iv 0, iv 0, iv 0] ++ (digC dig0 ++ ([s0, iv 0, s0, iv 0, s0, iv 0, iv 0, iv 0, iv 0, iv 0, s0, s0, s0, s0, s0, iv 0, iv 0, s0, s0, s0]))))) :: H)
 have hsq:=Slot.blk (g := gn) (e := 38) (k := 1) ([iv x1, iv x2]) ([iv 0, iv 0, iv 0] ++ (digC dig0 ++ ([s0, iv 0, s0, iv 0, s0, iv 0, iv 0, iv 0, iv 0, iv 0, s0, s0, s0, s0, s0, iv 0, iv 0, s0, s0, s0])))
 have hcl:=nNum_ok (v0 := 0) hqq hsq hl2 (by unfold i64; omega)
 refine wl_invoke (t := 101) (name := "bastide/note.num") (f := 188) (by decide) mt188 rfl rfl hcl ?_
 clear hcl
 rintro _ w3 ⟨F3, A3, c3, l3, b3, cs3, x3, hp3, hF3, hl3, hrd3, hst3⟩
 obtain ⟨hI3, rfl⟩ := hrd3
 replace hFr:=hFr.fr hF3
 replace q3:=q3.fr hF3
 replace hp:=(hp3.az (itB gr 103 ([.slice A3 l3.length c3, .bool b3]) :: itB gn 38 ([iv x1, iv x2, iv x3, iv 0, iv 0, iv 0] ++ (digC dig0 ++ ([s0, iv 0, s0, iv 0, s0, iv 0, iv 0, iv 0, iv 0, iv 0, s0, s0, s0, s0, s0, iv 0, iv 0, s0, s0, s0]))) :: H))
 refine go ?_
 refine wl_add (by decide) rfl rfl (w64 (by omega) (by omega)) (gl ?_)
 refine wc_unfold (go ?_)
 refine Ls_ rfl rfl ?_
 refine wl_re (k := 20) (v := .bool true) rfl (congrArg Value.bool (decide_eq_true (by decide))) (go ?_)
 refine wc_cond_t rfl (go ?_)
 refine wl_indexV (by decide) ar137 sc125 rfl rfl 3 rfl (by decide) rfl (go ?_)
 refine Ld_ sc123 rfl (hcap.fr q3).head (go ?_)
 have hqq:=hp.az (itB gr 103 ([.slice A3 l3.length c3, .bool b3]) :: itB gn 38 (([iv x1, iv x2, iv x3]) ++ (([iv 0]) ++ ([iv 0, iv 0] ++ (digC dig0 ++ ([s0, iv 0, s0, iv 0, s0, iv 0, iv 0, iv 0, iv 0, iv 0, s0, s0, s0, s0, s0, iv 0, iv 0, s0, s0, s0]))))) :: H)
 have hsq:=Slot.blk (g := gn) (e := 38) (k := 1) ([iv x1, iv x2, iv x3]) ([iv 0, iv 0] ++ (digC dig0 ++ ([s0, iv 0, s0, iv 0, s0, iv 0, iv 0, iv 0, iv 0, iv 0, s0, s0, s0, s0, s0, iv 0, iv 0, s0, s0, s0])))
 have hcl:=nNum_ok (v0 := 0) hqq hsq hl3 (by unfold i64; omega)
 refine wl_invoke (t := 101) (name := "bastide/note.num") (f := 188) (by decide) mt188 rfl rfl hcl ?_
 clear hcl
 rintro _ w4 ⟨F4, A4, c4, l4, b4, cs4, x4, hp4, hF4, hl4, hrd4, hst4⟩
 obtain ⟨hI4, rfl⟩ := hrd4
 replace hFr:=hFr.fr hF4
 replace q3:=q3.fr hF4
 replace hp:=(hp4.az (itB gr 103 ([.slice A4 l4.length c4, .bool b4]) :: itB gn 38 ([iv x1, iv x2, iv x3, iv x4, iv 0, iv 0] ++ (digC dig0 ++ ([s0, iv 0, s0, iv 0, s0, iv 0, iv 0, iv 0, iv 0, iv 0, s0, s0, s0, s0, s0, iv 0, iv 0, s0, s0, s0]))) :: H))
 refine go ?_
 refine wl_add (by decide) rfl rfl (w64 (by omega) (by omega)) (gl ?_)
 refine wc_unfold (go ?_)
 refine Ls_ rfl rfl ?_
 refine wl_re (k := 20) (v := .bool false) rfl (congrArg Value.bool (decide_eq_false (by decide))) (go ?_)
 refine wc_cond_f rfl ?_
 refine go ?_
 refine Fd_ 0 fld38_0 rfl rfl ?_
 refine Hl_ 1 sc3 rfl hp rfl rfl (go ?_)
 refine Eq_ rfl rfl (go ?_)
 refine Cd (fun hc1 => ?_) fun hc1 => ?_
 refine go ?_
 refine Cd (fun hc2 => ?_) fun hc2 => ?_
 refine go ?_
 apply wdT 7 [.eq _,.eq _,.eq _,.eq _,.eq _,.eq _,.eq _]
 refine ⟨?_,?_,?_,?_,?_,?_,?_,trivial⟩<;>intro F wF hER hk
 exact Ld_ sc123 (hk.qi 2) ((hcap.fr q3).ext hER).head qz
 exact dm (hk.qi 1)
 exact Nc_ (hk.qe 1) qz
 exact Fd_ 38 fld38_7 (hk.qe 2) rfl qz
 have e57:=hk.qe 0
 exact wl_makeFunc (first := [.tmp 57]) (cap := []) (by decide) (by simp only [evs, ev, e57]; rfl) rfl qz
 exact wl_nilCheckM (t := 101) (by decide) mt185 (hk.qe 4) qz
 exact dm (hk.qe 0)
 intro F wD hED hini hdo
 refine wl_drop [(60, _), (63, _)] ⟨dr hdo 3, dr hdo 6, trivial⟩ ?_
 clear hini hdo
 replace hFr:=hFr.ext hED
 have q4:=hED
 replace hp:=hp.ext hED
 have hqq:=hp.az (itB gr 103 ([.slice A4 l4.length c4, .bool b4]) :: itB gn 38 (([iv x1, iv x2, iv x3, iv x4, iv 0, iv 0] ++ (digC dig0)) ++ (([s0]) ++ ([iv 0, s0, iv 0, s0, iv 0, iv 0, iv 0, iv 0, iv 0, s0, s0, s0, s0, s0, iv 0, iv 0, s0, s0, s0]))) :: H)
 have hsq:=Slot.blk (g := gn) (e := 38) (k := 1) ([iv x1, iv x2, iv x3, iv x4, iv 0, iv 0] ++ (digC dig0)) ([iv 0, s0, iv 0, s0, iv 0, iv 0, iv 0, iv 0, iv 0, s0, s0, s0, s0, s0, iv 0, iv 0, s0, s0, s0])
 have hcl:=nBatch_ok hqq hsq (hl4.ext q4)
 refine wl_invoke (t := 101) (name := "bastide/note.batch") (f := 185) (by decide) mt185 rfl rfl hcl ?_
 clear hcl
 rintro _ w5 ⟨F5, A5, c5, l5, b5, cs5, x5, hp5, hF5, hl5, hrd5, hst5⟩
 obtain ⟨B5, d5, rfl, hg5⟩ := hrd5
 replace hFr:=hFr.fr hF5
 replace hp:=(hp5.az (itB gr 103 ([.slice A5 l5.length c5, .bool b5]) :: itB gn 38 ([iv x1, iv x2, iv x3, iv x4, iv 0, iv 0] ++ (digC dig0 ++ ([.slice B5 x5.length d5, iv 0, s0, iv 0, s0, iv 0, iv 0, iv 0, iv 0, iv 0, s0, s0, s0, s0, s0, iv 0, iv 0, s0, s0, s0]))) :: H))
 refine go ?_
 refine wk_post0 (.inr rfl) results65  ?_
 have hbd : StepP noteP (rst bad l) (rst b5 l5) ({ note0 with kind := x1, from_ := x2, group := x3, epoch := x4, batch := x5 } : Nte) := by
   refine StepP.bind hst1 (StepP.bind hst2 (StepP.bind hst3 (StepP.bind hst4 ?_)))
   unfold bodyP
   repeat (first | rw [if_neg (by omega)] | rw [if_pos (by omega)])
   exact StepP.bind hst5 (StepP.pure _ _)
 exact ⟨_, rfl, _, A5, c5, l5, b5, _, ({ note0 with kind := x1, from_ := x2, group := x3, epoch := x4, batch := x5 } : Nte), ((hp.up 1 rfl).up 1 rfl), hFr, hl5, ⟨⟨hI1, hI2, hI3, hI4, i0, i0, i0, i0, i0, i0, i0, i0, i0, i0, i0⟩, _, _, _, _, _, _, _, _, _, _, _, _, _, _, _, _, _, _, _, _, _, _, rfl, hg5, gsn, gsn, gsn, gsn, gsn, gsn, gsn, gsn, gsn, gsn⟩, hbd⟩
 exact absurd hc1 hc2
 refine go ?_
 refine Eq_ rfl rfl (go ?_)
 refine Cd (fun hc3 => ?_) fun hc3 => ?_
 refine go ?_
 refine Cd (fun hc4 => ?_) fun hc4 => ?_
 refine go ?_
 apply wdT 7 [.eq _,.eq _,.eq _,.eq _,.eq _,.eq _,.eq _]
 refine ⟨?_,?_,?_,?_,?_,?_,?_,trivial⟩<;>intro F wF hER hk
 exact Ld_ sc123 (hk.qi 2) ((hcap.fr q3).ext hER).head qz
 exact dm (hk.qi 1)
 exact Nc_ (hk.qe 1) qz
 exact Fd_ 38 fld38_7 (hk.qe 2) rfl qz
 have e57:=hk.qe 0
 exact wl_makeFunc (first := [.tmp 57]) (cap := []) (by decide) (by simp only [evs, ev, e57]; rfl) rfl qz
 exact wl_nilCheckM (t := 101) (by decide) mt185 (hk.qe 4) qz
 exact dm (hk.qe 0)
 intro F wD hED hini hdo
 refine wl_drop [(60, _), (63, _)] ⟨dr hdo 3, dr hdo 6, trivial⟩ ?_
 clear hini hdo
 replace hFr:=hFr.ext hED
 have q5:=hED
 replace hp:=hp.ext hED
 have hqq:=hp.az (itB gr 103 ([.slice A4 l4.length c4, .bool b4]) :: itB gn 38 (([iv x1, iv x2, iv x3, iv x4, iv 0, iv 0] ++ (digC dig0)) ++ (([s0]) ++ ([iv 0, s0, iv 0, s0, iv 0, iv 0, iv 0, iv 0, iv 0, s0, s0, s0, s0, s0, iv 0, iv 0, s0, s0, s0]))) :: H)
 have hsq:=Slot.blk (g := gn) (e := 38) (k := 1) ([iv x1, iv x2, iv x3, iv x4, iv 0, iv 0] ++ (digC dig0)) ([iv 0, s0, iv 0, s0, iv 0, iv 0, iv 0, iv 0, iv 0, s0, s0, s0, s0, s0, iv 0, iv 0, s0, s0, s0])
 have hcl:=nBatch_ok hqq hsq (hl4.ext q5)
 refine wl_invoke (t := 101) (name := "bastide/note.batch") (f := 185) (by decide) mt185 rfl rfl hcl ?_
 clear hcl
 rintro _ w6 ⟨F6, A6, c6, l6, b6, cs6, x6, hp6, hF6, hl6, hrd6, hst6⟩
 obtain ⟨B6, d6, rfl, hg6⟩ := hrd6
 replace hFr:=hFr.fr hF6
 replace hp:=(hp6.az (itB gr 103 ([.slice A6 l6.length c6, .bool b6]) :: itB gn 38 ([iv x1, iv x2, iv x3, iv x4, iv 0, iv 0] ++ (digC dig0 ++ ([.slice B6 x6.length d6, iv 0, s0, iv 0, s0, iv 0, iv 0, iv 0, iv 0, iv 0, s0, s0, s0, s0, s0, iv 0, iv 0, s0, s0, s0]))) :: H))
 refine go ?_
 refine wk_post0 (.inr rfl) results65  ?_
 have hbd : StepP noteP (rst bad l) (rst b6 l6) ({ note0 with kind := x1, from_ := x2, group := x3, epoch := x4, batch := x6 } : Nte) := by
   refine StepP.bind hst1 (StepP.bind hst2 (StepP.bind hst3 (StepP.bind hst4 ?_)))
   unfold bodyP
   repeat (first | rw [if_neg (by omega)] | rw [if_pos (by omega)])
   exact StepP.bind hst6 (StepP.pure _ _)
 exact ⟨_, rfl, _, A6, c6, l6, b6, _, ({ note0 with kind := x1, from_ := x2, group := x3, epoch := x4, batch := x6 } : Nte), ((hp.up 1 rfl).up 1 rfl), hFr, hl6, ⟨⟨hI1, hI2, hI3, hI4, i0, i0, i0, i0, i0, i0, i0, i0, i0, i0, i0⟩, _, _, _, _, _, _, _, _, _, _, _, _, _, _, _, _, _, _, _, _, _, _, rfl, hg6, gsn, gsn, gsn, gsn, gsn, gsn, gsn, gsn, gsn, gsn⟩, hbd⟩
 exact absurd hc3 hc4
 refine go ?_
 refine Eq_ rfl rfl (go ?_)
 refine Cd (fun hc5 => ?_) fun hc5 => ?_
 refine go ?_
 apply wdT 7 [.eq _,.eq _,.eq _,.eq _,.eq _,.eq _,.eq _]
 refine ⟨?_,?_,?_,?_,?_,?_,?_,trivial⟩<;>intro F wF hER hk
 exact Ld_ sc123 (hk.qi 2) ((hcap.fr q3).ext hER).head qz
 exact dm (hk.qi 1)
 exact Nc_ (hk.qe 1) qz
 exact Fd_ 38 fld38_7 (hk.qe 2) rfl qz
 have e57:=hk.qe 0
 exact wl_makeFunc (first := [.tmp 57]) (cap := []) (by decide) (by simp only [evs, ev, e57]; rfl) rfl qz
 exact wl_nilCheckM (t := 101) (by decide) mt185 (hk.qe 4) qz
 exact dm (hk.qe 0)
 intro F wD hED hini hdo
 refine wl_drop [(60, _), (63, _)] ⟨dr hdo 3, dr hdo 6, trivial⟩ ?_
 clear hini hdo
 replace hFr:=hFr.ext hED
 have q6:=hED
 replace hp:=hp.ext hED
 have hqq:=hp.az (itB gr 103 ([.slice A4 l4.length c4, .bool b4]) :: itB gn 38 (([iv x1, iv x2, iv x3, iv x4, iv 0, iv 0] ++ (digC dig0)) ++ (([s0]) ++ ([iv 0, s0, iv 0, s0, iv 0, iv 0, iv 0, iv 0, iv 0, s0, s0, s0, s0, s0, iv 0, iv 0, s0, s0, s0]))) :: H)
 have hsq:=Slot.blk (g := gn) (e := 38) (k := 1) ([iv x1, iv x2, iv x3, iv x4, iv 0, iv 0] ++ (digC dig0)) ([iv 0, s0, iv 0, s0, iv 0, iv 0, iv 0, iv 0, iv 0, s0, s0, s0, s0, s0, iv 0, iv 0, s0, s0, s0])
 have hcl:=nBatch_ok hqq hsq (hl4.ext q6)
 refine wl_invoke (t := 101) (name := "bastide/note.batch") (f := 185) (by decide) mt185 rfl rfl hcl ?_
 clear hcl
 rintro _ w7 ⟨F7, A7, c7, l7, b7, cs7, x7, hp7, hF7, hl7, hrd7, hst7⟩
 obtain ⟨B7, d7, rfl, hg7⟩ := hrd7
 replace hFr:=hFr.fr hF7
 replace hp:=(hp7.az (itB gr 103 ([.slice A7 l7.length c7, .bool b7]) :: itB gn 38 ([iv x1, iv x2, iv x3, iv x4, iv 0, iv 0] ++ (digC dig0 ++ ([.slice B7 x7.length d7, iv 0, s0, iv 0, s0, iv 0, iv 0, iv 0, iv 0, iv 0, s0, s0, s0, s0, s0, iv 0, iv 0, s0, s0, s0]))) :: H))
 refine go ?_
 refine wk_post0 (.inr rfl) results65  ?_
 have hbd : StepP noteP (rst bad l) (rst b7 l7) ({ note0 with kind := x1, from_ := x2, group := x3, epoch := x4, batch := x7 } : Nte) := by
   refine StepP.bind hst1 (StepP.bind hst2 (StepP.bind hst3 (StepP.bind hst4 ?_)))
   unfold bodyP
   repeat (first | rw [if_neg (by omega)] | rw [if_pos (by omega)])
   exact StepP.bind hst7 (StepP.pure _ _)
 exact ⟨_, rfl, _, A7, c7, l7, b7, _, ({ note0 with kind := x1, from_ := x2, group := x3, epoch := x4, batch := x7 } : Nte), ((hp.up 1 rfl).up 1 rfl), hFr, hl7, ⟨⟨hI1, hI2, hI3, hI4, i0, i0, i0, i0, i0, i0, i0, i0, i0, i0, i0⟩, _, _, _, _, _, _, _, _, _, _, _, _, _, _, _, _, _, _, _, _, _, _, rfl, hg7, gsn, gsn, gsn, gsn, gsn, gsn, gsn, gsn, gsn, gsn⟩, hbd⟩
 refine go ?_
 refine Eq_ rfl rfl (go ?_)
 refine Cd (fun hc6 => ?_) fun hc6 => ?_
 refine go ?_
 apply wdT 7 [.eq _,.eq _,.eq _,.eq _,.eq _,.eq _,.eq _]
 refine ⟨?_,?_,?_,?_,?_,?_,?_,trivial⟩<;>intro F wF hER hk
 exact Ld_ sc123 (hk.qi 2) ((hcap.fr q3).ext hER).head qz
 exact dm (hk.qi 1)
 exact Nc_ (hk.qe 1) qz
 exact Fd_ 44 fld38_10 (hk.qe 2) rfl qz
 have e65:=hk.qe 0
 exact wl_makeFunc (first := [.tmp 65]) (cap := []) (by decide) (by simp only [evs, ev, e65]; rfl) rfl qz
 exact wl_nilCheckM (t := 101) (by decide) mt188 (hk.qe 4) qz
 exact dm (hk.qe 0)
 intro F wD hED hini hdo
 refine wl_drop [(1, _), (2, _), (68, _), (71, _)] ⟨di hini 1, di hini 2, dr hdo 3, dr hdo 6, trivial⟩ ?_
 clear hini hdo
 replace hFr:=hFr.ext hED
 replace q3:=q3.ext hED
 have q7:=hED
 replace hp:=hp.ext hED
 have hqq:=hp.az (itB gr 103 ([.slice A4 l4.length c4, .bool b4]) :: itB gn 38 (([iv x1, iv x2, iv x3, iv x4, iv 0, iv 0] ++ (digC dig0 ++ ([s0, iv 0, s0, iv 0, s0, iv 0]))) ++ (([iv 0]) ++ ([iv 0, iv 0, iv 0, s0, s0, s0, s0, s0, iv 0, iv 0, s0, s0, s0]))) :: H)
 have hsq:=Slot.blk (g := gn) (e := 38) (k := 1) ([iv x1, iv x2, iv x3, iv x4, iv 0, iv 0] ++ (digC dig0 ++ ([s0, iv 0, s0, iv 0, s0, iv 0]))) ([iv 0, iv 0, iv 0, s0, s0, s0, s0, s0, iv 0, iv 0, s0, s0, s0])
 have hcl:=nNum_ok (v0 := 0) hqq hsq (hl4.ext q7) (by unfold i64; omega)
 refine wl_invoke (t := 101) (name := "bastide/note.num") (f := 188) (by decide) mt188 rfl rfl hcl ?_
 clear hcl
 rintro _ w8 ⟨F8, A8, c8, l8, b8, cs8, x8, hp8, hF8, hl8, hrd8, hst8⟩
 obtain ⟨hI8, rfl⟩ := hrd8
 replace hFr:=hFr.fr hF8
 replace q3:=q3.fr hF8
 replace hp:=(hp8.az (itB gr 103 ([.slice A8 l8.length c8, .bool b8]) :: itB gn 38 ([iv x1, iv x2, iv x3, iv x4, iv 0, iv 0] ++ (digC dig0 ++ ([s0, iv 0, s0, iv 0, s0, iv 0, iv x8, iv 0, iv 0, iv 0, s0, s0, s0, s0, s0, iv 0, iv 0, s0, s0, s0]))) :: H))
 refine go ?_
 apply wdT 7 [.eq _,.eq _,.eq _,.eq _,.eq _,.eq _,.eq _]
 refine ⟨?_,?_,?_,?_,?_,?_,?_,trivial⟩<;>intro F wF hER hk
 exact Ld_ sc123 (hk.qi 2) ((hcap.fr q3).ext hER).head qz
 exact dm (hk.qi 1)
 exact Nc_ (hk.qe 1) qz
 exact Fd_ 43 fld38_9 (hk.qe 2) rfl qz
 have e73:=hk.qe 0
 exact wl_makeFunc (first := [.tmp 73]) (cap := []) (by decide) (by simp only [evs, ev, e73]; rfl) rfl qz
 exact wl_nilCheckM (t := 101) (by decide) mt188 (hk.qe 4) qz
 exact dm (hk.qe 0)
 intro F wD hED hini hdo
 refine wl_drop [(1, _), (2, _), (76, _), (79, _)] ⟨di hini 1, di hini 2, dr hdo 3, dr hdo 6, trivial⟩ ?_
 clear hini hdo
 replace hFr:=hFr.ext hED
 replace q3:=q3.ext hED
 have q8:=hED
 replace hp:=hp.ext hED
 have hqq:=hp.az (itB gr 103 ([.slice A8 l8.length c8, .bool b8]) :: itB gn 38 (([iv x1, iv x2, iv x3, iv x4, iv 0, iv 0] ++ (digC dig0 ++ ([s0, iv 0, s0, iv 0, s0]))) ++ (([iv 0]) ++ ([iv x8, iv 0, iv 0, iv 0, s0, s0, s0, s0, s0, iv 0, iv 0, s0, s0, s0]))) :: H)
 have hsq:=Slot.blk (g := gn) (e := 38) (k := 1) ([iv x1, iv x2, iv x3, iv x4, iv 0, iv 0] ++ (digC dig0 ++ ([s0, iv 0, s0, iv 0, s0]))) ([iv x8, iv 0, iv 0, iv 0, s0, s0, s0, s0, s0, iv 0, iv 0, s0, s0, s0])
 have hcl:=nNum_ok (v0 := 0) hqq hsq (hl8.ext q8) (by unfold i64; omega)
 refine wl_invoke (t := 101) (name := "bastide/note.num") (f := 188) (by decide) mt188 rfl rfl hcl ?_
 clear hcl
 rintro _ w9 ⟨F9, A9, c9, l9, b9, cs9, x9, hp9, hF9, hl9, hrd9, hst9⟩
 obtain ⟨hI9, rfl⟩ := hrd9
 replace hFr:=hFr.fr hF9
 replace q3:=q3.fr hF9
 replace hp:=(hp9.az (itB gr 103 ([.slice A9 l9.length c9, .bool b9]) :: itB gn 38 ([iv x1, iv x2, iv x3, iv x4, iv 0, iv 0] ++ (digC dig0 ++ ([s0, iv 0, s0, iv 0, s0, iv x9, iv x8, iv 0, iv 0, iv 0, s0, s0, s0, s0, s0, iv 0, iv 0, s0, s0, s0]))) :: H))
 refine go ?_
 apply wdT 4 [.eq _,.eq _,.eq _,.eq _]
 refine ⟨?_,?_,?_,?_,trivial⟩<;>intro F wF hER hk
 exact Ld_ sc123 (hk.qi 2) ((hcap.fr q3).ext hER).head qz
 exact dm (hk.qi 1)
 exact Nc_ (hk.qe 1) qz
 exact Fd_ 39 fld38_8 (hk.qe 2) rfl qz
 intro F wD hED hini hdo
 refine wl_drop [(81, _), (84, _)] ⟨dr hdo 0, dr hdo 3, trivial⟩ ?_
 clear hini hdo
 replace hFr:=hFr.ext hED
 have q9:=hED
 replace hp:=hp.ext hED
 have hqq:=hp.az (itB gr 103 ([.slice A9 l9.length c9, .bool b9]) :: itB gn 38 (([iv x1, iv x2, iv x3, iv x4, iv 0, iv 0] ++ (digC dig0 ++ ([s0]))) ++ (([iv 0, s0, iv 0, s0]) ++ ([iv x9, iv x8, iv 0, iv 0, iv 0, s0, s0, s0, s0, s0, iv 0, iv 0, s0, s0, s0]))) :: H)
 have hsq:=Slot.blk (g := gn) (e := 38) (k := 4) ([iv x1, iv x2, iv x3, iv x4, iv 0, iv 0] ++ (digC dig0 ++ ([s0]))) ([iv x9, iv x8, iv 0, iv 0, iv 0, s0, s0, s0, s0, s0, iv 0, iv 0, s0, s0, s0])
 have hcl:=rAnswer_ok hqq hsq (hl9.ext q9)
 refine Cl_ cl108 rfl hcl ?_
 clear hcl
 rintro _ w10 ⟨F10, A10, c10, l10, b10, cs10, x10, hp10, hF10, hl10, hrd10, hst10⟩
 obtain ⟨hI10, A10_0, c10_0, A10_1, c10_1, rfl, hr10_0, hr10_1⟩ := hrd10
 replace hFr:=hFr.fr hF10
 replace hp:=(hp10.az (itB gr 103 ([.slice A10 l10.length c10, .bool b10]) :: itB gn 38 ([iv x1, iv x2, iv x3, iv x4, iv 0, iv 0] ++ (digC dig0 ++ ([s0, iv x10.err, .slice A10_0 x10.data.length c10_0, iv x10.epoch, .slice A10_1 x10.nodes.length c10_1, iv x9, iv x8, iv 0, iv 0, iv 0, s0, s0, s0, s0, s0, iv 0, iv 0, s0, s0, s0]))) :: H))
 refine go ?_
 refine wk_post0 (.inr rfl) results65  ?_
 have hbd : StepP noteP (rst bad l) (rst b10 l10) ({ note0 with kind := x1, from_ := x2, group := x3, epoch := x4, ans.err := x10.err, ans.data := x10.data, ans.epoch := x10.epoch, ans.nodes := x10.nodes, stamp := x9, node := x8 } : Nte) := by
   refine StepP.bind hst1 (StepP.bind hst2 (StepP.bind hst3 (StepP.bind hst4 ?_)))
   unfold bodyP
   repeat (first | rw [if_neg (by omega)] | rw [if_pos (by omega)])
   exact StepP.bind hst8 (StepP.bind hst9 (StepP.bind hst10 (StepP.pure _ _)))
 exact ⟨_, rfl, _, A10, c10, l10, b10, _, ({ note0 with kind := x1, from_ := x2, group := x3, epoch := x4, ans.err := x10.err, ans.data := x10.data, ans.epoch := x10.epoch, ans.nodes := x10.nodes, stamp := x9, node := x8 } : Nte), ((hp.up 1 rfl).up 1 rfl), hFr, hl10, ⟨⟨hI1, hI2, hI3, hI4, i0, i0, hI10.1, hI10.2, hI9, hI8, i0, i0, i0, i0, i0⟩, _, _, _, _, _, _, _, _, _, _, _, _, _, _, _, _, _, _, _, _, _, _, rfl, gsn, hr10_0, hr10_1, gsn, gsn, gsn, gsn, gsn, gsn, gsn, gsn⟩, hbd⟩
 refine go ?_
 refine Eq_ rfl rfl (go ?_)
 refine Cd (fun hc7 => ?_) fun hc7 => ?_
 refine go ?_
 apply wdT 7 [.eq _,.eq _,.eq _,.eq _,.eq _,.eq _,.eq _]
 refine ⟨?_,?_,?_,?_,?_,?_,?_,trivial⟩<;>intro F wF hER hk
 exact Ld_ sc123 (hk.qi 2) ((hcap.fr q3).ext hER).head qz
 exact dm (hk.qi 1)
 exact Nc_ (hk.qe 1) qz
 exact Fd_ 4 fld38_4 (hk.qe 2) rfl qz
 have e86:=hk.qe 0
 exact wl_makeFunc (first := [.tmp 86]) (cap := []) (by decide) (by simp only [evs, ev, e86]; rfl) rfl qz
 exact wl_nilCheckM (t := 101) (by decide) mt188 (hk.qe 4) qz
 exact dm (hk.qe 0)
 intro F wD hED hini hdo
 refine wl_drop [(1, _), (2, _), (89, _), (92, _)] ⟨di hini 1, di hini 2, dr hdo 3, dr hdo 6, trivial⟩ ?_
 clear hini hdo
 replace hFr:=hFr.ext hED
 replace q3:=q3.ext hED
 have q10:=hED
 replace hp:=hp.ext hED
 have hqq:=hp.az (itB gr 103 ([.slice A4 l4.length c4, .bool b4]) :: itB gn 38 (([iv x1, iv x2, iv x3, iv x4]) ++ (([iv 0]) ++ ([iv 0] ++ (digC dig0 ++ ([s0, iv 0, s0, iv 0, s0, iv 0, iv 0, iv 0, iv 0, iv 0, s0, s0, s0, s0, s0, iv 0, iv 0, s0, s0, s0]))))) :: H)
 have hsq:=Slot.blk (g := gn) (e := 38) (k := 1) ([iv x1, iv x2, iv x3, iv x4]) ([iv 0] ++ (digC dig0 ++ ([s0, iv 0, s0, iv 0, s0, iv 0, iv 0, iv 0, iv 0, iv 0, s0, s0, s0, s0, s0, iv 0, iv 0, s0, s0, s0])))
 have hcl:=nNum_ok (v0 := 0) hqq hsq (hl4.ext q10) (by unfold i64; omega)
 refine wl_invoke (t := 101) (name := "bastide/note.num") (f := 188) (by decide) mt188 rfl rfl hcl ?_
 clear hcl
 rintro _ w11 ⟨F11, A11, c11, l11, b11, cs11, x11, hp11, hF11, hl11, hrd11, hst11⟩
 obtain ⟨hI11, rfl⟩ := hrd11
 replace hFr:=hFr.fr hF11
 replace q3:=q3.fr hF11
 replace hp:=(hp11.az (itB gr 103 ([.slice A11 l11.length c11, .bool b11]) :: itB gn 38 ([iv x1, iv x2, iv x3, iv x4, iv x11, iv 0] ++ (digC dig0 ++ ([s0, iv 0, s0, iv 0, s0, iv 0, iv 0, iv 0, iv 0, iv 0, s0, s0, s0, s0, s0, iv 0, iv 0, s0, s0, s0]))) :: H))
 refine go ?_
 apply wdT 7 [.eq _,.eq _,.eq _,.eq _,.eq _,.eq _,.eq _]
 refine ⟨?_,?_,?_,?_,?_,?_,?_,trivial⟩<;>intro F wF hER hk
 exact Ld_ sc123 (hk.qi 2) ((hcap.fr q3).ext hER).head qz
 exact dm (hk.qi 1)
 exact Nc_ (hk.qe 1) qz
 exact Fd_ 5 fld38_5 (hk.qe 2) rfl qz
 have e94:=hk.qe 0
 exact wl_makeFunc (first := [.tmp 94]) (cap := []) (by decide) (by simp only [evs, ev, e94]; rfl) rfl qz
 exact wl_nilCheckM (t := 101) (by decide) mt188 (hk.qe 4) qz
 exact dm (hk.qe 0)
 intro F wD hED hini hdo
 refine wl_drop [(1, _), (2, _), (97, _), (100, _)] ⟨di hini 1, di hini 2, dr hdo 3, dr hdo 6, trivial⟩ ?_
 clear hini hdo
 replace hFr:=hFr.ext hED
 replace q3:=q3.ext hED
 have q11:=hED
 replace hp:=hp.ext hED
 have hqq:=hp.az (itB gr 103 ([.slice A11 l11.length c11, .bool b11]) :: itB gn 38 (([iv x1, iv x2, iv x3, iv x4, iv x11]) ++ (([iv 0]) ++ (digC dig0 ++ ([s0, iv 0, s0, iv 0, s0, iv 0, iv 0, iv 0, iv 0, iv 0, s0, s0, s0, s0, s0, iv 0, iv 0, s0, s0, s0])))) :: H)
 have hsq:=Slot.blk (g := gn) (e := 38) (k := 1) ([iv x1, iv x2, iv x3, iv x4, iv x11]) (digC dig0 ++ ([s0, iv 0, s0, iv 0, s0, iv 0, iv 0, iv 0, iv 0, iv 0, s0, s0, s0, s0, s0, iv 0, iv 0, s0, s0, s0]))
 have hcl:=nNum_ok (v0 := 0) hqq hsq (hl11.ext q11) (by unfold i64; omega)
 refine wl_invoke (t := 101) (name := "bastide/note.num") (f := 188) (by decide) mt188 rfl rfl hcl ?_
 clear hcl
 rintro _ w12 ⟨F12, A12, c12, l12, b12, cs12, x12, hp12, hF12, hl12, hrd12, hst12⟩
 obtain ⟨hI12, rfl⟩ := hrd12
 replace hFr:=hFr.fr hF12
 replace q3:=q3.fr hF12
 replace hp:=(hp12.az (itB gr 103 ([.slice A12 l12.length c12, .bool b12]) :: itB gn 38 ([iv x1, iv x2, iv x3, iv x4, iv x11, iv x12] ++ (digC dig0 ++ ([s0, iv 0, s0, iv 0, s0, iv 0, iv 0, iv 0, iv 0, iv 0, s0, s0, s0, s0, s0, iv 0, iv 0, s0, s0, s0]))) :: H))
 refine go ?_
 apply wdT 7 [.eq _,.eq _,.eq _,.eq _,.eq _,.eq _,.eq _]
 refine ⟨?_,?_,?_,?_,?_,?_,?_,trivial⟩<;>intro F wF hER hk
 exact Ld_ sc123 (hk.qi 2) ((hcap.fr q3).ext hER).head qz
 exact dm (hk.qi 1)
 exact Nc_ (hk.qe 1) qz
 exact Fd_ 38 fld38_7 (hk.qe 2) rfl qz
 have e102:=hk.qe 0
 exact wl_makeFunc (first := [.tmp 102]) (cap := []) (by decide) (by simp only [evs, ev, e102]; rfl) rfl qz
 exact wl_nilCheckM (t := 101) (by decide) mt185 (hk.qe 4) qz
 exact dm (hk.qe 0)
 intro F wD hED hini hdo
 refine wl_drop [(105, _), (108, _)] ⟨dr hdo 3, dr hdo 6, trivial⟩ ?_
 clear hini hdo
 replace hFr:=hFr.ext hED
 have q12:=hED
 replace hp:=hp.ext hED
 have hqq:=hp.az (itB gr 103 ([.slice A12 l12.length c12, .bool b12]) :: itB gn 38 (([iv x1, iv x2, iv x3, iv x4, iv x11, iv x12] ++ (digC dig0)) ++ (([s0]) ++ ([iv 0, s0, iv 0, s0, iv 0, iv 0, iv 0, iv 0, iv 0, s0, s0, s0, s0, s0, iv 0, iv 0, s0, s0, s0]))) :: H)
 have hsq:=Slot.blk (g := gn) (e := 38) (k := 1) ([iv x1, iv x2, iv x3, iv x4, iv x11, iv x12] ++ (digC dig0)) ([iv 0, s0, iv 0, s0, iv 0, iv 0, iv 0, iv 0, iv 0, s0, s0, s0, s0, s0, iv 0, iv 0, s0, s0, s0])
 have hcl:=nBatch_ok hqq hsq (hl12.ext q12)
 refine wl_invoke (t := 101) (name := "bastide/note.batch") (f := 185) (by decide) mt185 rfl rfl hcl ?_
 clear hcl
 rintro _ w13 ⟨F13, A13, c13, l13, b13, cs13, x13, hp13, hF13, hl13, hrd13, hst13⟩
 obtain ⟨B13, d13, rfl, hg13⟩ := hrd13
 replace hFr:=hFr.fr hF13
 replace hp:=(hp13.az (itB gr 103 ([.slice A13 l13.length c13, .bool b13]) :: itB gn 38 ([iv x1, iv x2, iv x3, iv x4, iv x11, iv x12] ++ (digC dig0 ++ ([.slice B13 x13.length d13, iv 0, s0, iv 0, s0, iv 0, iv 0, iv 0, iv 0, iv 0, s0, s0, s0, s0, s0, iv 0, iv 0, s0, s0, s0]))) :: H))
 refine go ?_
 refine wk_post0 (.inr rfl) results65  ?_
 have hbd : StepP noteP (rst bad l) (rst b13 l13) ({ note0 with kind := x1, from_ := x2, group := x3, epoch := x4, view := x11, seq := x12, batch := x13 } : Nte) := by
   refine StepP.bind hst1 (StepP.bind hst2 (StepP.bind hst3 (StepP.bind hst4 ?_)))
   unfold bodyP
   repeat (first | rw [if_neg (by omega)] | rw [if_pos (by omega)])
   exact StepP.bind hst11 (StepP.bind hst12 (StepP.bind hst13 (StepP.pure _ _)))
 exact ⟨_, rfl, _, A13, c13, l13, b13, _, ({ note0 with kind := x1, from_ := x2, group := x3, epoch := x4, view := x11, seq := x12, batch := x13 } : Nte), ((hp.up 1 rfl).up 1 rfl), hFr, hl13, ⟨⟨hI1, hI2, hI3, hI4, hI11, hI12, i0, i0, i0, i0, i0, i0, i0, i0, i0⟩, _, _, _, _, _, _, _, _, _, _, _, _, _, _, _, _, _, _, _, _, _, _, rfl, hg13, gsn, gsn, gsn, gsn, gsn, gsn, gsn, gsn, gsn, gsn⟩, hbd⟩
 refine go ?_
 refine Eq_ rfl rfl (go ?_)
 refine Cd (fun hc8 => ?_) fun hc8 => ?_
 refine go ?_
 refine Cd (fun hc9 => ?_) fun hc9 => ?_
 refine go ?_
 apply wdT 7 [.eq _,.eq _,.eq _,.eq _,.eq _,.eq _,.eq _]
 refine ⟨?_,?_,?_,?_,?_,?_,?_,trivial⟩<;>intro F wF hER hk
 exact Ld_ sc123 (hk.qi 2) ((hcap.fr q3).ext hER).head qz
 exact dm (hk.qi 1)
 exact Nc_ (hk.qe 1) qz
 exact Fd_ 4 fld38_4 (hk.qe 2) rfl qz
 have e110:=hk.qe 0
 exact wl_makeFunc (first := [.tmp 110]) (cap := []) (by decide) (by simp only [evs, ev, e110]; rfl) rfl qz
 exact wl_nilCheckM (t := 101) (by decide) mt188 (hk.qe 4) qz
 exact dm (hk.qe 0)
 intro F wD hED hini hdo
 refine wl_drop [(1, _), (2, _), (113, _), (116, _)] ⟨di hini 1, di hini 2, dr hdo 3, dr hdo 6, trivial⟩ ?_
 clear hini hdo
 replace hFr:=hFr.ext hED
 replace q3:=q3.ext hED
 have q13:=hED
 replace hp:=hp.ext hED
 have hqq:=hp.az (itB gr 103 ([.slice A4 l4.length c4, .bool b4]) :: itB gn 38 (([iv x1, iv x2, iv x3, iv x4]) ++ (([iv 0]) ++ ([iv 0] ++ (digC dig0 ++ ([s0, iv 0, s0, iv 0, s0, iv 0, iv 0, iv 0, iv 0, iv 0, s0, s0, s0, s0, s0, iv 0, iv 0, s0, s0, s0]))))) :: H)
 have hsq:=Slot.blk (g := gn) (e := 38) (k := 1) ([iv x1, iv x2, iv x3, iv x4]) ([iv 0] ++ (digC dig0 ++ ([s0, iv 0, s0, iv 0, s0, iv 0, iv 0, iv 0, iv 0, iv 0, s0, s0, s0, s0, s0, iv 0, iv 0, s0, s0, s0])))
 have hcl:=nNum_ok (v0 := 0) hqq hsq (hl4.ext q13) (by unfold i64; omega)
 refine wl_invoke (t := 101) (name := "bastide/note.num") (f := 188) (by decide) mt188 rfl rfl hcl ?_
 clear hcl
 rintro _ w14 ⟨F14, A14, c14, l14, b14, cs14, x14, hp14, hF14, hl14, hrd14, hst14⟩
 obtain ⟨hI14, rfl⟩ := hrd14
 replace hFr:=hFr.fr hF14
 replace q3:=q3.fr hF14
 replace hp:=(hp14.az (itB gr 103 ([.slice A14 l14.length c14, .bool b14]) :: itB gn 38 ([iv x1, iv x2, iv x3, iv x4, iv x14, iv 0] ++ (digC dig0 ++ ([s0, iv 0, s0, iv 0, s0, iv 0, iv 0, iv 0, iv 0, iv 0, s0, s0, s0, s0, s0, iv 0, iv 0, s0, s0, s0]))) :: H))
 refine go ?_
 apply wdT 7 [.eq _,.eq _,.eq _,.eq _,.eq _,.eq _,.eq _]
 refine ⟨?_,?_,?_,?_,?_,?_,?_,trivial⟩<;>intro F wF hER hk
 exact Ld_ sc123 (hk.qi 2) ((hcap.fr q3).ext hER).head qz
 exact dm (hk.qi 1)
 exact Nc_ (hk.qe 1) qz
 exact Fd_ 5 fld38_5 (hk.qe 2) rfl qz
 have e118:=hk.qe 0
 exact wl_makeFunc (first := [.tmp 118]) (cap := []) (by decide) (by simp only [evs, ev, e118]; rfl) rfl qz
 exact wl_nilCheckM (t := 101) (by decide) mt188 (hk.qe 4) qz
 exact dm (hk.qe 0)
 intro F wD hED hini hdo
 refine wl_drop [(1, _), (2, _), (121, _), (124, _)] ⟨di hini 1, di hini 2, dr hdo 3, dr hdo 6, trivial⟩ ?_
 clear hini hdo
 replace hFr:=hFr.ext hED
 replace q3:=q3.ext hED
 have q14:=hED
 replace hp:=hp.ext hED
 have hqq:=hp.az (itB gr 103 ([.slice A14 l14.length c14, .bool b14]) :: itB gn 38 (([iv x1, iv x2, iv x3, iv x4, iv x14]) ++ (([iv 0]) ++ (digC dig0 ++ ([s0, iv 0, s0, iv 0, s0, iv 0, iv 0, iv 0, iv 0, iv 0, s0, s0, s0, s0, s0, iv 0, iv 0, s0, s0, s0])))) :: H)
 have hsq:=Slot.blk (g := gn) (e := 38) (k := 1) ([iv x1, iv x2, iv x3, iv x4, iv x14]) (digC dig0 ++ ([s0, iv 0, s0, iv 0, s0, iv 0, iv 0, iv 0, iv 0, iv 0, s0, s0, s0, s0, s0, iv 0, iv 0, s0, s0, s0]))
 have hcl:=nNum_ok (v0 := 0) hqq hsq (hl14.ext q14) (by unfold i64; omega)
 refine wl_invoke (t := 101) (name := "bastide/note.num") (f := 188) (by decide) mt188 rfl rfl hcl ?_
 clear hcl
 rintro _ w15 ⟨F15, A15, c15, l15, b15, cs15, x15, hp15, hF15, hl15, hrd15, hst15⟩
 obtain ⟨hI15, rfl⟩ := hrd15
 replace hFr:=hFr.fr hF15
 replace q3:=q3.fr hF15
 replace hp:=(hp15.az (itB gr 103 ([.slice A15 l15.length c15, .bool b15]) :: itB gn 38 ([iv x1, iv x2, iv x3, iv x4, iv x14, iv x15] ++ (digC dig0 ++ ([s0, iv 0, s0, iv 0, s0, iv 0, iv 0, iv 0, iv 0, iv 0, s0, s0, s0, s0, s0, iv 0, iv 0, s0, s0, s0]))) :: H))
 refine go ?_
 apply wdT 7 [.eq _,.eq _,.eq _,.eq _,.eq _,.eq _,.eq _]
 refine ⟨?_,?_,?_,?_,?_,?_,?_,trivial⟩<;>intro F wF hER hk
 exact Ld_ sc123 (hk.qi 2) ((hcap.fr q3).ext hER).head qz
 exact dm (hk.qi 1)
 exact Nc_ (hk.qe 1) qz
 exact Fd_ 6 fld38_6 (hk.qe 2) rfl qz
 have e126:=hk.qe 0
 exact wl_makeFunc (first := [.tmp 126]) (cap := []) (by decide) (by simp only [evs, ev, e126]; rfl) rfl qz
 exact wl_nilCheckM (t := 101) (by decide) mt186 (hk.qe 4) qz
 exact dm (hk.qe 0)
 intro F wD hED hini hdo
 refine wl_drop [(129, _), (132, _)] ⟨dr hdo 3, dr hdo 6, trivial⟩ ?_
 clear hini hdo
 replace hFr:=hFr.ext hED
 have q15:=hED
 replace hp:=hp.ext hED
 have hqq:=hp.az (itB gr 103 ([.slice A15 l15.length c15, .bool b15]) :: itB gn 38 (([iv x1, iv x2, iv x3, iv x4, iv x14, iv x15]) ++ ((digC dig0) ++ ([s0, iv 0, s0, iv 0, s0, iv 0, iv 0, iv 0, iv 0, iv 0, s0, s0, s0, s0, s0, iv 0, iv 0, s0, s0, s0]))) :: H)
 have hsq:=Slot.blk (g := gn) (e := 38) (k := 32) ([iv x1, iv x2, iv x3, iv x4, iv x14, iv x15]) ([s0, iv 0, s0, iv 0, s0, iv 0, iv 0, iv 0, iv 0, iv 0, s0, s0, s0, s0, s0, iv 0, iv 0, s0, s0, s0])
 have hcl:=nDigest_ok (d0 := dig0) hqq hsq (hl15.ext q15)
 refine wl_invoke (t := 101) (name := "bastide/note.digest") (f := 186) (by decide) mt186 rfl rfl hcl ?_
 clear hcl
 rintro _ w16 ⟨F16, A16, c16, l16, b16, cs16, x16, hp16, hF16, hl16, hrd16, hst16⟩
 obtain rfl := hrd16
 replace hFr:=hFr.fr hF16
 replace hp:=(hp16.az (itB gr 103 ([.slice A16 l16.length c16, .bool b16]) :: itB gn 38 ([iv x1, iv x2, iv x3, iv x4, iv x14, iv x15] ++ (digC x16 ++ ([s0, iv 0, s0, iv 0, s0, iv 0, iv 0, iv 0, iv 0, iv 0, s0, s0, s0, s0, s0, iv 0, iv 0, s0, s0, s0]))) :: H))
 refine go ?_
 refine wk_post0 (.inr rfl) results65  ?_
 have hbd : StepP noteP (rst bad l) (rst b16 l16) ({ note0 with kind := x1, from_ := x2, group := x3, epoch := x4, view := x14, seq := x15, dig := x16 } : Nte) := by
   refine StepP.bind hst1 (StepP.bind hst2 (StepP.bind hst3 (StepP.bind hst4 ?_)))
   unfold bodyP
   repeat (first | rw [if_neg (by omega)] | rw [if_pos (by omega)])
   exact StepP.bind hst14 (StepP.bind hst15 (StepP.bind hst16 (StepP.pure _ _)))
 exact ⟨_, rfl, _, A16, c16, l16, b16, _, ({ note0 with kind := x1, from_ := x2, group := x3, epoch := x4, view := x14, seq := x15, dig := x16 } : Nte), ((hp.up 1 rfl).up 1 rfl), hFr, hl16, ⟨⟨hI1, hI2, hI3, hI4, hI14, hI15, i0, i0, i0, i0, i0, i0, i0, i0, i0⟩, _, _, _, _, _, _, _, _, _, _, _, _, _, _, _, _, _, _, _, _, _, _, rfl, gsn, gsn, gsn, gsn, gsn, gsn, gsn, gsn, gsn, gsn, gsn⟩, hbd⟩
 exact absurd hc8 hc9
 refine go ?_
 refine Eq_ rfl rfl (go ?_)
 refine Cd (fun hc10 => ?_) fun hc10 => ?_
 refine go ?_
 apply wdT 7 [.eq _,.eq _,.eq _,.eq _,.eq _,.eq _,.eq _]
 refine ⟨?_,?_,?_,?_,?_,?_,?_,trivial⟩<;>intro F wF hER hk
 exact Ld_ sc123 (hk.qi 2) ((hcap.fr q3).ext hER).head qz
 exact dm (hk.qi 1)
 exact Nc_ (hk.qe 1) qz
 exact Fd_ 4 fld38_4 (hk.qe 2) rfl qz
 have e110:=hk.qe 0
 exact wl_makeFunc (first := [.tmp 110]) (cap := []) (by decide) (by simp only [evs, ev, e110]; rfl) rfl qz
 exact wl_nilCheckM (t := 101) (by decide) mt188 (hk.qe 4) qz
 exact dm (hk.qe 0)
 intro F wD hED hini hdo
 refine wl_drop [(1, _), (2, _), (113, _), (116, _)] ⟨di hini 1, di hini 2, dr hdo 3, dr hdo 6, trivial⟩ ?_
 clear hini hdo
 replace hFr:=hFr.ext hED
 replace q3:=q3.ext hED
 have q16:=hED
 replace hp:=hp.ext hED
 have hqq:=hp.az (itB gr 103 ([.slice A4 l4.length c4, .bool b4]) :: itB gn 38 (([iv x1, iv x2, iv x3, iv x4]) ++ (([iv 0]) ++ ([iv 0] ++ (digC dig0 ++ ([s0, iv 0, s0, iv 0, s0, iv 0, iv 0, iv 0, iv 0, iv 0, s0, s0, s0, s0, s0, iv 0, iv 0, s0, s0, s0]))))) :: H)
 have hsq:=Slot.blk (g := gn) (e := 38) (k := 1) ([iv x1, iv x2, iv x3, iv x4]) ([iv 0] ++ (digC dig0 ++ ([s0, iv 0, s0, iv 0, s0, iv 0, iv 0, iv 0, iv 0, iv 0, s0, s0, s0, s0, s0, iv 0, iv 0, s0, s0, s0])))
 have hcl:=nNum_ok (v0 := 0) hqq hsq (hl4.ext q16) (by unfold i64; omega)
 refine wl_invoke (t := 101) (name := "bastide/note.num") (f := 188) (by decide) mt188 rfl rfl hcl ?_
 clear hcl
 rintro _ w17 ⟨F17, A17, c17, l17, b17, cs17, x17, hp17, hF17, hl17, hrd17, hst17⟩
 obtain ⟨hI17, rfl⟩ := hrd17
 replace hFr:=hFr.fr hF17
 replace q3:=q3.fr hF17
 replace hp:=(hp17.az (itB gr 103 ([.slice A17 l17.length c17, .bool b17]) :: itB gn 38 ([iv x1, iv x2, iv x3, iv x4, iv x17, iv 0] ++ (digC dig0 ++ ([s0, iv 0, s0, iv 0, s0, iv 0, iv 0, iv 0, iv 0, iv 0, s0, s0, s0, s0, s0, iv 0, iv 0, s0, s0, s0]))) :: H))
 refine go ?_
 apply wdT 7 [.eq _,.eq _,.eq _,.eq _,.eq _,.eq _,.eq _]
 refine ⟨?_,?_,?_,?_,?_,?_,?_,trivial⟩<;>intro F wF hER hk
 exact Ld_ sc123 (hk.qi 2) ((hcap.fr q3).ext hER).head qz
 exact dm (hk.qi 1)
 exact Nc_ (hk.qe 1) qz
 exact Fd_ 5 fld38_5 (hk.qe 2) rfl qz
 have e118:=hk.qe 0
 exact wl_makeFunc (first := [.tmp 118]) (cap := []) (by decide) (by simp only [evs, ev, e118]; rfl) rfl qz
 exact wl_nilCheckM (t := 101) (by decide) mt188 (hk.qe 4) qz
 exact dm (hk.qe 0)
 intro F wD hED hini hdo
 refine wl_drop [(1, _), (2, _), (121, _), (124, _)] ⟨di hini 1, di hini 2, dr hdo 3, dr hdo 6, trivial⟩ ?_
 clear hini hdo
 replace hFr:=hFr.ext hED
 replace q3:=q3.ext hED
 have q17:=hED
 replace hp:=hp.ext hED
 have hqq:=hp.az (itB gr 103 ([.slice A17 l17.length c17, .bool b17]) :: itB gn 38 (([iv x1, iv x2, iv x3, iv x4, iv x17]) ++ (([iv 0]) ++ (digC dig0 ++ ([s0, iv 0, s0, iv 0, s0, iv 0, iv 0, iv 0, iv 0, iv 0, s0, s0, s0, s0, s0, iv 0, iv 0, s0, s0, s0])))) :: H)
 have hsq:=Slot.blk (g := gn) (e := 38) (k := 1) ([iv x1, iv x2, iv x3, iv x4, iv x17]) (digC dig0 ++ ([s0, iv 0, s0, iv 0, s0, iv 0, iv 0, iv 0, iv 0, iv 0, s0, s0, s0, s0, s0, iv 0, iv 0, s0, s0, s0]))
 have hcl:=nNum_ok (v0 := 0) hqq hsq (hl17.ext q17) (by unfold i64; omega)
 refine wl_invoke (t := 101) (name := "bastide/note.num") (f := 188) (by decide) mt188 rfl rfl hcl ?_
 clear hcl
 rintro _ w18 ⟨F18, A18, c18, l18, b18, cs18, x18, hp18, hF18, hl18, hrd18, hst18⟩
 obtain ⟨hI18, rfl⟩ := hrd18
 replace hFr:=hFr.fr hF18
 replace q3:=q3.fr hF18
 replace hp:=(hp18.az (itB gr 103 ([.slice A18 l18.length c18, .bool b18]) :: itB gn 38 ([iv x1, iv x2, iv x3, iv x4, iv x17, iv x18] ++ (digC dig0 ++ ([s0, iv 0, s0, iv 0, s0, iv 0, iv 0, iv 0, iv 0, iv 0, s0, s0, s0, s0, s0, iv 0, iv 0, s0, s0, s0]))) :: H))
 refine go ?_
 apply wdT 7 [.eq _,.eq _,.eq _,.eq _,.eq _,.eq _,.eq _]
 refine ⟨?_,?_,?_,?_,?_,?_,?_,trivial⟩<;>intro F wF hER hk
 exact Ld_ sc123 (hk.qi 2) ((hcap.fr q3).ext hER).head qz
 exact dm (hk.qi 1)
 exact Nc_ (hk.qe 1) qz
 exact Fd_ 6 fld38_6 (hk.qe 2) rfl qz
 have e126:=hk.qe 0
 exact wl_makeFunc (first := [.tmp 126]) (cap := []) (by decide) (by simp only [evs, ev, e126]; rfl) rfl qz
 exact wl_nilCheckM (t := 101) (by decide) mt186 (hk.qe 4) qz
 exact dm (hk.qe 0)
 intro F wD hED hini hdo
 refine wl_drop [(129, _), (132, _)] ⟨dr hdo 3, dr hdo 6, trivial⟩ ?_
 clear hini hdo
 replace hFr:=hFr.ext hED
 have q18:=hED
 replace hp:=hp.ext hED
 have hqq:=hp.az (itB gr 103 ([.slice A18 l18.length c18, .bool b18]) :: itB gn 38 (([iv x1, iv x2, iv x3, iv x4, iv x17, iv x18]) ++ ((digC dig0) ++ ([s0, iv 0, s0, iv 0, s0, iv 0, iv 0, iv 0, iv 0, iv 0, s0, s0, s0, s0, s0, iv 0, iv 0, s0, s0, s0]))) :: H)
 have hsq:=Slot.blk (g := gn) (e := 38) (k := 32) ([iv x1, iv x2, iv x3, iv x4, iv x17, iv x18]) ([s0, iv 0, s0, iv 0, s0, iv 0, iv 0, iv 0, iv 0, iv 0, s0, s0, s0, s0, s0, iv 0, iv 0, s0, s0, s0])
 have hcl:=nDigest_ok (d0 := dig0) hqq hsq (hl18.ext q18)
 refine wl_invoke (t := 101) (name := "bastide/note.digest") (f := 186) (by decide) mt186 rfl rfl hcl ?_
 clear hcl
 rintro _ w19 ⟨F19, A19, c19, l19, b19, cs19, x19, hp19, hF19, hl19, hrd19, hst19⟩
 obtain rfl := hrd19
 replace hFr:=hFr.fr hF19
 replace hp:=(hp19.az (itB gr 103 ([.slice A19 l19.length c19, .bool b19]) :: itB gn 38 ([iv x1, iv x2, iv x3, iv x4, iv x17, iv x18] ++ (digC x19 ++ ([s0, iv 0, s0, iv 0, s0, iv 0, iv 0, iv 0, iv 0, iv 0, s0, s0, s0, s0, s0, iv 0, iv 0, s0, s0, s0]))) :: H))
 refine go ?_
 refine wk_post0 (.inr rfl) results65  ?_
 have hbd : StepP noteP (rst bad l) (rst b19 l19) ({ note0 with kind := x1, from_ := x2, group := x3, epoch := x4, view := x17, seq := x18, dig := x19 } : Nte) := by
   refine StepP.bind hst1 (StepP.bind hst2 (StepP.bind hst3 (StepP.bind hst4 ?_)))
   unfold bodyP
   repeat (first | rw [if_neg (by omega)] | rw [if_pos (by omega)])
   exact StepP.bind hst17 (StepP.bind hst18 (StepP.bind hst19 (StepP.pure _ _)))
 exact ⟨_, rfl, _, A19, c19, l19, b19, _, ({ note0 with kind := x1, from_ := x2, group := x3, epoch := x4, view := x17, seq := x18, dig := x19 } : Nte), ((hp.up 1 rfl).up 1 rfl), hFr, hl19, ⟨⟨hI1, hI2, hI3, hI4, hI17, hI18, i0, i0, i0, i0, i0, i0, i0, i0, i0⟩, _, _, _, _, _, _, _, _, _, _, _, _, _, _, _, _, _, _, _, _, _, _, rfl, gsn, gsn, gsn, gsn, gsn, gsn, gsn, gsn, gsn, gsn, gsn⟩, hbd⟩
 refine go ?_
 refine Eq_ rfl rfl (go ?_)
 refine Cd (fun hc11 => ?_) fun hc11 => ?_
 refine go ?_
 refine Cd (fun hc12 => ?_) fun hc12 => ?_
 refine go ?_
 apply wdT 7 [.eq _,.eq _,.eq _,.eq _,.eq _,.eq _,.eq _]
 refine ⟨?_,?_,?_,?_,?_,?_,?_,trivial⟩<;>intro F wF hER hk
 exact Ld_ sc123 (hk.qi 2) ((hcap.fr q3).ext hER).head qz
 exact dm (hk.qi 1)
 exact Nc_ (hk.qe 1) qz
 exact Fd_ 5 fld38_5 (hk.qe 2) rfl qz
 have e118:=hk.qe 0
 exact wl_makeFunc (first := [.tmp 118]) (cap := []) (by decide) (by simp only [evs, ev, e118]; rfl) rfl qz
 exact wl_nilCheckM (t := 101) (by decide) mt188 (hk.qe 4) qz
 exact dm (hk.qe 0)
 intro F wD hED hini hdo
 refine wl_drop [(1, _), (2, _), (121, _), (124, _)] ⟨di hini 1, di hini 2, dr hdo 3, dr hdo 6, trivial⟩ ?_
 clear hini hdo
 replace hFr:=hFr.ext hED
 replace q3:=q3.ext hED
 have q19:=hED
 replace hp:=hp.ext hED
 have hqq:=hp.az (itB gr 103 ([.slice A4 l4.length c4, .bool b4]) :: itB gn 38 (([iv x1, iv x2, iv x3, iv x4, iv 0]) ++ (([iv 0]) ++ (digC dig0 ++ ([s0, iv 0, s0, iv 0, s0, iv 0, iv 0, iv 0, iv 0, iv 0, s0, s0, s0, s0, s0, iv 0, iv 0, s0, s0, s0])))) :: H)
 have hsq:=Slot.blk (g := gn) (e := 38) (k := 1) ([iv x1, iv x2, iv x3, iv x4, iv 0]) (digC dig0 ++ ([s0, iv 0, s0, iv 0, s0, iv 0, iv 0, iv 0, iv 0, iv 0, s0, s0, s0, s0, s0, iv 0, iv 0, s0, s0, s0]))
 have hcl:=nNum_ok (v0 := 0) hqq hsq (hl4.ext q19) (by unfold i64; omega)
 refine wl_invoke (t := 101) (name := "bastide/note.num") (f := 188) (by decide) mt188 rfl rfl hcl ?_
 clear hcl
 rintro _ w20 ⟨F20, A20, c20, l20, b20, cs20, x20, hp20, hF20, hl20, hrd20, hst20⟩
 obtain ⟨hI20, rfl⟩ := hrd20
 replace hFr:=hFr.fr hF20
 replace q3:=q3.fr hF20
 replace hp:=(hp20.az (itB gr 103 ([.slice A20 l20.length c20, .bool b20]) :: itB gn 38 ([iv x1, iv x2, iv x3, iv x4, iv 0, iv x20] ++ (digC dig0 ++ ([s0, iv 0, s0, iv 0, s0, iv 0, iv 0, iv 0, iv 0, iv 0, s0, s0, s0, s0, s0, iv 0, iv 0, s0, s0, s0]))) :: H))
 refine go ?_
 apply wdT 7 [.eq _,.eq _,.eq _,.eq _,.eq _,.eq _,.eq _]
 refine ⟨?_,?_,?_,?_,?_,?_,?_,trivial⟩<;>intro F wF hER hk
 exact Ld_ sc123 (hk.qi 2) ((hcap.fr q3).ext hER).head qz
 exact dm (hk.qi 1)
 exact Nc_ (hk.qe 1) qz
 exact Fd_ 6 fld38_6 (hk.qe 2) rfl qz
 have e126:=hk.qe 0
 exact wl_makeFunc (first := [.tmp 126]) (cap := []) (by decide) (by simp only [evs, ev, e126]; rfl) rfl qz
 exact wl_nilCheckM (t := 101) (by decide) mt186 (hk.qe 4) qz
 exact dm (hk.qe 0)
 intro F wD hED hini hdo
 refine wl_drop [(129, _), (132, _)] ⟨dr hdo 3, dr hdo 6, trivial⟩ ?_
 clear hini hdo
 replace hFr:=hFr.ext hED
 have q20:=hED
 replace hp:=hp.ext hED
 have hqq:=hp.az (itB gr 103 ([.slice A20 l20.length c20, .bool b20]) :: itB gn 38 (([iv x1, iv x2, iv x3, iv x4, iv 0, iv x20]) ++ ((digC dig0) ++ ([s0, iv 0, s0, iv 0, s0, iv 0, iv 0, iv 0, iv 0, iv 0, s0, s0, s0, s0, s0, iv 0, iv 0, s0, s0, s0]))) :: H)
 have hsq:=Slot.blk (g := gn) (e := 38) (k := 32) ([iv x1, iv x2, iv x3, iv x4, iv 0, iv x20]) ([s0, iv 0, s0, iv 0, s0, iv 0, iv 0, iv 0, iv 0, iv 0, s0, s0, s0, s0, s0, iv 0, iv 0, s0, s0, s0])
 have hcl:=nDigest_ok (d0 := dig0) hqq hsq (hl20.ext q20)
 refine wl_invoke (t := 101) (name := "bastide/note.digest") (f := 186) (by decide) mt186 rfl rfl hcl ?_
 clear hcl
 rintro _ w21 ⟨F21, A21, c21, l21, b21, cs21, x21, hp21, hF21, hl21, hrd21, hst21⟩
 obtain rfl := hrd21
 replace hFr:=hFr.fr hF21
 replace hp:=(hp21.az (itB gr 103 ([.slice A21 l21.length c21, .bool b21]) :: itB gn 38 ([iv x1, iv x2, iv x3, iv x4, iv 0, iv x20] ++ (digC x21 ++ ([s0, iv 0, s0, iv 0, s0, iv 0, iv 0, iv 0, iv 0, iv 0, s0, s0, s0, s0, s0, iv 0, iv 0, s0, s0, s0]))) :: H))
 refine go ?_
 refine wk_post0 (.inr rfl) results65  ?_
 have hbd : StepP noteP (rst bad l) (rst b21 l21) ({ note0 with kind := x1, from_ := x2, group := x3, epoch := x4, seq := x20, dig := x21 } : Nte) := by
   refine StepP.bind hst1 (StepP.bind hst2 (StepP.bind hst3 (StepP.bind hst4 ?_)))
   unfold bodyP
   repeat (first | rw [if_neg (by omega)] | rw [if_pos (by omega)])
   exact StepP.bind hst20 (StepP.bind hst21 (StepP.pure _ _))
 exact ⟨_, rfl, _, A21, c21, l21, b21, _, ({ note0 with kind := x1, from_ := x2, group := x3, epoch := x4, seq := x20, dig := x21 } : Nte), ((hp.up 1 rfl).up 1 rfl), hFr, hl21, ⟨⟨hI1, hI2, hI3, hI4, i0, hI20, i0, i0, i0, i0, i0, i0, i0, i0, i0⟩, _, _, _, _, _, _, _, _, _, _, _, _, _, _, _, _, _, _, _, _, _, _, rfl, gsn, gsn, gsn, gsn, gsn, gsn, gsn, gsn, gsn, gsn, gsn⟩, hbd⟩
 exact absurd hc11 hc12
 refine go ?_
 refine Eq_ rfl rfl (go ?_)
 refine Cd (fun hc13 => ?_) fun hc13 => ?_
 refine go ?_
 apply wdT 7 [.eq _,.eq _,.eq _,.eq _,.eq _,.eq _,.eq _]
 refine ⟨?_,?_,?_,?_,?_,?_,?_,trivial⟩<;>intro F wF hER hk
 exact Ld_ sc123 (hk.qi 2) ((hcap.fr q3).ext hER).head qz
 exact dm (hk.qi 1)
 exact Nc_ (hk.qe 1) qz
 exact Fd_ 5 fld38_5 (hk.qe 2) rfl qz
 have e118:=hk.qe 0
 exact wl_makeFunc (first := [.tmp 118]) (cap := []) (by decide) (by simp only [evs, ev, e118]; rfl) rfl qz
 exact wl_nilCheckM (t := 101) (by decide) mt188 (hk.qe 4) qz
 exact dm (hk.qe 0)
 intro F wD hED hini hdo
 refine wl_drop [(1, _), (2, _), (121, _), (124, _)] ⟨di hini 1, di hini 2, dr hdo 3, dr hdo 6, trivial⟩ ?_
 clear hini hdo
 replace hFr:=hFr.ext hED
 replace q3:=q3.ext hED
 have q21:=hED
 replace hp:=hp.ext hED
 have hqq:=hp.az (itB gr 103 ([.slice A4 l4.length c4, .bool b4]) :: itB gn 38 (([iv x1, iv x2, iv x3, iv x4, iv 0]) ++ (([iv 0]) ++ (digC dig0 ++ ([s0, iv 0, s0, iv 0, s0, iv 0, iv 0, iv 0, iv 0, iv 0, s0, s0, s0, s0, s0, iv 0, iv 0, s0, s0, s0])))) :: H)
 have hsq:=Slot.blk (g := gn) (e := 38) (k := 1) ([iv x1, iv x2, iv x3, iv x4, iv 0]) (digC dig0 ++ ([s0, iv 0, s0, iv 0, s0, iv 0, iv 0, iv 0, iv 0, iv 0, s0, s0, s0, s0, s0, iv 0, iv 0, s0, s0, s0]))
 have hcl:=nNum_ok (v0 := 0) hqq hsq (hl4.ext q21) (by unfold i64; omega)
 refine wl_invoke (t := 101) (name := "bastide/note.num") (f := 188) (by decide) mt188 rfl rfl hcl ?_
 clear hcl
 rintro _ w22 ⟨F22, A22, c22, l22, b22, cs22, x22, hp22, hF22, hl22, hrd22, hst22⟩
 obtain ⟨hI22, rfl⟩ := hrd22
 replace hFr:=hFr.fr hF22
 replace q3:=q3.fr hF22
 replace hp:=(hp22.az (itB gr 103 ([.slice A22 l22.length c22, .bool b22]) :: itB gn 38 ([iv x1, iv x2, iv x3, iv x4, iv 0, iv x22] ++ (digC dig0 ++ ([s0, iv 0, s0, iv 0, s0, iv 0, iv 0, iv 0, iv 0, iv 0, s0, s0, s0, s0, s0, iv 0, iv 0, s0, s0, s0]))) :: H))
 refine go ?_
 apply wdT 7 [.eq _,.eq _,.eq _,.eq _,.eq _,.eq _,.eq _]
 refine ⟨?_,?_,?_,?_,?_,?_,?_,trivial⟩<;>intro F wF hER hk
 exact Ld_ sc123 (hk.qi 2) ((hcap.fr q3).ext hER).head qz
 exact dm (hk.qi 1)
 exact Nc_ (hk.qe 1) qz
 exact Fd_ 6 fld38_6 (hk.qe 2) rfl qz
 have e126:=hk.qe 0
 exact wl_makeFunc (first := [.tmp 126]) (cap := []) (by decide) (by simp only [evs, ev, e126]; rfl) rfl qz
 exact wl_nilCheckM (t := 101) (by decide) mt186 (hk.qe 4) qz
 exact dm (hk.qe 0)
 intro F wD hED hini hdo
 refine wl_drop [(129, _), (132, _)] ⟨dr hdo 3, dr hdo 6, trivial⟩ ?_
 clear hini hdo
 replace hFr:=hFr.ext hED
 have q22:=hED
 replace hp:=hp.ext hED
 have hqq:=hp.az (itB gr 103 ([.slice A22 l22.length c22, .bool b22]) :: itB gn 38 (([iv x1, iv x2, iv x3, iv x4, iv 0, iv x22]) ++ ((digC dig0) ++ ([s0, iv 0, s0, iv 0, s0, iv 0, iv 0, iv 0, iv 0, iv 0, s0, s0, s0, s0, s0, iv 0, iv 0, s0, s0, s0]))) :: H)
 have hsq:=Slot.blk (g := gn) (e := 38) (k := 32) ([iv x1, iv x2, iv x3, iv x4, iv 0, iv x22]) ([s0, iv 0, s0, iv 0, s0, iv 0, iv 0, iv 0, iv 0, iv 0, s0, s0, s0, s0, s0, iv 0, iv 0, s0, s0, s0])
 have hcl:=nDigest_ok (d0 := dig0) hqq hsq (hl22.ext q22)
 refine wl_invoke (t := 101) (name := "bastide/note.digest") (f := 186) (by decide) mt186 rfl rfl hcl ?_
 clear hcl
 rintro _ w23 ⟨F23, A23, c23, l23, b23, cs23, x23, hp23, hF23, hl23, hrd23, hst23⟩
 obtain rfl := hrd23
 replace hFr:=hFr.fr hF23
 replace hp:=(hp23.az (itB gr 103 ([.slice A23 l23.length c23, .bool b23]) :: itB gn 38 ([iv x1, iv x2, iv x3, iv x4, iv 0, iv x22] ++ (digC x23 ++ ([s0, iv 0, s0, iv 0, s0, iv 0, iv 0, iv 0, iv 0, iv 0, s0, s0, s0, s0, s0, iv 0, iv 0, s0, s0, s0]))) :: H))
 refine go ?_
 refine wk_post0 (.inr rfl) results65  ?_
 have hbd : StepP noteP (rst bad l) (rst b23 l23) ({ note0 with kind := x1, from_ := x2, group := x3, epoch := x4, seq := x22, dig := x23 } : Nte) := by
   refine StepP.bind hst1 (StepP.bind hst2 (StepP.bind hst3 (StepP.bind hst4 ?_)))
   unfold bodyP
   repeat (first | rw [if_neg (by omega)] | rw [if_pos (by omega)])
   exact StepP.bind hst22 (StepP.bind hst23 (StepP.pure _ _))
 exact ⟨_, rfl, _, A23, c23, l23, b23, _, ({ note0 with kind := x1, from_ := x2, group := x3, epoch := x4, seq := x22, dig := x23 } : Nte), ((hp.up 1 rfl).up 1 rfl), hFr, hl23, ⟨⟨hI1, hI2, hI3, hI4, i0, hI22, i0, i0, i0, i0, i0, i0, i0, i0, i0⟩, _, _, _, _, _, _, _, _, _, _, _, _, _, _, _, _, _, _, _, _, _, _, rfl, gsn, gsn, gsn, gsn, gsn, gsn, gsn, gsn, gsn, gsn, gsn⟩, hbd⟩
 refine go ?_
 refine Eq_ rfl rfl (go ?_)
 refine Cd (fun hc14 => ?_) fun hc14 => ?_
 refine go ?_
 apply wdT 4 [.eq _,.eq _,.eq _,.eq _]
 refine ⟨?_,?_,?_,?_,trivial⟩<;>intro F wF hER hk
 exact Ld_ sc123 (hk.qi 2) ((hcap.fr q3).ext hER).head qz
 exact dm (hk.qi 1)
 exact Nc_ (hk.qe 1) qz
 exact Fd_ 45 fld38_11 (hk.qe 2) rfl qz
 intro F wD hED hini hdo
 refine wl_drop [(134, _), (137, _)] ⟨dr hdo 0, dr hdo 3, trivial⟩ ?_
 clear hini hdo
 replace hFr:=hFr.ext hED
 have q23:=hED
 replace hp:=hp.ext hED
 have hqq:=hp.az (itB gr 103 ([.slice A4 l4.length c4, .bool b4]) :: itB gn 38 (([iv x1, iv x2, iv x3, iv x4, iv 0, iv 0] ++ (digC dig0 ++ ([s0, iv 0, s0, iv 0, s0, iv 0, iv 0]))) ++ (([iv 0, iv 0, iv 0, s0, s0, s0]) ++ ([s0, s0, iv 0, iv 0, s0, s0, s0]))) :: H)
 have hsq:=Slot.blk (g := gn) (e := 38) (k := 6) ([iv x1, iv x2, iv x3, iv x4, iv 0, iv 0] ++ (digC dig0 ++ ([s0, iv 0, s0, iv 0, s0, iv 0, iv 0]))) ([s0, s0, iv 0, iv 0, s0, s0, s0])
 have hcl:=rChange_ok hqq hsq (hl4.ext q23)
 refine Cl_ cl57 rfl hcl ?_
 clear hcl
 rintro _ w24 ⟨F24, A24, c24, l24, b24, cs24, x24, hp24, hF24, hl24, hrd24, hst24⟩
 obtain ⟨hI24, A24_0, c24_0, A24_1, c24_1, A24_2, c24_2, rfl, hr24_0, hr24_1, hr24_2⟩ := hrd24
 replace hFr:=hFr.fr hF24
 replace hp:=(hp24.az (itB gr 103 ([.slice A24 l24.length c24, .bool b24]) :: itB gn 38 ([iv x1, iv x2, iv x3, iv x4, iv 0, iv 0] ++ (digC dig0 ++ ([s0, iv 0, s0, iv 0, s0, iv 0, iv 0, iv x24.node, iv x24.view, iv x24.low, .slice A24_0 x24.marks.length c24_0, .slice A24_1 x24.p.length c24_1, .slice A24_2 x24.q.length c24_2, s0, s0, iv 0, iv 0, s0, s0, s0]))) :: H))
 refine go ?_
 refine wk_post0 (.inr rfl) results65  ?_
 have hbd : StepP noteP (rst bad l) (rst b24 l24) ({ note0 with kind := x1, from_ := x2, group := x3, epoch := x4, change.node := x24.node, change.view := x24.view, change.low := x24.low, change.marks := x24.marks, change.p := x24.p, change.q := x24.q } : Nte) := by
   refine StepP.bind hst1 (StepP.bind hst2 (StepP.bind hst3 (StepP.bind hst4 ?_)))
   unfold bodyP
   repeat (first | rw [if_neg (by omega)] | rw [if_pos (by omega)])
   exact StepP.bind hst24 (StepP.pure _ _)
 exact ⟨_, rfl, _, A24, c24, l24, b24, _, ({ note0 with kind := x1, from_ := x2, group := x3, epoch := x4, change.node := x24.node, change.view := x24.view, change.low := x24.low, change.marks := x24.marks, change.p := x24.p, change.q := x24.q } : Nte), ((hp.up 1 rfl).up 1 rfl), hFr, hl24, ⟨⟨hI1, hI2, hI3, hI4, i0, i0, i0, i0, i0, i0, hI24.1, hI24.2.1, hI24.2.2, i0, i0⟩, _, _, _, _, _, _, _, _, _, _, _, _, _, _, _, _, _, _, _, _, _, _, rfl, gsn, gsn, gsn, hr24_0, hr24_1, hr24_2, gsn, gsn, gsn, gsn, gsn⟩, hbd⟩
 refine go ?_
 refine Eq_ rfl rfl (go ?_)
 refine Cd (fun hc15 => ?_) fun hc15 => ?_
 refine go ?_
 apply wdT 7 [.eq _,.eq _,.eq _,.eq _,.eq _,.eq _,.eq _]
 refine ⟨?_,?_,?_,?_,?_,?_,?_,trivial⟩<;>intro F wF hER hk
 exact Ld_ sc123 (hk.qi 2) ((hcap.fr q3).ext hER).head qz
 exact dm (hk.qi 1)
 exact Nc_ (hk.qe 1) qz
 exact Fd_ 4 fld38_4 (hk.qe 2) rfl qz
 have e139:=hk.qe 0
 exact wl_makeFunc (first := [.tmp 139]) (cap := []) (by decide) (by simp only [evs, ev, e139]; rfl) rfl qz
 exact wl_nilCheckM (t := 101) (by decide) mt188 (hk.qe 4) qz
 exact dm (hk.qe 0)
 intro F wD hED hini hdo
 refine wl_drop [(1, _), (2, _), (142, _), (145, _)] ⟨di hini 1, di hini 2, dr hdo 3, dr hdo 6, trivial⟩ ?_
 clear hini hdo
 replace hFr:=hFr.ext hED
 replace q3:=q3.ext hED
 have q24:=hED
 replace hp:=hp.ext hED
 have hqq:=hp.az (itB gr 103 ([.slice A4 l4.length c4, .bool b4]) :: itB gn 38 (([iv x1, iv x2, iv x3, iv x4]) ++ (([iv 0]) ++ ([iv 0] ++ (digC dig0 ++ ([s0, iv 0, s0, iv 0, s0, iv 0, iv 0, iv 0, iv 0, iv 0, s0, s0, s0, s0, s0, iv 0, iv 0, s0, s0, s0]))))) :: H)
 have hsq:=Slot.blk (g := gn) (e := 38) (k := 1) ([iv x1, iv x2, iv x3, iv x4]) ([iv 0] ++ (digC dig0 ++ ([s0, iv 0, s0, iv 0, s0, iv 0, iv 0, iv 0, iv 0, iv 0, s0, s0, s0, s0, s0, iv 0, iv 0, s0, s0, s0])))
 have hcl:=nNum_ok (v0 := 0) hqq hsq (hl4.ext q24) (by unfold i64; omega)
 refine wl_invoke (t := 101) (name := "bastide/note.num") (f := 188) (by decide) mt188 rfl rfl hcl ?_
 clear hcl
 rintro _ w25 ⟨F25, A25, c25, l25, b25, cs25, x25, hp25, hF25, hl25, hrd25, hst25⟩
 obtain ⟨hI25, rfl⟩ := hrd25
 replace hFr:=hFr.fr hF25
 replace q3:=q3.fr hF25
 replace hp:=(hp25.az (itB gr 103 ([.slice A25 l25.length c25, .bool b25]) :: itB gn 38 ([iv x1, iv x2, iv x3, iv x4, iv x25, iv 0] ++ (digC dig0 ++ ([s0, iv 0, s0, iv 0, s0, iv 0, iv 0, iv 0, iv 0, iv 0, s0, s0, s0, s0, s0, iv 0, iv 0, s0, s0, s0]))) :: H))
 refine go ?_
 apply wdT 7 [.eq _,.eq _,.eq _,.eq _,.eq _,.eq _,.eq _]
 refine ⟨?_,?_,?_,?_,?_,?_,?_,trivial⟩<;>intro F wF hER hk
 exact Ld_ sc123 (hk.qi 2) ((hcap.fr q3).ext hER).head qz
 exact dm (hk.qi 1)
 exact Nc_ (hk.qe 1) qz
 exact Fd_ 44 fld38_10 (hk.qe 2) rfl qz
 have e147:=hk.qe 0
 exact wl_makeFunc (first := [.tmp 147]) (cap := []) (by decide) (by simp only [evs, ev, e147]; rfl) rfl qz
 exact wl_nilCheckM (t := 101) (by decide) mt188 (hk.qe 4) qz
 exact dm (hk.qe 0)
 intro F wD hED hini hdo
 refine wl_drop [(1, _), (2, _), (150, _), (153, _)] ⟨di hini 1, di hini 2, dr hdo 3, dr hdo 6, trivial⟩ ?_
 clear hini hdo
 replace hFr:=hFr.ext hED
 replace q3:=q3.ext hED
 have q25:=hED
 replace hp:=hp.ext hED
 have hqq:=hp.az (itB gr 103 ([.slice A25 l25.length c25, .bool b25]) :: itB gn 38 (([iv x1, iv x2, iv x3, iv x4, iv x25, iv 0] ++ (digC dig0 ++ ([s0, iv 0, s0, iv 0, s0, iv 0]))) ++ (([iv 0]) ++ ([iv 0, iv 0, iv 0, s0, s0, s0, s0, s0, iv 0, iv 0, s0, s0, s0]))) :: H)
 have hsq:=Slot.blk (g := gn) (e := 38) (k := 1) ([iv x1, iv x2, iv x3, iv x4, iv x25, iv 0] ++ (digC dig0 ++ ([s0, iv 0, s0, iv 0, s0, iv 0]))) ([iv 0, iv 0, iv 0, s0, s0, s0, s0, s0, iv 0, iv 0, s0, s0, s0])
 have hcl:=nNum_ok (v0 := 0) hqq hsq (hl25.ext q25) (by unfold i64; omega)
 refine wl_invoke (t := 101) (name := "bastide/note.num") (f := 188) (by decide) mt188 rfl rfl hcl ?_
 clear hcl
 rintro _ w26 ⟨F26, A26, c26, l26, b26, cs26, x26, hp26, hF26, hl26, hrd26, hst26⟩
 obtain ⟨hI26, rfl⟩ := hrd26
 replace hFr:=hFr.fr hF26
 replace q3:=q3.fr hF26
 replace hp:=(hp26.az (itB gr 103 ([.slice A26 l26.length c26, .bool b26]) :: itB gn 38 ([iv x1, iv x2, iv x3, iv x4, iv x25, iv 0] ++ (digC dig0 ++ ([s0, iv 0, s0, iv 0, s0, iv 0, iv x26, iv 0, iv 0, iv 0, s0, s0, s0, s0, s0, iv 0, iv 0, s0, s0, s0]))) :: H))
 refine go ?_
 apply wdT 7 [.eq _,.eq _,.eq _,.eq _,.eq _,.eq _,.eq _]
 refine ⟨?_,?_,?_,?_,?_,?_,?_,trivial⟩<;>intro F wF hER hk
 exact Ld_ sc123 (hk.qi 2) ((hcap.fr q3).ext hER).head qz
 exact dm (hk.qi 1)
 exact Nc_ (hk.qe 1) qz
 exact Fd_ 6 fld38_6 (hk.qe 2) rfl qz
 have e155:=hk.qe 0
 exact wl_makeFunc (first := [.tmp 155]) (cap := []) (by decide) (by simp only [evs, ev, e155]; rfl) rfl qz
 exact wl_nilCheckM (t := 101) (by decide) mt186 (hk.qe 4) qz
 exact dm (hk.qe 0)
 intro F wD hED hini hdo
 refine wl_drop [(158, _), (161, _)] ⟨dr hdo 3, dr hdo 6, trivial⟩ ?_
 clear hini hdo
 replace hFr:=hFr.ext hED
 have q26:=hED
 replace hp:=hp.ext hED
 have hqq:=hp.az (itB gr 103 ([.slice A26 l26.length c26, .bool b26]) :: itB gn 38 (([iv x1, iv x2, iv x3, iv x4, iv x25, iv 0]) ++ ((digC dig0) ++ ([s0, iv 0, s0, iv 0, s0, iv 0, iv x26, iv 0, iv 0, iv 0, s0, s0, s0, s0, s0, iv 0, iv 0, s0, s0, s0]))) :: H)
 have hsq:=Slot.blk (g := gn) (e := 38) (k := 32) ([iv x1, iv x2, iv x3, iv x4, iv x25, iv 0]) ([s0, iv 0, s0, iv 0, s0, iv 0, iv x26, iv 0, iv 0, iv 0, s0, s0, s0, s0, s0, iv 0, iv 0, s0, s0, s0])
 have hcl:=nDigest_ok (d0 := dig0) hqq hsq (hl26.ext q26)
 refine wl_invoke (t := 101) (name := "bastide/note.digest") (f := 186) (by decide) mt186 rfl rfl hcl ?_
 clear hcl
 rintro _ w27 ⟨F27, A27, c27, l27, b27, cs27, x27, hp27, hF27, hl27, hrd27, hst27⟩
 obtain rfl := hrd27
 replace hFr:=hFr.fr hF27
 replace hp:=(hp27.az (itB gr 103 ([.slice A27 l27.length c27, .bool b27]) :: itB gn 38 ([iv x1, iv x2, iv x3, iv x4, iv x25, iv 0] ++ (digC x27 ++ ([s0, iv 0, s0, iv 0, s0, iv 0, iv x26, iv 0, iv 0, iv 0, s0, s0, s0, s0, s0, iv 0, iv 0, s0, s0, s0]))) :: H))
 refine go ?_
 refine wk_post0 (.inr rfl) results65  ?_
 have hbd : StepP noteP (rst bad l) (rst b27 l27) ({ note0 with kind := x1, from_ := x2, group := x3, epoch := x4, view := x25, dig := x27, node := x26 } : Nte) := by
   refine StepP.bind hst1 (StepP.bind hst2 (StepP.bind hst3 (StepP.bind hst4 ?_)))
   unfold bodyP
   repeat (first | rw [if_neg (by omega)] | rw [if_pos (by omega)])
   exact StepP.bind hst25 (StepP.bind hst26 (StepP.bind hst27 (StepP.pure _ _)))
 exact ⟨_, rfl, _, A27, c27, l27, b27, _, ({ note0 with kind := x1, from_ := x2, group := x3, epoch := x4, view := x25, dig := x27, node := x26 } : Nte), ((hp.up 1 rfl).up 1 rfl), hFr, hl27, ⟨⟨hI1, hI2, hI3, hI4, hI25, i0, i0, i0, i0, hI26, i0, i0, i0, i0, i0⟩, _, _, _, _, _, _, _, _, _, _, _, _, _, _, _, _, _, _, _, _, _, _, rfl, gsn, gsn, gsn, gsn, gsn, gsn, gsn, gsn, gsn, gsn, gsn⟩, hbd⟩
 refine go ?_
 refine Eq_ rfl rfl (go ?_)
 refine Cd (fun hc16 => ?_) fun hc16 => ?_
 refine go ?_
 apply wdT 7 [.eq _,.eq _,.eq _,.eq _,.eq _,.eq _,.eq _]
 refine ⟨?_,?_,?_,?_,?_,?_,?_,trivial⟩<;>intro F wF hER hk
 exact Ld_ sc123 (hk.qi 2) ((hcap.fr q3).ext hER).head qz
 exact dm (hk.qi 1)
 exact Nc_ (hk.qe 1) qz
 exact Fd_ 4 fld38_4 (hk.qe 2) rfl qz
 have e163:=hk.qe 0
 exact wl_makeFunc (first := [.tmp 163]) (cap := []) (by decide) (by simp only [evs, ev, e163]; rfl) rfl qz
 exact wl_nilCheckM (t := 101) (by decide) mt188 (hk.qe 4) qz
 exact dm (hk.qe 0)
 intro F wD hED hini hdo
 refine wl_drop [(1, _), (2, _), (166, _), (169, _)] ⟨di hini 1, di hini 2, dr hdo 3, dr hdo 6, trivial⟩ ?_
 clear hini hdo
 replace hFr:=hFr.ext hED
 replace q3:=q3.ext hED
 have q27:=hED
 replace hp:=hp.ext hED
 have hqq:=hp.az (itB gr 103 ([.slice A4 l4.length c4, .bool b4]) :: itB gn 38 (([iv x1, iv x2, iv x3, iv x4]) ++ (([iv 0]) ++ ([iv 0] ++ (digC dig0 ++ ([s0, iv 0, s0, iv 0, s0, iv 0, iv 0, iv 0, iv 0, iv 0, s0, s0, s0, s0, s0, iv 0, iv 0, s0, s0, s0]))))) :: H)
 have hsq:=Slot.blk (g := gn) (e := 38) (k := 1) ([iv x1, iv x2, iv x3, iv x4]) ([iv 0] ++ (digC dig0 ++ ([s0, iv 0, s0, iv 0, s0, iv 0, iv 0, iv 0, iv 0, iv 0, s0, s0, s0, s0, s0, iv 0, iv 0, s0, s0, s0])))
 have hcl:=nNum_ok (v0 := 0) hqq hsq (hl4.ext q27) (by unfold i64; omega)
 refine wl_invoke (t := 101) (name := "bastide/note.num") (f := 188) (by decide) mt188 rfl rfl hcl ?_
 clear hcl
 rintro _ w28 ⟨F28, A28, c28, l28, b28, cs28, x28, hp28, hF28, hl28, hrd28, hst28⟩
 obtain ⟨hI28, rfl⟩ := hrd28
 replace hFr:=hFr.fr hF28
 replace q3:=q3.fr hF28
 replace hp:=(hp28.az (itB gr 103 ([.slice A28 l28.length c28, .bool b28]) :: itB gn 38 ([iv x1, iv x2, iv x3, iv x4, iv x28, iv 0] ++ (digC dig0 ++ ([s0, iv 0, s0, iv 0, s0, iv 0, iv 0, iv 0, iv 0, iv 0, s0, s0, s0, s0, s0, iv 0, iv 0, s0, s0, s0]))) :: H))
 refine go ?_
 apply wdT 5 [.eq _,.eq _,.eq _,.eq _,.eq _]
 refine ⟨?_,?_,?_,?_,?_,trivial⟩<;>intro F wF hER hk
 exact Ld_ sc123 (hk.qi 2) ((hcap.fr q3).ext hER).head qz
 exact dm (hk.qi 1)
 exact Nc_ (hk.qe 1) qz
 exact Fd_ 51 fld38_12 (hk.qe 2) rfl qz
 have e2:=hk.qi 2
 exact wl_makeFunc (first := []) (cap := [.tmp 2]) (by decide) rfl (by simp only [evs, ev, e2]; rfl) qz
 intro F wD hED hini hdo
 refine wl_drop [(1, _), (2, _), (171, _), (174, _), (175, _)] ⟨di hini 1, di hini 2, dr hdo 0, dr hdo 3, dr hdo 4, trivial⟩ ?_
 clear hini hdo
 replace hFr:=hFr.ext hED
 replace q3:=q3.ext hED
 have q28:=hED
 replace hp:=hp.ext hED
 have hqq:=hp.az (itB gr 103 ([.slice A28 l28.length c28, .bool b28]) :: itB gn 38 (([iv x1, iv x2, iv x3, iv x4, iv x28, iv 0] ++ (digC dig0 ++ ([s0, iv 0, s0, iv 0, s0, iv 0, iv 0, iv 0, iv 0, iv 0, s0, s0, s0]))) ++ (([s0]) ++ ([s0, iv 0, iv 0, s0, s0, s0]))) :: H)
 have hsq:=Slot.blk (g := gn) (e := 38) (k := 1) ([iv x1, iv x2, iv x3, iv x4, iv x28, iv 0] ++ (digC dig0 ++ ([s0, iv 0, s0, iv 0, s0, iv 0, iv 0, iv 0, iv 0, iv 0, s0, s0, s0]))) ([s0, iv 0, iv 0, s0, s0, s0])
 have hcl:=rListC_ok (p := changeP) (most := 7) (FV := .func (.func 110) ([] : List Value).toArray [Value.pointer (some ⟨gs2, 0, none⟩)].toArray) hqq hsq (hl28.ext q28) (fun w1 F1 H1 X pa A c l bad hF hp hS hl => RetV.func (first := []) (cap := [pt gs2 0]) (vs := [.pointer (some pa)]) cl110 (rShow1_ok hp hS hl ((hcap.fr q3).frz hF))) (by decide)
 refine Cl_ cl109 rfl hcl ?_
 clear hcl
 rintro _ w29 ⟨F29, A29, c29, l29, b29, cs29, x29, hp29, hF29, hl29, hrd29, hst29⟩
 obtain ⟨B29, d29, rfl, hg29⟩ := hrd29
 replace hFr:=hFr.fr hF29
 replace q3:=q3.fr hF29
 replace hp:=(hp29.az (itB gr 103 ([.slice A29 l29.length c29, .bool b29]) :: itB gn 38 ([iv x1, iv x2, iv x3, iv x4, iv x28, iv 0] ++ (digC dig0 ++ ([s0, iv 0, s0, iv 0, s0, iv 0, iv 0, iv 0, iv 0, iv 0, s0, s0, s0, .slice B29 x29.length d29, s0, iv 0, iv 0, s0, s0, s0]))) :: H))
 refine go ?_
 apply wdT 5 [.eq _,.eq _,.eq _,.eq _,.eq _]
 refine ⟨?_,?_,?_,?_,?_,trivial⟩<;>intro F wF hER hk
 exact Ld_ sc123 (hk.qi 2) ((hcap.fr q3).ext hER).head qz
 exact dm (hk.qi 1)
 exact Nc_ (hk.qe 1) qz
 exact Fd_ 52 fld38_13 (hk.qe 2) rfl qz
 have e2:=hk.qi 2
 exact wl_makeFunc (first := []) (cap := [.tmp 2]) (by decide) rfl (by simp only [evs, ev, e2]; rfl) qz
 intro F wD hED hini hdo
 refine wl_drop [(177, _), (180, _), (181, _)] ⟨dr hdo 0, dr hdo 3, dr hdo 4, trivial⟩ ?_
 clear hini hdo
 replace hFr:=hFr.ext hED
 replace q3:=q3.ext hED
 have q29:=hED
 replace hp:=hp.ext hED
 have hqq:=hp.az (itB gr 103 ([.slice A29 l29.length c29, .bool b29]) :: itB gn 38 (([iv x1, iv x2, iv x3, iv x4, iv x28, iv 0] ++ (digC dig0 ++ ([s0, iv 0, s0, iv 0, s0, iv 0, iv 0, iv 0, iv 0, iv 0, s0, s0, s0, .slice B29 x29.length d29]))) ++ (([s0]) ++ ([iv 0, iv 0, s0, s0, s0]))) :: H)
 have hsq:=Slot.blk (g := gn) (e := 38) (k := 1) ([iv x1, iv x2, iv x3, iv x4, iv x28, iv 0] ++ (digC dig0 ++ ([s0, iv 0, s0, iv 0, s0, iv 0, iv 0, iv 0, iv 0, iv 0, s0, s0, s0, .slice B29 x29.length d29]))) ([iv 0, iv 0, s0, s0, s0])
 have hcl:=rListP_ok (p := pickP) (most := 8) (FV := .func (.func 112) ([] : List Value).toArray [Value.pointer (some ⟨gs2, 0, none⟩)].toArray) hqq hsq (hl29.ext q29) (fun w1 F1 H1 X pa A c l bad hF hp hS hl => RetV.func (first := []) (cap := [pt gs2 0]) (vs := [.pointer (some pa)]) cl112 (rPick_ok hp hS hl ((hcap.fr q3).frz hF))) (by decide)
 refine Cl_ cl111 rfl hcl ?_
 clear hcl
 rintro _ w30 ⟨F30, A30, c30, l30, b30, cs30, x30, hp30, hF30, hl30, hrd30, hst30⟩
 obtain ⟨B30, d30, rfl, hg30⟩ := hrd30
 replace hFr:=hFr.fr hF30
 have q30:=hl29.tk.ext q29
 replace q30:=q30.fr hF30
 replace hp:=(hp30.az (itB gr 103 ([.slice A30 l30.length c30, .bool b30]) :: itB gn 38 ([iv x1, iv x2, iv x3, iv x4, iv x28, iv 0] ++ (digC dig0 ++ ([s0, iv 0, s0, iv 0, s0, iv 0, iv 0, iv 0, iv 0, iv 0, s0, s0, s0, .slice B29 x29.length d29, .slice B30 x30.length d30, iv 0, iv 0, s0, s0, s0]))) :: H))
 refine go ?_
 refine wk_post0 (.inr rfl) results65  ?_
 have hbd : StepP noteP (rst bad l) (rst b30 l30) ({ note0 with kind := x1, from_ := x2, group := x3, epoch := x4, view := x28, changes := x29, picks := x30 } : Nte) := by
   refine StepP.bind hst1 (StepP.bind hst2 (StepP.bind hst3 (StepP.bind hst4 ?_)))
   unfold bodyP
   repeat (first | rw [if_neg (by omega)] | rw [if_pos (by omega)])
   exact StepP.bind hst28 (StepP.bind hst29 (StepP.bind hst30 (StepP.pure _ _)))
 exact ⟨_, rfl, _, A30, c30, l30, b30, _, ({ note0 with kind := x1, from_ := x2, group := x3, epoch := x4, view := x28, changes := x29, picks := x30 } : Nte), ((hp.up 1 rfl).up 1 rfl), hFr, hl30, ⟨⟨hI1, hI2, hI3, hI4, hI28, i0, i0, i0, i0, i0, i0, i0, i0, i0, i0⟩, _, _, _, _, _, _, _, _, _, _, _, _, _, _, _, _, _, _, _, _, _, _, rfl, gsn, gsn, gsn, gsn, gsn, gsn, (hg29.fr q30), hg30, gsn, gsn, gsn⟩, hbd⟩
 refine go ?_
 refine Eq_ rfl rfl (go ?_)
 refine Cd (fun hc17 => ?_) fun hc17 => ?_
 refine go ?_
 refine Cd (fun hc18 => ?_) fun hc18 => ?_
 refine go ?_
 apply wdT 7 [.eq _,.eq _,.eq _,.eq _,.eq _,.eq _,.eq _]
 refine ⟨?_,?_,?_,?_,?_,?_,?_,trivial⟩<;>intro F wF hER hk
 exact Ld_ sc123 (hk.qi 2) ((hcap.fr q3).ext hER).head qz
 exact dm (hk.qi 1)
 exact Nc_ (hk.qe 1) qz
 exact Fd_ 5 fld38_5 (hk.qe 2) rfl qz
 have e183:=hk.qe 0
 exact wl_makeFunc (first := [.tmp 183]) (cap := []) (by decide) (by simp only [evs, ev, e183]; rfl) rfl qz
 exact wl_nilCheckM (t := 101) (by decide) mt188 (hk.qe 4) qz
 exact dm (hk.qe 0)
 intro F wD hED hini hdo
 refine wl_drop [(1, _), (2, _), (186, _), (189, _)] ⟨di hini 1, di hini 2, dr hdo 3, dr hdo 6, trivial⟩ ?_
 clear hini hdo
 replace hFr:=hFr.ext hED
 replace q3:=q3.ext hED
 have q31:=hED
 replace hp:=hp.ext hED
 have hqq:=hp.az (itB gr 103 ([.slice A4 l4.length c4, .bool b4]) :: itB gn 38 (([iv x1, iv x2, iv x3, iv x4, iv 0]) ++ (([iv 0]) ++ (digC dig0 ++ ([s0, iv 0, s0, iv 0, s0, iv 0, iv 0, iv 0, iv 0, iv 0, s0, s0, s0, s0, s0, iv 0, iv 0, s0, s0, s0])))) :: H)
 have hsq:=Slot.blk (g := gn) (e := 38) (k := 1) ([iv x1, iv x2, iv x3, iv x4, iv 0]) (digC dig0 ++ ([s0, iv 0, s0, iv 0, s0, iv 0, iv 0, iv 0, iv 0, iv 0, s0, s0, s0, s0, s0, iv 0, iv 0, s0, s0, s0]))
 have hcl:=nNum_ok (v0 := 0) hqq hsq (hl4.ext q31) (by unfold i64; omega)
 refine wl_invoke (t := 101) (name := "bastide/note.num") (f := 188) (by decide) mt188 rfl rfl hcl ?_
 clear hcl
 rintro _ w31 ⟨F31, A31, c31, l31, b31, cs31, x31, hp31, hF31, hl31, hrd31, hst31⟩
 obtain ⟨hI31, rfl⟩ := hrd31
 replace hFr:=hFr.fr hF31
 replace q3:=q3.fr hF31
 replace hp:=(hp31.az (itB gr 103 ([.slice A31 l31.length c31, .bool b31]) :: itB gn 38 ([iv x1, iv x2, iv x3, iv x4, iv 0, iv x31] ++ (digC dig0 ++ ([s0, iv 0, s0, iv 0, s0, iv 0, iv 0, iv 0, iv 0, iv 0, s0, s0, s0, s0, s0, iv 0, iv 0, s0, s0, s0]))) :: H))
 refine go ?_
 apply wdT 7 [.eq _,.eq _,.eq _,.eq _,.eq _,.eq _,.eq _]
 refine ⟨?_,?_,?_,?_,?_,?_,?_,trivial⟩<;>intro F wF hER hk
 exact Ld_ sc123 (hk.qi 2) ((hcap.fr q3).ext hER).head qz
 exact dm (hk.qi 1)
 exact Nc_ (hk.qe 1) qz
 exact Fd_ 6 fld38_6 (hk.qe 2) rfl qz
 have e191:=hk.qe 0
 exact wl_makeFunc (first := [.tmp 191]) (cap := []) (by decide) (by simp only [evs, ev, e191]; rfl) rfl qz
 exact wl_nilCheckM (t := 101) (by decide) mt186 (hk.qe 4) qz
 exact dm (hk.qe 0)
 intro F wD hED hini hdo
 refine wl_drop [(1, _), (2, _), (194, _), (197, _)] ⟨di hini 1, di hini 2, dr hdo 3, dr hdo 6, trivial⟩ ?_
 clear hini hdo
 replace hFr:=hFr.ext hED
 replace q3:=q3.ext hED
 have q32:=hED
 replace hp:=hp.ext hED
 have hqq:=hp.az (itB gr 103 ([.slice A31 l31.length c31, .bool b31]) :: itB gn 38 (([iv x1, iv x2, iv x3, iv x4, iv 0, iv x31]) ++ ((digC dig0) ++ ([s0, iv 0, s0, iv 0, s0, iv 0, iv 0, iv 0, iv 0, iv 0, s0, s0, s0, s0, s0, iv 0, iv 0, s0, s0, s0]))) :: H)
 have hsq:=Slot.blk (g := gn) (e := 38) (k := 32) ([iv x1, iv x2, iv x3, iv x4, iv 0, iv x31]) ([s0, iv 0, s0, iv 0, s0, iv 0, iv 0, iv 0, iv 0, iv 0, s0, s0, s0, s0, s0, iv 0, iv 0, s0, s0, s0])
 have hcl:=nDigest_ok (d0 := dig0) hqq hsq (hl31.ext q32)
 refine wl_invoke (t := 101) (name := "bastide/note.digest") (f := 186) (by decide) mt186 rfl rfl hcl ?_
 clear hcl
 rintro _ w32 ⟨F32, A32, c32, l32, b32, cs32, x32, hp32, hF32, hl32, hrd32, hst32⟩
 obtain rfl := hrd32
 replace hFr:=hFr.fr hF32
 replace q3:=q3.fr hF32
 replace hp:=(hp32.az (itB gr 103 ([.slice A32 l32.length c32, .bool b32]) :: itB gn 38 ([iv x1, iv x2, iv x3, iv x4, iv 0, iv x31] ++ (digC x32 ++ ([s0, iv 0, s0, iv 0, s0, iv 0, iv 0, iv 0, iv 0, iv 0, s0, s0, s0, s0, s0, iv 0, iv 0, s0, s0, s0]))) :: H))
 refine go ?_
 apply wdT 7 [.eq _,.eq _,.eq _,.eq _,.eq _,.eq _,.eq _]
 refine ⟨?_,?_,?_,?_,?_,?_,?_,trivial⟩<;>intro F wF hER hk
 exact Ld_ sc123 (hk.qi 2) ((hcap.fr q3).ext hER).head qz
 exact dm (hk.qi 1)
 exact Nc_ (hk.qe 1) qz
 exact Fd_ 53 fld38_14 (hk.qe 2) rfl qz
 have e199:=hk.qe 0
 exact wl_makeFunc (first := [.tmp 199]) (cap := []) (by decide) (by simp only [evs, ev, e199]; rfl) rfl qz
 exact wl_nilCheckM (t := 101) (by decide) mt188 (hk.qe 4) qz
 exact dm (hk.qe 0)
 intro F wD hED hini hdo
 refine wl_drop [(1, _), (2, _), (202, _), (205, _)] ⟨di hini 1, di hini 2, dr hdo 3, dr hdo 6, trivial⟩ ?_
 clear hini hdo
 replace hFr:=hFr.ext hED
 replace q3:=q3.ext hED
 have q33:=hED
 replace hp:=hp.ext hED
 have hqq:=hp.az (itB gr 103 ([.slice A32 l32.length c32, .bool b32]) :: itB gn 38 (([iv x1, iv x2, iv x3, iv x4, iv 0, iv x31] ++ (digC x32 ++ ([s0, iv 0, s0, iv 0, s0, iv 0, iv 0, iv 0, iv 0, iv 0, s0, s0, s0, s0, s0]))) ++ (([iv 0]) ++ ([iv 0, s0, s0, s0]))) :: H)
 have hsq:=Slot.blk (g := gn) (e := 38) (k := 1) ([iv x1, iv x2, iv x3, iv x4, iv 0, iv x31] ++ (digC x32 ++ ([s0, iv 0, s0, iv 0, s0, iv 0, iv 0, iv 0, iv 0, iv 0, s0, s0, s0, s0, s0]))) ([iv 0, s0, s0, s0])
 have hcl:=nNum_ok (v0 := 0) hqq hsq (hl32.ext q33) (by unfold i64; omega)
 refine wl_invoke (t := 101) (name := "bastide/note.num") (f := 188) (by decide) mt188 rfl rfl hcl ?_
 clear hcl
 rintro _ w33 ⟨F33, A33, c33, l33, b33, cs33, x33, hp33, hF33, hl33, hrd33, hst33⟩
 obtain ⟨hI33, rfl⟩ := hrd33
 replace hFr:=hFr.fr hF33
 replace q3:=q3.fr hF33
 replace hp:=(hp33.az (itB gr 103 ([.slice A33 l33.length c33, .bool b33]) :: itB gn 38 ([iv x1, iv x2, iv x3, iv x4, iv 0, iv x31] ++ (digC x32 ++ ([s0, iv 0, s0, iv 0, s0, iv 0, iv 0, iv 0, iv 0, iv 0, s0, s0, s0, s0, s0, iv x33, iv 0, s0, s0, s0]))) :: H))
 refine go ?_
 apply wdT 7 [.eq _,.eq _,.eq _,.eq _,.eq _,.eq _,.eq _]
 refine ⟨?_,?_,?_,?_,?_,?_,?_,trivial⟩<;>intro F wF hER hk
 exact Ld_ sc123 (hk.qi 2) ((hcap.fr q3).ext hER).head qz
 exact dm (hk.qi 1)
 exact Nc_ (hk.qe 1) qz
 exact Fd_ 54 fld38_15 (hk.qe 2) rfl qz
 have e207:=hk.qe 0
 exact wl_makeFunc (first := [.tmp 207]) (cap := []) (by decide) (by simp only [evs, ev, e207]; rfl) rfl qz
 exact wl_nilCheckM (t := 101) (by decide) mt188 (hk.qe 4) qz
 exact dm (hk.qe 0)
 intro F wD hED hini hdo
 refine wl_drop [(1, _), (2, _), (210, _), (213, _)] ⟨di hini 1, di hini 2, dr hdo 3, dr hdo 6, trivial⟩ ?_
 clear hini hdo
 replace hFr:=hFr.ext hED
 have q34:=hED
 replace hp:=hp.ext hED
 have hqq:=hp.az (itB gr 103 ([.slice A33 l33.length c33, .bool b33]) :: itB gn 38 (([iv x1, iv x2, iv x3, iv x4, iv 0, iv x31] ++ (digC x32 ++ ([s0, iv 0, s0, iv 0, s0, iv 0, iv 0, iv 0, iv 0, iv 0, s0, s0, s0, s0, s0, iv x33]))) ++ (([iv 0]) ++ ([s0, s0, s0]))) :: H)
 have hsq:=Slot.blk (g := gn) (e := 38) (k := 1) ([iv x1, iv x2, iv x3, iv x4, iv 0, iv x31] ++ (digC x32 ++ ([s0, iv 0, s0, iv 0, s0, iv 0, iv 0, iv 0, iv 0, iv 0, s0, s0, s0, s0, s0, iv x33]))) ([s0, s0, s0])
 have hcl:=nNum_ok (v0 := 0) hqq hsq (hl33.ext q34) (by unfold i64; omega)
 refine wl_invoke (t := 101) (name := "bastide/note.num") (f := 188) (by decide) mt188 rfl rfl hcl ?_
 clear hcl
 rintro _ w34 ⟨F34, A34, c34, l34, b34, cs34, x34, hp34, hF34, hl34, hrd34, hst34⟩
 obtain ⟨hI34, rfl⟩ := hrd34
 replace hFr:=hFr.fr hF34
 replace hp:=(hp34.az (itB gr 103 ([.slice A34 l34.length c34, .bool b34]) :: itB gn 38 ([iv x1, iv x2, iv x3, iv x4, iv 0, iv x31] ++ (digC x32 ++ ([s0, iv 0, s0, iv 0, s0, iv 0, iv 0, iv 0, iv 0, iv 0, s0, s0, s0, s0, s0, iv x33, iv x34, s0, s0, s0]))) :: H))
 refine go ?_
 refine Fd_ 0 fld38_0 rfl rfl ?_
 refine Hl_ 1 sc3 rfl hp rfl rfl ?_
 refine Eq_ rfl rfl (go ?_)
 refine Cd (fun hc19 => ?_) fun hc19 => ?_
 exact absurd hc19 (by omega)
 refine go ?_
 refine wk_post0 (.inr rfl) results65  ?_
 have hbd : StepP noteP (rst bad l) (rst b34 l34) ({ note0 with kind := x1, from_ := x2, group := x3, epoch := x4, seq := x31, dig := x32, level := x33, place := x34 } : Nte) := by
   refine StepP.bind hst1 (StepP.bind hst2 (StepP.bind hst3 (StepP.bind hst4 ?_)))
   unfold bodyP
   repeat (first | rw [if_neg (by omega)] | rw [if_pos (by omega)])
   exact StepP.bind hst31 (StepP.bind hst32 (StepP.bind hst33 (StepP.bind hst34 (StepP.pure _ _))))
 exact ⟨_, rfl, _, A34, c34, l34, b34, _, ({ note0 with kind := x1, from_ := x2, group := x3, epoch := x4, seq := x31, dig := x32, level := x33, place := x34 } : Nte), ((hp.up 1 rfl).up 1 rfl), hFr, hl34, ⟨⟨hI1, hI2, hI3, hI4, i0, hI31, i0, i0, i0, i0, i0, i0, i0, hI33, hI34⟩, _, _, _, _, _, _, _, _, _, _, _, _, _, _, _, _, _, _, _, _, _, _, rfl, gsn, gsn, gsn, gsn, gsn, gsn, gsn, gsn, gsn, gsn, gsn⟩, hbd⟩
 exact absurd hc17 hc18
 refine go ?_
 refine Eq_ rfl rfl (go ?_)
 refine Cd (fun hc20 => ?_) fun hc20 => ?_
 refine go ?_
 apply wdT 7 [.eq _,.eq _,.eq _,.eq _,.eq _,.eq _,.eq _]
 refine ⟨?_,?_,?_,?_,?_,?_,?_,trivial⟩<;>intro F wF hER hk
 exact Ld_ sc123 (hk.qi 2) ((hcap.fr q3).ext hER).head qz
 exact dm (hk.qi 1)
 exact Nc_ (hk.qe 1) qz
 exact Fd_ 5 fld38_5 (hk.qe 2) rfl qz
 have e183:=hk.qe 0
 exact wl_makeFunc (first := [.tmp 183]) (cap := []) (by decide) (by simp only [evs, ev, e183]; rfl) rfl qz
 exact wl_nilCheckM (t := 101) (by decide) mt188 (hk.qe 4) qz
 exact dm (hk.qe 0)
 intro F wD hED hini hdo
 refine wl_drop [(1, _), (2, _), (186, _), (189, _)] ⟨di hini 1, di hini 2, dr hdo 3, dr hdo 6, trivial⟩ ?_
 clear hini hdo
 replace hFr:=hFr.ext hED
 replace q3:=q3.ext hED
 have q35:=hED
 replace hp:=hp.ext hED
 have hqq:=hp.az (itB gr 103 ([.slice A4 l4.length c4, .bool b4]) :: itB gn 38 (([iv x1, iv x2, iv x3, iv x4, iv 0]) ++ (([iv 0]) ++ (digC dig0 ++ ([s0, iv 0, s0, iv 0, s0, iv 0, iv 0, iv 0, iv 0, iv 0, s0, s0, s0, s0, s0, iv 0, iv 0, s0, s0, s0])))) :: H)
 have hsq:=Slot.blk (g := gn) (e := 38) (k := 1) ([iv x1, iv x2, iv x3, iv x4, iv 0]) (digC dig0 ++ ([s0, iv 0, s0, iv 0, s0, iv 0, iv 0, iv 0, iv 0, iv 0, s0, s0, s0, s0, s0, iv 0, iv 0, s0, s0, s0]))
 have hcl:=nNum_ok (v0 := 0) hqq hsq (hl4.ext q35) (by unfold i64; omega)
 refine wl_invoke (t := 101) (name := "bastide/note.num") (f := 188) (by decide) mt188 rfl rfl hcl ?_
 clear hcl
 rintro _ w35 ⟨F35, A35, c35, l35, b35, cs35, x35, hp35, hF35, hl35, hrd35, hst35⟩
 obtain ⟨hI35, rfl⟩ := hrd35
 replace hFr:=hFr.fr hF35
 replace q3:=q3.fr hF35
 replace hp:=(hp35.az (itB gr 103 ([.slice A35 l35.length c35, .bool b35]) :: itB gn 38 ([iv x1, iv x2, iv x3, iv x4, iv 0, iv x35] ++ (digC dig0 ++ ([s0, iv 0, s0, iv 0, s0, iv 0, iv 0, iv 0, iv 0, iv 0, s0, s0, s0, s0, s0, iv 0, iv 0, s0, s0, s0]))) :: H))
 refine go ?_
 apply wdT 7 [.eq _,.eq _,.eq _,.eq _,.eq _,.eq _,.eq _]
 refine ⟨?_,?_,?_,?_,?_,?_,?_,trivial⟩<;>intro F wF hER hk
 exact Ld_ sc123 (hk.qi 2) ((hcap.fr q3).ext hER).head qz
 exact dm (hk.qi 1)
 exact Nc_ (hk.qe 1) qz
 exact Fd_ 6 fld38_6 (hk.qe 2) rfl qz
 have e191:=hk.qe 0
 exact wl_makeFunc (first := [.tmp 191]) (cap := []) (by decide) (by simp only [evs, ev, e191]; rfl) rfl qz
 exact wl_nilCheckM (t := 101) (by decide) mt186 (hk.qe 4) qz
 exact dm (hk.qe 0)
 intro F wD hED hini hdo
 refine wl_drop [(1, _), (2, _), (194, _), (197, _)] ⟨di hini 1, di hini 2, dr hdo 3, dr hdo 6, trivial⟩ ?_
 clear hini hdo
 replace hFr:=hFr.ext hED
 replace q3:=q3.ext hED
 have q36:=hED
 replace hp:=hp.ext hED
 have hqq:=hp.az (itB gr 103 ([.slice A35 l35.length c35, .bool b35]) :: itB gn 38 (([iv x1, iv x2, iv x3, iv x4, iv 0, iv x35]) ++ ((digC dig0) ++ ([s0, iv 0, s0, iv 0, s0, iv 0, iv 0, iv 0, iv 0, iv 0, s0, s0, s0, s0, s0, iv 0, iv 0, s0, s0, s0]))) :: H)
 have hsq:=Slot.blk (g := gn) (e := 38) (k := 32) ([iv x1, iv x2, iv x3, iv x4, iv 0, iv x35]) ([s0, iv 0, s0, iv 0, s0, iv 0, iv 0, iv 0, iv 0, iv 0, s0, s0, s0, s0, s0, iv 0, iv 0, s0, s0, s0])
 have hcl:=nDigest_ok (d0 := dig0) hqq hsq (hl35.ext q36)
 refine wl_invoke (t := 101) (name := "bastide/note.digest") (f := 186) (by decide) mt186 rfl rfl hcl ?_
 clear hcl
 rintro _ w36 ⟨F36, A36, c36, l36, b36, cs36, x36, hp36, hF36, hl36, hrd36, hst36⟩
 obtain rfl := hrd36
 replace hFr:=hFr.fr hF36
 replace q3:=q3.fr hF36
 replace hp:=(hp36.az (itB gr 103 ([.slice A36 l36.length c36, .bool b36]) :: itB gn 38 ([iv x1, iv x2, iv x3, iv x4, iv 0, iv x35] ++ (digC x36 ++ ([s0, iv 0, s0, iv 0, s0, iv 0, iv 0, iv 0, iv 0, iv 0, s0, s0, s0, s0, s0, iv 0, iv 0, s0, s0, s0]))) :: H))
 refine go ?_
 apply wdT 7 [.eq _,.eq _,.eq _,.eq _,.eq _,.eq _,.eq _]
 refine ⟨?_,?_,?_,?_,?_,?_,?_,trivial⟩<;>intro F wF hER hk
 exact Ld_ sc123 (hk.qi 2) ((hcap.fr q3).ext hER).head qz
 exact dm (hk.qi 1)
 exact Nc_ (hk.qe 1) qz
 exact Fd_ 53 fld38_14 (hk.qe 2) rfl qz
 have e199:=hk.qe 0
 exact wl_makeFunc (first := [.tmp 199]) (cap := []) (by decide) (by simp only [evs, ev, e199]; rfl) rfl qz
 exact wl_nilCheckM (t := 101) (by decide) mt188 (hk.qe 4) qz
 exact dm (hk.qe 0)
 intro F wD hED hini hdo
 refine wl_drop [(1, _), (2, _), (202, _), (205, _)] ⟨di hini 1, di hini 2, dr hdo 3, dr hdo 6, trivial⟩ ?_
 clear hini hdo
 replace hFr:=hFr.ext hED
 replace q3:=q3.ext hED
 have q37:=hED
 replace hp:=hp.ext hED
 have hqq:=hp.az (itB gr 103 ([.slice A36 l36.length c36, .bool b36]) :: itB gn 38 (([iv x1, iv x2, iv x3, iv x4, iv 0, iv x35] ++ (digC x36 ++ ([s0, iv 0, s0, iv 0, s0, iv 0, iv 0, iv 0, iv 0, iv 0, s0, s0, s0, s0, s0]))) ++ (([iv 0]) ++ ([iv 0, s0, s0, s0]))) :: H)
 have hsq:=Slot.blk (g := gn) (e := 38) (k := 1) ([iv x1, iv x2, iv x3, iv x4, iv 0, iv x35] ++ (digC x36 ++ ([s0, iv 0, s0, iv 0, s0, iv 0, iv 0, iv 0, iv 0, iv 0, s0, s0, s0, s0, s0]))) ([iv 0, s0, s0, s0])
 have hcl:=nNum_ok (v0 := 0) hqq hsq (hl36.ext q37) (by unfold i64; omega)
 refine wl_invoke (t := 101) (name := "bastide/note.num") (f := 188) (by decide) mt188 rfl rfl hcl ?_
 clear hcl
 rintro _ w37 ⟨F37, A37, c37, l37, b37, cs37, x37, hp37, hF37, hl37, hrd37, hst37⟩
 obtain ⟨hI37, rfl⟩ := hrd37
 replace hFr:=hFr.fr hF37
 replace q3:=q3.fr hF37
 replace hp:=(hp37.az (itB gr 103 ([.slice A37 l37.length c37, .bool b37]) :: itB gn 38 ([iv x1, iv x2, iv x3, iv x4, iv 0, iv x35] ++ (digC x36 ++ ([s0, iv 0, s0, iv 0, s0, iv 0, iv 0, iv 0, iv 0, iv 0, s0, s0, s0, s0, s0, iv x37, iv 0, s0, s0, s0]))) :: H))
 refine go ?_
 apply wdT 7 [.eq _,.eq _,.eq _,.eq _,.eq _,.eq _,.eq _]
 refine ⟨?_,?_,?_,?_,?_,?_,?_,trivial⟩<;>intro F wF hER hk
 exact Ld_ sc123 (hk.qi 2) ((hcap.fr q3).ext hER).head qz
 exact dm (hk.qi 1)
 exact Nc_ (hk.qe 1) qz
 exact Fd_ 54 fld38_15 (hk.qe 2) rfl qz
 have e207:=hk.qe 0
 exact wl_makeFunc (first := [.tmp 207]) (cap := []) (by decide) (by simp only [evs, ev, e207]; rfl) rfl qz
 exact wl_nilCheckM (t := 101) (by decide) mt188 (hk.qe 4) qz
 exact dm (hk.qe 0)
 intro F wD hED hini hdo
 refine wl_drop [(1, _), (2, _), (210, _), (213, _)] ⟨di hini 1, di hini 2, dr hdo 3, dr hdo 6, trivial⟩ ?_
 clear hini hdo
 replace hFr:=hFr.ext hED
 replace q3:=q3.ext hED
 have q38:=hED
 replace hp:=hp.ext hED
 have hqq:=hp.az (itB gr 103 ([.slice A37 l37.length c37, .bool b37]) :: itB gn 38 (([iv x1, iv x2, iv x3, iv x4, iv 0, iv x35] ++ (digC x36 ++ ([s0, iv 0, s0, iv 0, s0, iv 0, iv 0, iv 0, iv 0, iv 0, s0, s0, s0, s0, s0, iv x37]))) ++ (([iv 0]) ++ ([s0, s0, s0]))) :: H)
 have hsq:=Slot.blk (g := gn) (e := 38) (k := 1) ([iv x1, iv x2, iv x3, iv x4, iv 0, iv x35] ++ (digC x36 ++ ([s0, iv 0, s0, iv 0, s0, iv 0, iv 0, iv 0, iv 0, iv 0, s0, s0, s0, s0, s0, iv x37]))) ([s0, s0, s0])
 have hcl:=nNum_ok (v0 := 0) hqq hsq (hl37.ext q38) (by unfold i64; omega)
 refine wl_invoke (t := 101) (name := "bastide/note.num") (f := 188) (by decide) mt188 rfl rfl hcl ?_
 clear hcl
 rintro _ w38 ⟨F38, A38, c38, l38, b38, cs38, x38, hp38, hF38, hl38, hrd38, hst38⟩
 obtain ⟨hI38, rfl⟩ := hrd38
 replace hFr:=hFr.fr hF38
 replace q3:=q3.fr hF38
 replace hp:=(hp38.az (itB gr 103 ([.slice A38 l38.length c38, .bool b38]) :: itB gn 38 ([iv x1, iv x2, iv x3, iv x4, iv 0, iv x35] ++ (digC x36 ++ ([s0, iv 0, s0, iv 0, s0, iv 0, iv 0, iv 0, iv 0, iv 0, s0, s0, s0, s0, s0, iv x37, iv x38, s0, s0, s0]))) :: H))
 refine go ?_
 refine Fd_ 0 fld38_0 rfl rfl ?_
 refine Hl_ 1 sc3 rfl hp rfl rfl ?_
 refine Eq_ rfl rfl (go ?_)
 refine Cd (fun hc21 => ?_) fun hc21 => ?_
 refine go ?_
 apply wdT 7 [.eq _,.eq _,.eq _,.eq _,.eq _,.eq _,.eq _]
 refine ⟨?_,?_,?_,?_,?_,?_,?_,trivial⟩<;>intro F wF hER hk
 exact Ld_ sc123 (hk.qi 2) ((hcap.fr q3).ext hER).head qz
 exact dm (hk.qi 1)
 exact Nc_ (hk.qe 1) qz
 exact Fd_ 55 fld38_16 (hk.qe 2) rfl qz
 exact Ld_ sc123 (hk.qi 2) ((hcap.fr q3).ext hER).head qz
 exact wl_nilCheckI (by decide) (hk.qe 4) qz
 have e225:=hk.qe 5
 exact wl_makeFunc (first := [.tmp 225]) (cap := []) (by decide) (by simp only [evs, ev, e225]; rfl) rfl qz
 intro F wD hED hini hdo
 refine wl_drop [(1, _), (2, _), (220, _), (223, _), (226, _)] ⟨di hini 1, di hini 2, dr hdo 0, dr hdo 3, dr hdo 6, trivial⟩ ?_
 clear hini hdo
 replace hFr:=hFr.ext hED
 replace q3:=q3.ext hED
 have q39:=hED
 replace hp:=hp.ext hED
 have hqq:=hp.az (itB gr 103 ([.slice A38 l38.length c38, .bool b38]) :: itB gn 38 (([iv x1, iv x2, iv x3, iv x4, iv 0, iv x35] ++ (digC x36 ++ ([s0, iv 0, s0, iv 0, s0, iv 0, iv 0, iv 0, iv 0, iv 0, s0, s0, s0, s0, s0, iv x37, iv x38]))) ++ (([s0]) ++ ([s0, s0]))) :: H)
 have hsq:=Slot.blk (g := gn) (e := 38) (k := 1) ([iv x1, iv x2, iv x3, iv x4, iv 0, iv x35] ++ (digC x36 ++ ([s0, iv 0, s0, iv 0, s0, iv 0, iv 0, iv 0, iv 0, iv 0, s0, s0, s0, s0, s0, iv x37, iv x38]))) ([s0, s0])
 have hcl:=rListD_ok (p := digP) (most := 8) (FV := .func (.method "bastide/note.digest") [Value.iface 101 (pt gr 0)].toArray ([] : List Value).toArray) hqq hsq (hl38.ext q39) (fun w1 F1 H1 X pa A c l bad hF hp hS hl => RetV.meth (vs := [.pointer (some pa)]) mt186 (nDigest_ok (d0 := dig0) hp hS hl)) (by decide)
 refine Cl_ cl113 rfl hcl ?_
 clear hcl
 rintro _ w39 ⟨F39, A39, c39, l39, b39, cs39, x39, hp39, hF39, hl39, hrd39, hst39⟩
 obtain ⟨B39, d39, rfl, hg39⟩ := hrd39
 replace hFr:=hFr.fr hF39
 replace q3:=q3.fr hF39
 replace hp:=(hp39.az (itB gr 103 ([.slice A39 l39.length c39, .bool b39]) :: itB gn 38 ([iv x1, iv x2, iv x3, iv x4, iv 0, iv x35] ++ (digC x36 ++ ([s0, iv 0, s0, iv 0, s0, iv 0, iv 0, iv 0, iv 0, iv 0, s0, s0, s0, s0, s0, iv x37, iv x38, .slice B39 x39.length d39, s0, s0]))) :: H))
 refine go ?_
 apply wdT 7 [.eq _,.eq _,.eq _,.eq _,.eq _,.eq _,.eq _]
 refine ⟨?_,?_,?_,?_,?_,?_,?_,trivial⟩<;>intro F wF hER hk
 exact Ld_ sc123 (hk.qi 2) ((hcap.fr q3).ext hER).head qz
 exact dm (hk.qi 1)
 exact Nc_ (hk.qe 1) qz
 exact Fd_ 56 fld38_17 (hk.qe 2) rfl qz
 have e228:=hk.qe 0
 exact wl_makeFunc (first := [.tmp 228]) (cap := []) (by decide) (by simp only [evs, ev, e228]; rfl) rfl qz
 exact wl_nilCheckM (t := 101) (by decide) mt189 (hk.qe 4) qz
 exact dm (hk.qe 0)
 intro F wD hED hini hdo
 refine wl_drop [(231, _), (234, _)] ⟨dr hdo 3, dr hdo 6, trivial⟩ ?_
 clear hini hdo
 replace hFr:=hFr.ext hED
 have q40:=hED
 replace hp:=hp.ext hED
 have hqq:=hp.az (itB gr 103 ([.slice A39 l39.length c39, .bool b39]) :: itB gn 38 (([iv x1, iv x2, iv x3, iv x4, iv 0, iv x35] ++ (digC x36 ++ ([s0, iv 0, s0, iv 0, s0, iv 0, iv 0, iv 0, iv 0, iv 0, s0, s0, s0, s0, s0, iv x37, iv x38, .slice B39 x39.length d39]))) ++ (([s0]) ++ ([s0]))) :: H)
 have hsq:=Slot.blk (g := gn) (e := 38) (k := 1) ([iv x1, iv x2, iv x3, iv x4, iv 0, iv x35] ++ (digC x36 ++ ([s0, iv 0, s0, iv 0, s0, iv 0, iv 0, iv 0, iv 0, iv 0, s0, s0, s0, s0, s0, iv x37, iv x38, .slice B39 x39.length d39]))) ([s0])
 have hcl:=nStr_ok (most := 1024) hqq hsq (hl39.ext q40)
 refine wl_invoke (t := 101) (name := "bastide/note.str") (f := 189) (by decide) mt189 rfl rfl hcl ?_
 clear hcl
 rintro _ w40 ⟨F40, A40, c40, l40, b40, cs40, x40, hp40, hF40, hl40, hrd40, hst40⟩
 obtain ⟨B40, d40, rfl, hg40⟩ := hrd40
 replace hFr:=hFr.fr hF40
 have q41:=hl39.tk.ext q40
 replace q41:=q41.fr hF40
 replace hp:=(hp40.az (itB gr 103 ([.slice A40 l40.length c40, .bool b40]) :: itB gn 38 ([iv x1, iv x2, iv x3, iv x4, iv 0, iv x35] ++ (digC x36 ++ ([s0, iv 0, s0, iv 0, s0, iv 0, iv 0, iv 0, iv 0, iv 0, s0, s0, s0, s0, s0, iv x37, iv x38, .slice B39 x39.length d39, .slice B40 x40.length d40, s0]))) :: H))
 refine go ?_
 refine wk_post0 (.inr rfl) results65  ?_
 have hbd : StepP noteP (rst bad l) (rst b40 l40) ({ note0 with kind := x1, from_ := x2, group := x3, epoch := x4, seq := x35, dig := x36, level := x37, place := x38, digs := x39, data := x40 } : Nte) := by
   refine StepP.bind hst1 (StepP.bind hst2 (StepP.bind hst3 (StepP.bind hst4 ?_)))
   unfold bodyP
   repeat (first | rw [if_neg (by omega)] | rw [if_pos (by omega)])
   exact StepP.bind hst35 (StepP.bind hst36 (StepP.bind hst37 (StepP.bind hst38 (StepP.bind hst39 (StepP.bind hst40 (StepP.pure _ _))))))
 exact ⟨_, rfl, _, A40, c40, l40, b40, _, ({ note0 with kind := x1, from_ := x2, group := x3, epoch := x4, seq := x35, dig := x36, level := x37, place := x38, digs := x39, data := x40 } : Nte), ((hp.up 1 rfl).up 1 rfl), hFr, hl40, ⟨⟨hI1, hI2, hI3, hI4, i0, hI35, i0, i0, i0, i0, i0, i0, i0, hI37, hI38⟩, _, _, _, _, _, _, _, _, _, _, _, _, _, _, _, _, _, _, _, _, _, _, rfl, gsn, gsn, gsn, gsn, gsn, gsn, gsn, gsn, (hg39.fr q41), hg40, gsn⟩, hbd⟩
 exact absurd hc20 hc21
 refine go ?_
 refine Eq_ rfl rfl (go ?_)
 refine Cd (fun hc22 => ?_) fun hc22 => ?_
 refine go ?_
 apply wdT 7 [.eq _,.eq _,.eq _,.eq _,.eq _,.eq _,.eq _]
 refine ⟨?_,?_,?_,?_,?_,?_,?_,trivial⟩<;>intro F wF hER hk
 exact Ld_ sc123 (hk.qi 2) ((hcap.fr q3).ext hER).head qz
 exact dm (hk.qi 1)
 exact Nc_ (hk.qe 1) qz
 exact Fd_ 57 fld38_18 (hk.qe 2) rfl qz
 exact Ld_ sc123 (hk.qi 2) ((hcap.fr q3).ext hER).head qz
 exact wl_nilCheckI (by decide) (hk.qe 4) qz
 have e241:=hk.qe 5
 exact wl_makeFunc (first := [.tmp 241]) (cap := []) (by decide) (by simp only [evs, ev, e241]; rfl) rfl qz
 intro F wD hED hini hdo
 refine wl_drop [(236, _), (239, _), (242, _)] ⟨dr hdo 0, dr hdo 3, dr hdo 6, trivial⟩ ?_
 clear hini hdo
 replace hFr:=hFr.ext hED
 have q42:=hED
 replace hp:=hp.ext hED
 have hqq:=hp.az (itB gr 103 ([.slice A4 l4.length c4, .bool b4]) :: itB gn 38 (([iv x1, iv x2, iv x3, iv x4, iv 0, iv 0] ++ (digC dig0 ++ ([s0, iv 0, s0, iv 0, s0, iv 0, iv 0, iv 0, iv 0, iv 0, s0, s0, s0, s0, s0, iv 0, iv 0, s0, s0]))) ++ (([s0]) ++ ([]))) :: H)
 have hsq:=Slot.blk (g := gn) (e := 38) (k := 1) ([iv x1, iv x2, iv x3, iv x4, iv 0, iv 0] ++ (digC dig0 ++ ([s0, iv 0, s0, iv 0, s0, iv 0, iv 0, iv 0, iv 0, iv 0, s0, s0, s0, s0, s0, iv 0, iv 0, s0, s0]))) ([])
 have hcl:=rListI_ok (p := numP) (most := 7) (FV := .func (.method "bastide/note.num") [Value.iface 101 (pt gr 0)].toArray ([] : List Value).toArray) hqq hsq (hl4.ext q42) (fun w1 F1 H1 X pa A c l bad hF hp hS hl => RetV.meth (vs := [.pointer (some pa)]) mt188 (nNum_ok (v0 := 0) hp hS hl (by unfold i64; omega))) (by decide)
 refine Cl_ cl114 rfl hcl ?_
 clear hcl
 rintro _ w41 ⟨F41, A41, c41, l41, b41, cs41, x41, hp41, hF41, hl41, hrd41, hst41⟩
 obtain ⟨B41, d41, rfl, hg41⟩ := hrd41
 replace hg41:=hg41.ints
 replace hFr:=hFr.fr hF41
 replace hp:=(hp41.az (itB gr 103 ([.slice A41 l41.length c41, .bool b41]) :: itB gn 38 ([iv x1, iv x2, iv x3, iv x4, iv 0, iv 0] ++ (digC dig0 ++ ([s0, iv 0, s0, iv 0, s0, iv 0, iv 0, iv 0, iv 0, iv 0, s0, s0, s0, s0, s0, iv 0, iv 0, s0, s0, .slice B41 x41.length d41]))) :: H))
 refine go ?_
 refine wk_post0 (.inr rfl) results65  ?_
 have hbd : StepP noteP (rst bad l) (rst b41 l41) ({ note0 with kind := x1, from_ := x2, group := x3, epoch := x4, nodes := x41 } : Nte) := by
   refine StepP.bind hst1 (StepP.bind hst2 (StepP.bind hst3 (StepP.bind hst4 ?_)))
   unfold bodyP
   repeat (first | rw [if_neg (by omega)] | rw [if_pos (by omega)])
   exact StepP.bind hst41 (StepP.pure _ _)
 exact ⟨_, rfl, _, A41, c41, l41, b41, _, ({ note0 with kind := x1, from_ := x2, group := x3, epoch := x4, nodes := x41 } : Nte), ((hp.up 1 rfl).up 1 rfl), hFr, hl41, ⟨⟨hI1, hI2, hI3, hI4, i0, i0, i0, i0, i0, i0, i0, i0, i0, i0, i0⟩, _, _, _, _, _, _, _, _, _, _, _, _, _, _, _, _, _, _, _, _, _, _, rfl, gsn, gsn, gsn, gsn, gsn, gsn, gsn, gsn, gsn, gsn, hg41⟩, hbd⟩
 refine go ?_
 refine Eq_ rfl rfl (go ?_)
 refine Cd (fun hc23 => ?_) fun hc23 => ?_
 refine go ?_
 apply wdT 7 [.eq _,.eq _,.eq _,.eq _,.eq _,.eq _,.eq _]
 refine ⟨?_,?_,?_,?_,?_,?_,?_,trivial⟩<;>intro F wF hER hk
 exact Ld_ sc123 (hk.qi 2) ((hcap.fr q3).ext hER).head qz
 exact dm (hk.qi 1)
 exact Nc_ (hk.qe 1) qz
 exact Fd_ 5 fld38_5 (hk.qe 2) rfl qz
 have e244:=hk.qe 0
 exact wl_makeFunc (first := [.tmp 244]) (cap := []) (by decide) (by simp only [evs, ev, e244]; rfl) rfl qz
 exact wl_nilCheckM (t := 101) (by decide) mt188 (hk.qe 4) qz
 exact dm (hk.qe 0)
 intro F wD hED hini hdo
 refine wl_drop [(1, _), (2, _), (247, _), (250, _)] ⟨di hini 1, di hini 2, dr hdo 3, dr hdo 6, trivial⟩ ?_
 clear hini hdo
 replace hFr:=hFr.ext hED
 replace q3:=q3.ext hED
 have q43:=hED
 replace hp:=hp.ext hED
 have hqq:=hp.az (itB gr 103 ([.slice A4 l4.length c4, .bool b4]) :: itB gn 38 (([iv x1, iv x2, iv x3, iv x4, iv 0]) ++ (([iv 0]) ++ (digC dig0 ++ ([s0, iv 0, s0, iv 0, s0, iv 0, iv 0, iv 0, iv 0, iv 0, s0, s0, s0, s0, s0, iv 0, iv 0, s0, s0, s0])))) :: H)
 have hsq:=Slot.blk (g := gn) (e := 38) (k := 1) ([iv x1, iv x2, iv x3, iv x4, iv 0]) (digC dig0 ++ ([s0, iv 0, s0, iv 0, s0, iv 0, iv 0, iv 0, iv 0, iv 0, s0, s0, s0, s0, s0, iv 0, iv 0, s0, s0, s0]))
 have hcl:=nNum_ok (v0 := 0) hqq hsq (hl4.ext q43) (by unfold i64; omega)
 refine wl_invoke (t := 101) (name := "bastide/note.num") (f := 188) (by decide) mt188 rfl rfl hcl ?_
 clear hcl
 rintro _ w42 ⟨F42, A42, c42, l42, b42, cs42, x42, hp42, hF42, hl42, hrd42, hst42⟩
 obtain ⟨hI42, rfl⟩ := hrd42
 replace hFr:=hFr.fr hF42
 replace q3:=q3.fr hF42
 replace hp:=(hp42.az (itB gr 103 ([.slice A42 l42.length c42, .bool b42]) :: itB gn 38 ([iv x1, iv x2, iv x3, iv x4, iv 0, iv x42] ++ (digC dig0 ++ ([s0, iv 0, s0, iv 0, s0, iv 0, iv 0, iv 0, iv 0, iv 0, s0, s0, s0, s0, s0, iv 0, iv 0, s0, s0, s0]))) :: H))
 refine go ?_
 apply wdT 7 [.eq _,.eq _,.eq _,.eq _,.eq _,.eq _,.eq _]
 refine ⟨?_,?_,?_,?_,?_,?_,?_,trivial⟩<;>intro F wF hER hk
 exact Ld_ sc123 (hk.qi 2) ((hcap.fr q3).ext hER).head qz
 exact dm (hk.qi 1)
 exact Nc_ (hk.qe 1) qz
 exact Fd_ 38 fld38_7 (hk.qe 2) rfl qz
 have e252:=hk.qe 0
 exact wl_makeFunc (first := [.tmp 252]) (cap := []) (by decide) (by simp only [evs, ev, e252]; rfl) rfl qz
 exact wl_nilCheckM (t := 101) (by decide) mt185 (hk.qe 4) qz
 exact dm (hk.qe 0)
 intro F wD hED hini hdo
 refine wl_drop [(255, _), (258, _)] ⟨dr hdo 3, dr hdo 6, trivial⟩ ?_
 clear hini hdo
 replace hFr:=hFr.ext hED
 have q44:=hED
 replace hp:=hp.ext hED
 have hqq:=hp.az (itB gr 103 ([.slice A42 l42.length c42, .bool b42]) :: itB gn 38 (([iv x1, iv x2, iv x3, iv x4, iv 0, iv x42] ++ (digC dig0)) ++ (([s0]) ++ ([iv 0, s0, iv 0, s0, iv 0, iv 0, iv 0, iv 0, iv 0, s0, s0, s0, s0, s0, iv 0, iv 0, s0, s0, s0]))) :: H)
 have hsq:=Slot.blk (g := gn) (e := 38) (k := 1) ([iv x1, iv x2, iv x3, iv x4, iv 0, iv x42] ++ (digC dig0)) ([iv 0, s0, iv 0, s0, iv 0, iv 0, iv 0, iv 0, iv 0, s0, s0, s0, s0, s0, iv 0, iv 0, s0, s0, s0])
 have hcl:=nBatch_ok hqq hsq (hl42.ext q44)
 refine wl_invoke (t := 101) (name := "bastide/note.batch") (f := 185) (by decide) mt185 rfl rfl hcl ?_
 clear hcl
 rintro _ w43 ⟨F43, A43, c43, l43, b43, cs43, x43, hp43, hF43, hl43, hrd43, hst43⟩
 obtain ⟨B43, d43, rfl, hg43⟩ := hrd43
 replace hFr:=hFr.fr hF43
 replace hp:=(hp43.az (itB gr 103 ([.slice A43 l43.length c43, .bool b43]) :: itB gn 38 ([iv x1, iv x2, iv x3, iv x4, iv 0, iv x42] ++ (digC dig0 ++ ([.slice B43 x43.length d43, iv 0, s0, iv 0, s0, iv 0, iv 0, iv 0, iv 0, iv 0, s0, s0, s0, s0, s0, iv 0, iv 0, s0, s0, s0]))) :: H))
 refine go ?_
 refine wk_post0 (.inr rfl) results65  ?_
 have hbd : StepP noteP (rst bad l) (rst b43 l43) ({ note0 with kind := x1, from_ := x2, group := x3, epoch := x4, seq := x42, batch := x43 } : Nte) := by
   refine StepP.bind hst1 (StepP.bind hst2 (StepP.bind hst3 (StepP.bind hst4 ?_)))
   unfold bodyP
   repeat (first | rw [if_neg (by omega)] | rw [if_pos (by omega)])
   exact StepP.bind hst42 (StepP.bind hst43 (StepP.pure _ _))
 exact ⟨_, rfl, _, A43, c43, l43, b43, _, ({ note0 with kind := x1, from_ := x2, group := x3, epoch := x4, seq := x42, batch := x43 } : Nte), ((hp.up 1 rfl).up 1 rfl), hFr, hl43, ⟨⟨hI1, hI2, hI3, hI4, i0, hI42, i0, i0, i0, i0, i0, i0, i0, i0, i0⟩, _, _, _, _, _, _, _, _, _, _, _, _, _, _, _, _, _, _, _, _, _, _, rfl, hg43, gsn, gsn, gsn, gsn, gsn, gsn, gsn, gsn, gsn, gsn⟩, hbd⟩
 refine go ?_
 refine wk_post0 (.inr rfl) results65  ?_
 have hbd : StepP noteP (rst bad l) (rst b4 l4) ({ note0 with kind := x1, from_ := x2, group := x3, epoch := x4 } : Nte) := by
   refine StepP.bind hst1 (StepP.bind hst2 (StepP.bind hst3 (StepP.bind hst4 ?_)))
   unfold bodyP
   repeat (first | rw [if_neg (by omega)] | rw [if_pos (by omega)])
   exact StepP.pure _ _
 exact ⟨_, rfl, _, A4, c4, l4, b4, _, ({ note0 with kind := x1, from_ := x2, group := x3, epoch := x4 } : Nte), ((hp.up 1 rfl).up 1 rfl), hFr, hl4, ⟨⟨hI1, hI2, hI3, hI4, i0, i0, i0, i0, i0, i0, i0, i0, i0, i0, i0⟩, _, _, _, _, _, _, _, _, _, _, _, _, _, _, _, _, _, _, _, _, _, _, rfl, gsn, gsn, gsn, gsn, gsn, gsn, gsn, gsn, gsn, gsn, gsn⟩, hbd⟩
def ReadR (l : List UInt8) (x : Nte) (ok : Bool) : Prop := (ok = true → noteP l = some (x, [])) ∧ (ok = false → ∀ y, noteP l ≠ some (y, []))
theorem read_bad {l lR : List UInt8} {b ok : Bool} {x : Nte} (h : StepP noteP (some l) (rst b lR) x) (hb : b = true) (ho : ok = false) : ReadR l x ok := by
 subst hb ho
 have h1 : noteP l = none := h
 exact ⟨fun hh => absurd hh (by decide), fun _ y => by rw [h1]; simp⟩
theorem read_ok {l lR : List UInt8} {b ok : Bool} {x : Nte} (h : StepP noteP (some l) (rst b lR) x) (hb : b = false) (ho : ok = decide ((lR.length : Int) = 0)) : ReadR l x ok := by
 subst hb ho
 have h1 : noteP l = some (x, lR) := h
 refine ⟨fun hh => ?_, fun hh y => ?_⟩
 ·have h2 := of_decide_eq_true hh
  rw [h1, List.eq_nil_of_length_eq_zero (show lR.length = 0 by omega)]
 ·have h2 := of_decide_eq_false hh
  rw [h1]
  intro h3
  simp only [Option.some.injEq, Prod.mk.injEq] at h3
  rw [h3.2] at h2
  exact h2 rfl
set_option maxHeartbeats 40000000 in
theorem nRead_ok {l : List UInt8} (hp : HP w0 M0 Fz w H) (hl : GS byteR Fz w A c l) : Ret prog 40 #[.slice A l.length c] w (fun v w2 => ∃ F2 cs x ok, v = .tuple #[.agg cs.toArray, .bool ok] ∧ HP w0 M0 F2 w2 H ∧ Frz Fz F2 w w2 ∧ noteR.rd F2 w2 cs x ∧ ReadR l x ok) := by
 have hFr:=Frz.start Fz w
 refine ret_of_wk func40 rfl ntmps40 leB_ ?_
 refine go ?_
 refine wl_halloc (z := .agg #[iv 0, iv 0, iv 0, iv 0, iv 0, iv 0, .int .u8 0, .int .u8 0, .int .u8 0, .int .u8 0, .int .u8 0, .int .u8 0, .int .u8 0, .int .u8 0, .int .u8 0, .int .u8 0, .int .u8 0, .int .u8 0, .int .u8 0, .int .u8 0, .int .u8 0, .int .u8 0, .int .u8 0, .int .u8 0, .int .u8 0, .int .u8 0, .int .u8 0, .int .u8 0, .int .u8 0, .int .u8 0, .int .u8 0, .int .u8 0, .int .u8 0, .int .u8 0, .int .u8 0, .int .u8 0, .int .u8 0, .int .u8 0, s0, iv 0, s0, iv 0, s0, iv 0, iv 0, iv 0, iv 0, iv 0, s0, s0, s0, s0, s0, iv 0, iv 0, s0, s0, s0]) (by decide) (by kernel_rfl) hp ?_
 rintro gs2 w1 hp1 hE1
 replace hFr:=hFr.ext hE1
 have q0:=hE1
 replace hp:=hp1
 refine go ?_
 refine wl_builtS (ps := [(0, .tmp 5)]) (by decide) bld103 rfl rfl ?_
 refine wl_hbox (by decide) rfl hp ?_
 rintro gs7 w2 hp2 hE2
 replace hFr:=hFr.ext hE2
 replace q0:=q0.trans hE2
 replace hp:=hp2
 refine go ?_
 refine go ?_
 refine wl_iface (by decide) (by kernel_rfl) rfl ?_
 have hcl:=rShow_ok hp (hl.ext q0)
 refine Cl_ cl65 rfl hcl ?_
 clear hcl
 rintro _ w3 ⟨F3, A3, c3, l3, b3, cs3, x3, hp3, hF3, hl3, hrd3, hst3⟩
 obtain ⟨hI3, A3_0, c3_0, A3_1, c3_1, A3_2, c3_2, A3_3, c3_3, A3_4, c3_4, A3_5, c3_5, A3_6, c3_6, A3_7, c3_7, A3_8, c3_8, A3_9, c3_9, A3_10, c3_10, rfl, hr3_0, hr3_1, hr3_2, hr3_3, hr3_4, hr3_5, hr3_6, hr3_7, hr3_8, hr3_9, hr3_10⟩ := hrd3
 replace hFr:=hFr.fr hF3
 replace hp:=(hp3.az (itB gs7 103 ([.slice A3 l3.length c3, .bool b3]) :: itB gs2 38 ([iv x3.kind, iv x3.from_, iv x3.group, iv x3.epoch, iv x3.view, iv x3.seq] ++ (digC x3.dig ++ ([.slice A3_0 x3.batch.length c3_0, iv x3.ans.err, .slice A3_1 x3.ans.data.length c3_1, iv x3.ans.epoch, .slice A3_2 x3.ans.nodes.length c3_2, iv x3.stamp, iv x3.node, iv x3.change.node, iv x3.change.view, iv x3.change.low, .slice A3_3 x3.change.marks.length c3_3, .slice A3_4 x3.change.p.length c3_4, .slice A3_5 x3.change.q.length c3_5, .slice A3_6 x3.changes.length c3_6, .slice A3_7 x3.picks.length c3_7, iv x3.level, iv x3.place, .slice A3_8 x3.digs.length c3_8, .slice A3_9 x3.data.length c3_9, .slice A3_10 x3.nodes.length c3_10]))) :: H))
 refine go ?_
 by_cases hs1 : b3 = true
 apply wdL [.eq _,.eq _,.eq _,.eq _,.eq (.bool true),.eq (.bool false),.eq (.bool false),.eq undef,.eq undef,.eq undef,.eq undef,.eq undef,.eq undef,.eq (.bool false),.eq undef,.eq (.bool false)]
 refine ⟨?_,?_,?_,?_,?_,?_,?_,?_,?_,?_,?_,?_,?_,?_,?_,?_,trivial⟩<;>intro F wF hER hk
 exact Hx_ ([iv x3.kind, iv x3.from_, iv x3.group, iv x3.epoch, iv x3.view, iv x3.seq] ++ (digC x3.dig ++ ([.slice A3_0 x3.batch.length c3_0, iv x3.ans.err, .slice A3_1 x3.ans.data.length c3_1, iv x3.ans.epoch, .slice A3_2 x3.ans.nodes.length c3_2, iv x3.stamp, iv x3.node, iv x3.change.node, iv x3.change.view, iv x3.change.low, .slice A3_3 x3.change.marks.length c3_3, .slice A3_4 x3.change.p.length c3_4, .slice A3_5 x3.change.q.length c3_5, .slice A3_6 x3.changes.length c3_6, .slice A3_7 x3.picks.length c3_7, iv x3.level, iv x3.place, .slice A3_8 x3.digs.length c3_8, .slice A3_9 x3.data.length c3_9, .slice A3_10 x3.nodes.length c3_10]))) 1 ag38 (hk.pi 2) (hp.ext hER) rfl rfl rfl qz
 exact dm (hk.pi 4)
 exact Nc_ (hk.pe 1) qz
 exact Fd_ 1 fld103_1 (hk.pe 2) rfl qz
 have e14:=hk.pe 3
 refine Hl_ 0 sc4 e14 (hp.ext hER) rfl rfl ?_
 exact wl_re (k := 15) (v := .bool true) rfl (congrArg Value.bool hs1) qy
 have e15:=hk.pe 4
 first | exact Nd_ e15 qz | exact Nn_ e15 qz
 exact dm (hk.pe 5)
 exact dn (hk.pe 6)
 exact dn (hk.pe 6)
 exact dn (hk.pe 6)
 exact dn (hk.pe 6)
 exact dn (hk.pe 6)
 exact dn (hk.pe 6)
 have e17:=hk.pe 6
 have e23:=hk.pe 12
 exact Pk_ e17 rfl qz
 have e2:=hk.pi 2
 have e11:=hk.pe 0
 refine wl_hsame (i := 1) (k := 58) e2 e11 (hp.ext hER) rfl sz38 rfl (List.all_eq_true.1 rfl) ?_
 exact wl_nil (qr_none ⟨Chg.refl _ _, rfl⟩)
 exact wl_assign (by decide) (hk.pe 13) qz
 intro F wD hED hini hdo
 refine wk_drop [(2, _), (3, _)] ⟨di hini 2, dq hdo 15, trivial⟩ ?_
 clear hini hdo
 replace hFr:=hFr.ext hED
 have q1:=hED
 replace hp:=hp.ext hED
 refine go ?_
 refine wk_postR (rs := [.cell 2 38, .tmp 3]) (.inl rfl) results40 ⟨_, _, _, rfl, rfl, loadVar_agg ag38 (hp.blkAt (i := 1) rfl).at0 rfl, ⟨_, _, rfl, rfl, rfl⟩⟩ ?_
 exact ⟨_, rfl, _, _, x3, _, rfl, hp.tail.tail, hFr, ⟨hI3, _, _, _, _, _, _, _, _, _, _, _, _, _, _, _, _, _, _, _, _, _, _, rfl, (hr3_0.ext q1), (hr3_1.ext q1), (hr3_2.ext q1), (hr3_3.ext q1), (hr3_4.ext q1), (hr3_5.ext q1), (hr3_6.ext q1), (hr3_7.ext q1), (hr3_8.ext q1), (hr3_9.ext q1), (hr3_10.ext q1)⟩, by first | exact read_ok hst3 (by assumption) rfl | exact read_bad hst3 (by assumption) rfl⟩
 replace hs1:=eq_false_of_ne_true hs1
 apply wdL [.eq _,.eq _,.eq _,.eq _,.eq (.bool false),.eq (.bool true),.eq (.bool true),.eq _,.eq _,.eq _,.eq _,.eq _,.eq _,.eq _,.eq undef,.eq _]
 refine ⟨?_,?_,?_,?_,?_,?_,?_,?_,?_,?_,?_,?_,?_,?_,?_,?_,trivial⟩<;>intro F wF hER hk
 exact Hx_ ([iv x3.kind, iv x3.from_, iv x3.group, iv x3.epoch, iv x3.view, iv x3.seq] ++ (digC x3.dig ++ ([.slice A3_0 x3.batch.length c3_0, iv x3.ans.err, .slice A3_1 x3.ans.data.length c3_1, iv x3.ans.epoch, .slice A3_2 x3.ans.nodes.length c3_2, iv x3.stamp, iv x3.node, iv x3.change.node, iv x3.change.view, iv x3.change.low, .slice A3_3 x3.change.marks.length c3_3, .slice A3_4 x3.change.p.length c3_4, .slice A3_5 x3.change.q.length c3_5, .slice A3_6 x3.changes.length c3_6, .slice A3_7 x3.picks.length c3_7, iv x3.level, iv x3.place, .slice A3_8 x3.digs.length c3_8, .slice A3_9 x3.data.length c3_9, .slice A3_10 x3.nodes.length c3_10]))) 1 ag38 (hk.pi 2) (hp.ext hER) rfl rfl rfl qz
 exact dm (hk.pi 4)
 exact Nc_ (hk.pe 1) qz
 exact Fd_ 1 fld103_1 (hk.pe 2) rfl qz
 have e14:=hk.pe 3
 refine Hl_ 0 sc4 e14 (hp.ext hER) rfl rfl ?_
 exact wl_re (k := 15) (v := .bool false) rfl (congrArg Value.bool hs1) qy
 have e15:=hk.pe 4
 first | exact Nd_ e15 qz | exact Nn_ e15 qz
 exact dm (hk.pe 5)
 have e4:=hk.pi 4
 have e17:=hk.pe 6
 refine wl_gyes rfl e17 ?_
 exact Mv_ e4 qz
 have e18:=hk.pe 7
 have e17:=hk.pe 6
 refine wl_gyes rfl e17 ?_
 exact Nc_ e18 qz
 have e19:=hk.pe 8
 have e17:=hk.pe 6
 refine wl_gyes rfl e17 ?_
 exact Fd_ 0 fld103_0 e19 rfl qz
 have e20:=hk.pe 9
 have e17:=hk.pe 6
 refine wl_gyes rfl e17 ?_
 exact Hl_ 0 sc26 e20 (hp.ext hER) rfl rfl qz
 have e21:=hk.pe 10
 have e17:=hk.pe 6
 refine wl_gyes rfl e17 ?_
 exact Ln_ underlying26 e21 qz
 have e22:=hk.pe 11
 have e17:=hk.pe 6
 refine wl_gyes rfl e17 ?_
 exact Eq_ e22 rfl qz
 have e17:=hk.pe 6
 have e23:=hk.pe 12
 exact Pk_ e17 e23 qz
 have e2:=hk.pi 2
 have e11:=hk.pe 0
 refine wl_hsame (i := 1) (k := 58) e2 e11 (hp.ext hER) rfl sz38 rfl (List.all_eq_true.1 rfl) ?_
 exact wl_nil (qr_none ⟨Chg.refl _ _, rfl⟩)
 exact wl_assign (by decide) (hk.pe 13) qz
 intro F wD hED hini hdo
 refine wk_drop [(2, _), (3, _)] ⟨di hini 2, dq hdo 15, trivial⟩ ?_
 clear hini hdo
 replace hFr:=hFr.ext hED
 have q2:=hED
 replace hp:=hp.ext hED
 refine go ?_
 refine wk_postR (rs := [.cell 2 38, .tmp 3]) (.inl rfl) results40 ⟨_, _, _, rfl, rfl, loadVar_agg ag38 (hp.blkAt (i := 1) rfl).at0 rfl, ⟨_, _, rfl, rfl, rfl⟩⟩ ?_
 exact ⟨_, rfl, _, _, x3, _, rfl, hp.tail.tail, hFr, ⟨hI3, _, _, _, _, _, _, _, _, _, _, _, _, _, _, _, _, _, _, _, _, _, _, rfl, (hr3_0.ext q2), (hr3_1.ext q2), (hr3_2.ext q2), (hr3_3.ext q2), (hr3_4.ext q2), (hr3_5.ext q2), (hr3_6.ext q2), (hr3_7.ext q2), (hr3_8.ext q2), (hr3_9.ext q2), (hr3_10.ext q2)⟩, by first | exact read_ok hst3 (by assumption) rfl | exact read_bad hst3 (by assumption) rfl⟩
theorem changes_few {b t : List UInt8} {n : Nte} (h : noteP b = some (n, t)) : n.changes.length ≤ 7 := by
 obtain ⟨_, hok, ho⟩ := note_back b n t h
 by_cases k9 : n.kind = 9
 ·have h1 := hok.2.2.2.2
  unfold bodyOk at h1
  rw [if_neg (by omega), if_neg (by omega), if_neg (by omega), if_neg (by omega), if_neg (by omega), if_neg (by omega), if_neg (by omega), if_pos k9] at h1
  have h2 := h1.2.1.1
  omega
 ·have h1 : (ownN n).changes = [] := by
   unfold ownN
   simp only [if_neg k9, apply_ite Nte.changes]
   simp [note0]
  rw [ho] at h1
  rw [h1]
  exact Nat.zero_le _
theorem unpack_bad {l : List UInt8} {x : Nte} (h : ReadR l x false) : unpackS l = (note0, 4) := by
 unfold unpackS
 cases hn : noteP l with
 | none => rfl
 | some y =>
  obtain ⟨y, u⟩ := y
  have := h.2 rfl y
  cases u with
  | nil => exact absurd hn this
  | cons a u => simp
set_option maxHeartbeats 40000000 in
theorem nUnpack_ok {l : List UInt8} (hp : HP w0 M0 Fz w H) (hl : GS byteR Fz w A c l) : Ret prog 21 #[.slice A l.length c] w (fun v w2 => ∃ F2 cs x e, v = .tuple #[.agg cs.toArray, .int .i64 e] ∧ HP w0 M0 F2 w2 H ∧ Frz Fz F2 w w2 ∧ noteR.rd F2 w2 cs x ∧ (x, e) = unpackS l) := by
 have hFr:=Frz.start Fz w
 refine ret_of_wk func21 rfl ntmps21 leB_ ?_
 refine go ?_
 refine wl_halloc (z := .agg #[iv 0, iv 0, iv 0, iv 0, iv 0, iv 0, .int .u8 0, .int .u8 0, .int .u8 0, .int .u8 0, .int .u8 0, .int .u8 0, .int .u8 0, .int .u8 0, .int .u8 0, .int .u8 0, .int .u8 0, .int .u8 0, .int .u8 0, .int .u8 0, .int .u8 0, .int .u8 0, .int .u8 0, .int .u8 0, .int .u8 0, .int .u8 0, .int .u8 0, .int .u8 0, .int .u8 0, .int .u8 0, .int .u8 0, .int .u8 0, .int .u8 0, .int .u8 0, .int .u8 0, .int .u8 0, .int .u8 0, .int .u8 0, s0, iv 0, s0, iv 0, s0, iv 0, iv 0, iv 0, iv 0, iv 0, s0, s0, s0, s0, s0, iv 0, iv 0, s0, s0, s0]) (by decide) (by kernel_rfl) hp ?_
 rintro gs2 w1 hp1 hE1
 replace hFr:=hFr.ext hE1
 have q0:=hE1
 replace hp:=hp1
 refine go ?_
 have hcl:=nRead_ok hp (hl.ext q0)
 refine Cl_ cl40 rfl hcl ?_
 clear hcl
 rintro _ w2 ⟨F2, cs2, x2, e2, rfl, hp2, hF2, hrd2, hpr2⟩
 obtain ⟨hI2, A2_0, c2_0, A2_1, c2_1, A2_2, c2_2, A2_3, c2_3, A2_4, c2_4, A2_5, c2_5, A2_6, c2_6, A2_7, c2_7, A2_8, c2_8, A2_9, c2_9, A2_10, c2_10, rfl, hr2_0, hr2_1, hr2_2, hr2_3, hr2_4, hr2_5, hr2_6, hr2_7, hr2_8, hr2_9, hr2_10⟩ := hrd2
 replace hFr:=hFr.fr hF2
 replace hp:=hp2
 refine go ?_
 refine wl_halloc (z := .agg #[iv 0, iv 0, iv 0, iv 0, iv 0, iv 0, .int .u8 0, .int .u8 0, .int .u8 0, .int .u8 0, .int .u8 0, .int .u8 0, .int .u8 0, .int .u8 0, .int .u8 0, .int .u8 0, .int .u8 0, .int .u8 0, .int .u8 0, .int .u8 0, .int .u8 0, .int .u8 0, .int .u8 0, .int .u8 0, .int .u8 0, .int .u8 0, .int .u8 0, .int .u8 0, .int .u8 0, .int .u8 0, .int .u8 0, .int .u8 0, .int .u8 0, .int .u8 0, .int .u8 0, .int .u8 0, .int .u8 0, .int .u8 0, s0, iv 0, s0, iv 0, s0, iv 0, iv 0, iv 0, iv 0, iv 0, s0, s0, s0, s0, s0, iv 0, iv 0, s0, s0, s0]) (by decide) (by kernel_rfl) hp ?_
 rintro gs4 w3 hp3 hE3
 replace hFr:=hFr.ext hE3
 have q1:=hE3
 replace hp:=hp3
 refine wl_hstore (i := 0) rfl rfl hp rfl sz38 leB_ (List.all_eq_true.1 rfl) ?_
 rintro w4 hp4 hC4
 replace hFr:=hFr.fz hC4
 have q2:=hr2_0.tk.ext q1
 replace q2:=q2.fz hC4
 replace hp:=hp4
 refine go ?_
 first | refine Nd_ rfl ?_ | refine Nn_ rfl ?_
 refine go ?_
 refine Gs 13 (fun hg1 => ?_) fun hg1 => ?_
 refine go ?_
 refine wc_cond_t rfl (go ?_)
 refine wl_builtS (ps := []) (by decide) bld38 rfl rfl ?_
 refine wl_hstore (i := 1) rfl rfl hp rfl sz38 leB_ (List.all_eq_true.1 rfl) ?_
 rintro w5 hp5 hC5
 replace hFr:=hFr.fz hC5
 replace hp:=hp5
 refine go ?_
 refine wk_postR (rs := [.cell 2 38, .tmp 3]) (.inl rfl) results21 ⟨_, _, _, rfl, rfl, loadVar_agg ag38 (hp.blkAt (i := 1) rfl).at0 rfl, ⟨_, _, rfl, rfl, rfl⟩⟩ ?_
 exact ⟨_, rfl, _, _, note0, _, rfl, hp.tail.tail, hFr, ⟨⟨i0, i0, i0, i0, i0, i0, i0, i0, i0, i0, i0, i0, i0, i0, i0⟩, _, _, _, _, _, _, _, _, _, _, _, _, _, _, _, _, _, _, _, _, _, _, rfl, gsn, gsn, gsn, gsn, gsn, gsn, gsn, gsn, gsn, gsn, gsn⟩, by
   cases e2 with
   | false => first | exact (unpack_bad hpr2).symm | (exfalso; simp at hg1)
   | true =>
     have h1 := hpr2.1 rfl
     first
     | (exfalso; simp at hg1; done)
     | (unfold unpackS; rw [h1]; exact (if_neg (fun hh => absurd hh.2 (by simpa using hc2))).symm)
     | (unfold unpackS; rw [h1]; exact (if_pos ⟨rfl, by simpa using hc2⟩).symm)⟩
 refine go ?_
 refine Hx_ ([iv x2.kind, iv x2.from_, iv x2.group, iv x2.epoch, iv x2.view, iv x2.seq] ++ (digC x2.dig ++ ([.slice A2_0 x2.batch.length c2_0, iv x2.ans.err, .slice A2_1 x2.ans.data.length c2_1, iv x2.ans.epoch, .slice A2_2 x2.ans.nodes.length c2_2, iv x2.stamp, iv x2.node, iv x2.change.node, iv x2.change.view, iv x2.change.low, .slice A2_3 x2.change.marks.length c2_3, .slice A2_4 x2.change.p.length c2_4, .slice A2_5 x2.change.q.length c2_5, .slice A2_6 x2.changes.length c2_6, .slice A2_7 x2.picks.length c2_7, iv x2.level, iv x2.place, .slice A2_8 x2.digs.length c2_8, .slice A2_9 x2.data.length c2_9, .slice A2_10 x2.nodes.length c2_10]))) 0 ag38 rfl hp rfl rfl rfl (go ?_)
 have hcl:=nMay_ok ⟨hI2, _, _, _, _, _, _, _, _, _, _, _, _, _, _, _, _, _, _, _, _, _, _, rfl, (hr2_0.fr q2), (hr2_1.fr q2), (hr2_2.fr q2), (hr2_3.fr q2), (hr2_4.fr q2), (hr2_5.fr q2), (hr2_6.fr q2), (hr2_7.fr q2), (hr2_8.fr q2), (hr2_9.fr q2), (hr2_10.fr q2)⟩ (by exact Nat.le_trans (Nat.mul_le_mul_right _ (changes_few (hpr2.1 (by simpa using hg1)))) (by decide))
 refine Cl_ cl38 rfl hcl ?_
 clear hcl
 rintro _ w6 ⟨rfl, hE6⟩
 replace hFr:=hFr.ext hE6
 replace q2:=q2.ext hE6
 replace hp:=hp.ext hE6
 refine go ?_
 first | refine Nd_ rfl ?_ | refine Nn_ rfl ?_
 refine go ?_
 refine Cd (fun hc2 => ?_) fun hc2 => ?_
 refine go ?_
 refine wl_builtS (ps := []) (by decide) bld38 rfl rfl ?_
 refine wl_hstore (i := 1) rfl rfl hp rfl sz38 leB_ (List.all_eq_true.1 rfl) ?_
 rintro w7 hp7 hC7
 replace hFr:=hFr.fz hC7
 replace hp:=hp7
 refine go ?_
 refine wk_postR (rs := [.cell 2 38, .tmp 3]) (.inl rfl) results21 ⟨_, _, _, rfl, rfl, loadVar_agg ag38 (hp.blkAt (i := 1) rfl).at0 rfl, ⟨_, _, rfl, rfl, rfl⟩⟩ ?_
 exact ⟨_, rfl, _, _, note0, _, rfl, hp.tail.tail, hFr, ⟨⟨i0, i0, i0, i0, i0, i0, i0, i0, i0, i0, i0, i0, i0, i0, i0⟩, _, _, _, _, _, _, _, _, _, _, _, _, _, _, _, _, _, _, _, _, _, _, rfl, gsn, gsn, gsn, gsn, gsn, gsn, gsn, gsn, gsn, gsn, gsn⟩, by
   cases e2 with
   | false => first | exact (unpack_bad hpr2).symm | (exfalso; simp at hg1)
   | true =>
     have h1 := hpr2.1 rfl
     first
     | (exfalso; simp at hg1; done)
     | (unfold unpackS; rw [h1]; exact (if_neg (fun hh => absurd hh.2 (by simpa using hc2))).symm)
     | (unfold unpackS; rw [h1]; exact (if_pos ⟨rfl, by simpa using hc2⟩).symm)⟩
 refine go ?_
 refine Hx_ ([iv x2.kind, iv x2.from_, iv x2.group, iv x2.epoch, iv x2.view, iv x2.seq] ++ (digC x2.dig ++ ([.slice A2_0 x2.batch.length c2_0, iv x2.ans.err, .slice A2_1 x2.ans.data.length c2_1, iv x2.ans.epoch, .slice A2_2 x2.ans.nodes.length c2_2, iv x2.stamp, iv x2.node, iv x2.change.node, iv x2.change.view, iv x2.change.low, .slice A2_3 x2.change.marks.length c2_3, .slice A2_4 x2.change.p.length c2_4, .slice A2_5 x2.change.q.length c2_5, .slice A2_6 x2.changes.length c2_6, .slice A2_7 x2.picks.length c2_7, iv x2.level, iv x2.place, .slice A2_8 x2.digs.length c2_8, .slice A2_9 x2.data.length c2_9, .slice A2_10 x2.nodes.length c2_10]))) 0 ag38 rfl hp rfl rfl rfl ?_
 refine wl_hstore (i := 1) rfl rfl hp rfl sz38 leB_ (List.all_eq_true.1 rfl) ?_
 rintro w8 hp8 hC8
 replace hFr:=hFr.fz hC8
 replace q2:=q2.fz hC8
 replace hp:=hp8
 refine go ?_
 refine wk_postR (rs := [.cell 2 38, .tmp 3]) (.inl rfl) results21 ⟨_, _, _, rfl, rfl, loadVar_agg ag38 (hp.blkAt (i := 1) rfl).at0 rfl, ⟨_, _, rfl, rfl, rfl⟩⟩ ?_
 exact ⟨_, rfl, _, _, x2, _, rfl, hp.tail.tail, hFr, ⟨hI2, _, _, _, _, _, _, _, _, _, _, _, _, _, _, _, _, _, _, _, _, _, _, rfl, (hr2_0.fr q2), (hr2_1.fr q2), (hr2_2.fr q2), (hr2_3.fr q2), (hr2_4.fr q2), (hr2_5.fr q2), (hr2_6.fr q2), (hr2_7.fr q2), (hr2_8.fr q2), (hr2_9.fr q2), (hr2_10.fr q2)⟩, by
   cases e2 with
   | false => first | exact (unpack_bad hpr2).symm | (exfalso; simp at hg1)
   | true =>
     have h1 := hpr2.1 rfl
     first
     | (exfalso; simp at hg1; done)
     | (unfold unpackS; rw [h1]; exact (if_neg (fun hh => absurd hh.2 (by simpa using hc2))).symm)
     | (unfold unpackS; rw [h1]; exact (if_pos ⟨rfl, by simpa using hc2⟩).symm)⟩
theorem OwnRow.frz {e size lo n c : Nat} {A : Option Addr} {xs : List Value} {w w' : World} {F8 : Nat → Prop} (h : OwnRow e size lo w A n c xs) (hf : ∀ b, c ≠ 0 → blk A b → F8 b) (ch : Chg (fun b => ¬ F8 b) w w') : OwnRow e size lo w' A n c xs := by
 by_cases hc : c = 0
 ·exact ⟨h.len, h.le, h.mx, .inl ⟨hc, by have := h.le; omega⟩⟩
 ·exact h.keep ch (fun b _ _ hb hn => hn (hf b hc hb))
set_option maxHeartbeats 40000000 in
theorem nWrite_ok {csx : List Value} {x : Nte} {Sx : Nat → Prop} (hx : noteR.rd Sx w csx x) (hok : noteOk x) (hlen : (noteE x).length ≤ 1000000) : Ret prog 39 #[.agg csx.toArray] w (fun v w' => ∃ A c, v = .slice A (noteE x).length c ∧ OwnB 5 w.heap.size w' A c (noteE x) ∧ Ext w w') := by
 obtain ⟨hIx, Ax0, cx0, Ax1, cx1, Ax2, cx2, Ax3, cx3, Ax4, cx4, Ax5, cx5, Ax6, cx6, Ax7, cx7, Ax8, cx8, Ax9, cx9, Ax10, cx10, rfl, hx0, hx1, hx2, hx3, hx4, hx5, hx6, hx7, hx8, hx9, hx10⟩ := hx
 have mhx0:=hx0.mx
 have mhx1:=hx1.mx
 have mhx2:=hx2.mx
 have mhx3:=hx3.mx
 have mhx4:=hx4.mx
 have mhx5:=hx5.mx
 have mhx6:=hx6.mx
 have mhx7:=hx7.mx
 have mhx8:=hx8.mx
 have mhx9:=hx9.mx
 have mhx10:=hx10.mx
 refine ret_of_wk func39 rfl ntmps39 leB_ ?_
 have hp:=HP.begin_ w
 replace hx0:=hx0.now
 replace hx1:=hx1.now
 replace hx2:=hx2.now
 replace hx3:=hx3.now
 replace hx4:=hx4.now
 replace hx5:=hx5.now
 replace hx6:=hx6.now
 replace hx7:=hx7.now
 replace hx8:=hx8.now
 replace hx9:=hx9.now
 replace hx10:=hx10.now
 refine go ?_
 refine wl_hbox (by decide) rfl hp ?_
 rintro gs1 w1 hp1 hE1
 have q0:=hE1
 replace hp:=hp1
 refine go ?_
 have hbk:=hp.blkAt (i := 0) rfl
 obtain ⟨Fz2, hp2, hs2, hat2⟩ := (hp.as_ (H' := itB gs1 38 ([iv x.kind, iv x.from_, iv x.group, iv x.epoch, iv x.view, iv x.seq] ++ (digC x.dig ++ ([.slice Ax0 x.batch.length cx0, iv x.ans.err, .slice Ax1 x.ans.data.length cx1, iv x.ans.epoch, .slice Ax2 x.ans.nodes.length cx2, iv x.stamp, iv x.node, iv x.change.node, iv x.change.view, iv x.change.low, .slice Ax3 x.change.marks.length cx3, .slice Ax4 x.change.p.length cx4, .slice Ax5 x.change.q.length cx5, .slice Ax6 x.changes.length cx6, .slice Ax7 x.picks.length cx7, iv x.level, iv x.place, .slice Ax8 x.digs.length cx8, .slice Ax9 x.data.length cx9, .slice Ax10 x.nodes.length cx10]))) :: _) rfl).frzBlk
 have hmb:=MutF.of hbk hat2 rfl
 replace hp:=hp2
 have q1:=hx0.tk.ext q0
 replace q1:=q1.wid hs2
 refine go ?_
 refine wl_builtS (ps := []) (by decide) bld89 rfl rfl ?_
 refine wl_hbox (by decide) rfl hp ?_
 rintro gs5 w3 hp3 hE3
 replace q1:=q1.ext hE3
 have q2:=hE3
 replace hp:=hp3
 refine go ?_
 replace hp:=(hp.noRow 5 1).as_ (H' := itR 5 1 none ([] : List UInt8).length 0 (([] : List UInt8).map bv) :: _ :: []) rfl
 replace hp:=(HP.comm [itR 5 1 none ([] : List UInt8).length 0 (([] : List UInt8).map bv)] [_] ([]) hp).as_ (H' := itB gs5 89 [.slice none ([] : List UInt8).length 0] :: itR 5 1 none ([] : List UInt8).length 0 (([] : List UInt8).map bv) :: []) rfl
 refine go ?_
 refine wl_iface (by decide) (by kernel_rfl) rfl ?_
 have hcl:=gShow_ok hp (hat2.ext q2) ⟨hIx, _, _, _, _, _, _, _, _, _, _, _, _, _, _, _, _, _, _, _, _, _, _, rfl, (hx0.fr q1), (hx1.fr q1), (hx2.fr q1), (hx3.fr q1), (hx4.fr q1), (hx5.fr q1), (hx6.fr q1), (hx7.fr q1), (hx8.fr q1), (hx9.fr q1), (hx10.fr q1)⟩ hok (by show (0 : Nat) + _ ≤ _; omega) (hmb.ext q2)
 refine Cl_ cl65 rfl hcl ?_
 clear hcl
 rintro _ w4 ⟨A4, c4, hp4, hF4⟩
 replace hp:=hp4
 refine go ?_
 refine Fd_ 0 fld89_0 rfl rfl ?_
 refine Hl_ 0 sc26 rfl hp rfl rfl (go ?_)
 refine P1 results39 ?_
 exact ⟨_, rfl, _, _, rfl, hp.rowLo (i := 1) rfl, hp.chg⟩
theorem read_own {x : Nte} (h : noteOk x) : noteP (noteE x) = some (ownN x, []) := by
 have := note_rd x [] h
 rwa [List.append_nil] at this
theorem pack_ok {x y : Nte} {e : Bool} (hm : MayN x) (h : ReadR (noteE x) y e) (he : e = true) (hs : x = y) : packS x = (noteE x, 0) := by
 have h1 := h.1 he
 rw [read_own (may_fine hm).1] at h1
 simp only [Option.some.injEq, Prod.mk.injEq, and_true] at h1
 unfold packS
 rw [if_pos ⟨hm, h1.trans hs.symm⟩]
theorem pack_no {x y : Nte} {e : Bool} (hm : MayN x) (h : ReadR (noteE x) y e) (hn : ¬ (e = true ∧ x = y)) : packS x = ([], 2) := by
 unfold packS
 refine if_neg (fun hp => hn ?_)
 have h0 := read_own (may_fine hm).1
 cases e with
 | false => exact absurd h0 (h.2 rfl _)
 | true =>
  have h1 := h.1 rfl
  rw [h0, hp.2] at h1
  simp only [Option.some.injEq, Prod.mk.injEq, and_true] at h1
  exact ⟨rfl, h1⟩
set_option maxHeartbeats 40000000 in
theorem nPack_ok {csx : List Value} {x : Nte} {Sx : Nat → Prop} (hx : noteR.rd Sx w csx x) (hch : x.changes.length * 96 ≤ 140737488355328) : Ret prog 14 #[.agg csx.toArray] w (fun v w' => ∃ A c, v = .tuple #[.slice A (packS x).1.length c, .int .i64 (packS x).2] ∧ OwnB 5 w.heap.size w' A c (packS x).1 ∧ Ext w w') := by
 obtain ⟨hIx, Ax0, cx0, Ax1, cx1, Ax2, cx2, Ax3, cx3, Ax4, cx4, Ax5, cx5, Ax6, cx6, Ax7, cx7, Ax8, cx8, Ax9, cx9, Ax10, cx10, rfl, hx0, hx1, hx2, hx3, hx4, hx5, hx6, hx7, hx8, hx9, hx10⟩ := hx
 have mhx0:=hx0.mx
 have mhx1:=hx1.mx
 have mhx2:=hx2.mx
 have mhx3:=hx3.mx
 have mhx4:=hx4.mx
 have mhx5:=hx5.mx
 have mhx6:=hx6.mx
 have mhx7:=hx7.mx
 have mhx8:=hx8.mx
 have mhx9:=hx9.mx
 have mhx10:=hx10.mx
 refine ret_of_wk func14 rfl ntmps14 leB_ ?_
 have hp:=HP.begin_ w
 replace hx0:=hx0.now
 replace hx1:=hx1.now
 replace hx2:=hx2.now
 replace hx3:=hx3.now
 replace hx4:=hx4.now
 replace hx5:=hx5.now
 replace hx6:=hx6.now
 replace hx7:=hx7.now
 replace hx8:=hx8.now
 replace hx9:=hx9.now
 replace hx10:=hx10.now
 refine go ?_
 refine wl_hbox (by decide) rfl hp ?_
 rintro gs1 w1 hp1 hE1
 have q0:=hE1
 replace hp:=hp1
 refine go ?_
 refine Hx_ ([iv x.kind, iv x.from_, iv x.group, iv x.epoch, iv x.view, iv x.seq] ++ (digC x.dig ++ ([.slice Ax0 x.batch.length cx0, iv x.ans.err, .slice Ax1 x.ans.data.length cx1, iv x.ans.epoch, .slice Ax2 x.ans.nodes.length cx2, iv x.stamp, iv x.node, iv x.change.node, iv x.change.view, iv x.change.low, .slice Ax3 x.change.marks.length cx3, .slice Ax4 x.change.p.length cx4, .slice Ax5 x.change.q.length cx5, .slice Ax6 x.changes.length cx6, .slice Ax7 x.picks.length cx7, iv x.level, iv x.place, .slice Ax8 x.digs.length cx8, .slice Ax9 x.data.length cx9, .slice Ax10 x.nodes.length cx10]))) 0 ag38 rfl hp rfl rfl rfl ?_
 have hcl:=nMay_ok ⟨hIx, _, _, _, _, _, _, _, _, _, _, _, _, _, _, _, _, _, _, _, _, _, _, rfl, (hx0.ext q0), (hx1.ext q0), (hx2.ext q0), (hx3.ext q0), (hx4.ext q0), (hx5.ext q0), (hx6.ext q0), (hx7.ext q0), (hx8.ext q0), (hx9.ext q0), (hx10.ext q0)⟩ (by omega)
 refine Cl_ cl38 rfl hcl ?_
 clear hcl
 rintro _ w2 ⟨rfl, hE2⟩
 replace q0:=q0.trans hE2
 replace hp:=hp.ext hE2
 first | refine Nd_ rfl ?_ | refine Nn_ rfl ?_
 refine go ?_
 refine Cd (fun hm => ?_) fun hm => ?_
 refine go ?_
 refine P2 results14 ?_
 rw [show packS x = ([], 2) from if_neg (fun h => hm h.1)]
 exact ⟨_, rfl, _, _, rfl, OwnRow.nil _ _ _ _ _, hp.chg⟩
 replace hm:=Decidable.not_not.1 hm
 refine go ?_
 refine Hx_ ([iv x.kind, iv x.from_, iv x.group, iv x.epoch, iv x.view, iv x.seq] ++ (digC x.dig ++ ([.slice Ax0 x.batch.length cx0, iv x.ans.err, .slice Ax1 x.ans.data.length cx1, iv x.ans.epoch, .slice Ax2 x.ans.nodes.length cx2, iv x.stamp, iv x.node, iv x.change.node, iv x.change.view, iv x.change.low, .slice Ax3 x.change.marks.length cx3, .slice Ax4 x.change.p.length cx4, .slice Ax5 x.change.q.length cx5, .slice Ax6 x.changes.length cx6, .slice Ax7 x.picks.length cx7, iv x.level, iv x.place, .slice Ax8 x.digs.length cx8, .slice Ax9 x.data.length cx9, .slice Ax10 x.nodes.length cx10]))) 0 ag38 rfl hp rfl rfl rfl ?_
 have hcl:=nWrite_ok (x := x) ⟨hIx, _, _, _, _, _, _, _, _, _, _, _, _, _, _, _, _, _, _, _, _, _, _, rfl, (hx0.ext q0), (hx1.ext q0), (hx2.ext q0), (hx3.ext q0), (hx4.ext q0), (hx5.ext q0), (hx6.ext q0), (hx7.ext q0), (hx8.ext q0), (hx9.ext q0), (hx10.ext q0)⟩ (may_fine hm).1 (Nat.le_trans (may_fine hm).2 (by decide))
 refine Cl_ cl39 rfl hcl ?_
 clear hcl
 rintro _ w3 ⟨A3, c3, rfl, ho3, hE3⟩
 replace q0:=q0.trans hE3
 replace hp:=((hp.ownRow hE3 ho3).as_ (H' := itR 5 1 A3 (noteE x).length c3 ((noteE x).map bv) :: _) rfl)
 have hrow:=hp.rowLo (i := 0) rfl
 obtain ⟨F8, hp8, hs8, hb8⟩ := hp.frzRow
 have hgs : GS byteR F8 _ A3 c3 (noteE x) := OwnRow.gsF hrow hb8
 replace hp:=hp8
 have q1:=hx0.tk.ext q0
 replace q1:=q1.wid hs8
 have hF8:=Frz.start F8 w3
 refine go ?_
 have hcl:=nRead_ok hp hgs
 refine Cl_ cl40 rfl hcl ?_
 clear hcl
 rintro _ w4 ⟨F4, cs4, x4, e4, rfl, hp4, hF4, hrd4, hpr4⟩
 obtain ⟨hI4, A4_0, c4_0, A4_1, c4_1, A4_2, c4_2, A4_3, c4_3, A4_4, c4_4, A4_5, c4_5, A4_6, c4_6, A4_7, c4_7, A4_8, c4_8, A4_9, c4_9, A4_10, c4_10, rfl, hr4_0, hr4_1, hr4_2, hr4_3, hr4_4, hr4_5, hr4_6, hr4_7, hr4_8, hr4_9, hr4_10⟩ := hrd4
 replace q1:=q1.fr hF4
 replace hF8:=hF8.fr hF4
 replace hp:=hp4
 refine go ?_
 refine wl_halloc (z := .agg #[iv 0, iv 0, iv 0, iv 0, iv 0, iv 0, .int .u8 0, .int .u8 0, .int .u8 0, .int .u8 0, .int .u8 0, .int .u8 0, .int .u8 0, .int .u8 0, .int .u8 0, .int .u8 0, .int .u8 0, .int .u8 0, .int .u8 0, .int .u8 0, .int .u8 0, .int .u8 0, .int .u8 0, .int .u8 0, .int .u8 0, .int .u8 0, .int .u8 0, .int .u8 0, .int .u8 0, .int .u8 0, .int .u8 0, .int .u8 0, .int .u8 0, .int .u8 0, .int .u8 0, .int .u8 0, .int .u8 0, .int .u8 0, s0, iv 0, s0, iv 0, s0, iv 0, iv 0, iv 0, iv 0, iv 0, s0, s0, s0, s0, s0, iv 0, iv 0, s0, s0, s0]) (by decide) (by kernel_rfl) hp ?_
 rintro gs5 w5 hp5 hE5
 replace q1:=q1.ext hE5
 replace hF8:=hF8.ext hE5
 have q2:=hE5
 replace hp:=hp5
 refine wl_hstore (i := 0) rfl rfl hp rfl sz38 leB_ (List.all_eq_true.1 rfl) ?_
 rintro w6 hp6 hC6
 replace q1:=q1.fz hC6
 replace hF8:=hF8.fz hC6
 have q3:=hr4_0.tk.ext q2
 replace q3:=q3.fz hC6
 replace hp:=hp6
 refine go ?_
 first | refine Nd_ rfl ?_ | refine Nn_ rfl ?_
 refine go ?_
 refine Gs 19 (fun hgo => ?_) fun hgo => ?_
 refine go ?_
 refine wc_cond_t rfl (go ?_)
 refine P2 results14 ?_
 rw [pack_no hm hpr4 (fun h => by obtain ⟨h1, h2⟩ := h; simp [h1, h2] at hm hgo)]
 exact ⟨_, rfl, _, _, rfl, OwnRow.nil _ _ _ _ _, hp.chg⟩
 refine go ?_
 refine Hx_ ([iv x.kind, iv x.from_, iv x.group, iv x.epoch, iv x.view, iv x.seq] ++ (digC x.dig ++ ([.slice Ax0 x.batch.length cx0, iv x.ans.err, .slice Ax1 x.ans.data.length cx1, iv x.ans.epoch, .slice Ax2 x.ans.nodes.length cx2, iv x.stamp, iv x.node, iv x.change.node, iv x.change.view, iv x.change.low, .slice Ax3 x.change.marks.length cx3, .slice Ax4 x.change.p.length cx4, .slice Ax5 x.change.q.length cx5, .slice Ax6 x.changes.length cx6, .slice Ax7 x.picks.length cx7, iv x.level, iv x.place, .slice Ax8 x.digs.length cx8, .slice Ax9 x.data.length cx9, .slice Ax10 x.nodes.length cx10]))) 1 ag38 rfl hp rfl rfl rfl (go ?_)
 refine Hx_ ([iv x4.kind, iv x4.from_, iv x4.group, iv x4.epoch, iv x4.view, iv x4.seq] ++ (digC x4.dig ++ ([.slice A4_0 x4.batch.length c4_0, iv x4.ans.err, .slice A4_1 x4.ans.data.length c4_1, iv x4.ans.epoch, .slice A4_2 x4.ans.nodes.length c4_2, iv x4.stamp, iv x4.node, iv x4.change.node, iv x4.change.view, iv x4.change.low, .slice A4_3 x4.change.marks.length c4_3, .slice A4_4 x4.change.p.length c4_4, .slice A4_5 x4.change.q.length c4_5, .slice A4_6 x4.changes.length c4_6, .slice A4_7 x4.picks.length c4_7, iv x4.level, iv x4.place, .slice A4_8 x4.digs.length c4_8, .slice A4_9 x4.data.length c4_9, .slice A4_10 x4.nodes.length c4_10]))) 0 ag38 rfl hp rfl rfl rfl (go ?_)
 have hcl:=nSame_ok ⟨hIx, _, _, _, _, _, _, _, _, _, _, _, _, _, _, _, _, _, _, _, _, _, _, rfl, (hx0.fr q1), (hx1.fr q1), (hx2.fr q1), (hx3.fr q1), (hx4.fr q1), (hx5.fr q1), (hx6.fr q1), (hx7.fr q1), (hx8.fr q1), (hx9.fr q1), (hx10.fr q1)⟩ ⟨hI4, _, _, _, _, _, _, _, _, _, _, _, _, _, _, _, _, _, _, _, _, _, _, rfl, (hr4_0.fr q3), (hr4_1.fr q3), (hr4_2.fr q3), (hr4_3.fr q3), (hr4_4.fr q3), (hr4_5.fr q3), (hr4_6.fr q3), (hr4_7.fr q3), (hr4_8.fr q3), (hr4_9.fr q3), (hr4_10.fr q3)⟩
 refine Cl_ cl41 rfl hcl ?_
 clear hcl
 rintro _ w7 ⟨rfl, hE7⟩
 replace hF8:=hF8.ext hE7
 replace hp:=hp.ext hE7
 refine go ?_
 first | refine Nd_ rfl ?_ | refine Nn_ rfl ?_
 refine go ?_
 refine Cd (fun hce => ?_) fun hce => ?_
 refine go ?_
 refine P2 results14 ?_
 rw [pack_no hm hpr4 (fun h => by obtain ⟨h1, h2⟩ := h; simp [h1, h2] at hm hgo hce)]
 exact ⟨_, rfl, _, _, rfl, OwnRow.nil _ _ _ _ _, hp.chg⟩
 refine go ?_
 refine P2 results14 ?_
 rw [pack_ok hm hpr4 (by simpa using hgo) (by simpa using hce)]
 exact ⟨_, rfl, _, _, rfl, OwnRow.frz hrow hb8 hF8.chg, hp.chg⟩
set_option maxHeartbeats 40000000 in
theorem nCheck_ok {csn : List Value} {n : Nte} {Sn : Nat → Prop} (hn : noteR.rd Sn w csn n) (hch : n.changes.length * 96 ≤ 140737488355328) : Ret prog 24 #[.agg csn.toArray] w (fun v w' => v = .int .i64 ((packS n).2) ∧ Ext w w') := by
 obtain ⟨hIn, An0, cn0, An1, cn1, An2, cn2, An3, cn3, An4, cn4, An5, cn5, An6, cn6, An7, cn7, An8, cn8, An9, cn9, An10, cn10, rfl, hn0, hn1, hn2, hn3, hn4, hn5, hn6, hn7, hn8, hn9, hn10⟩ := hn
 have mhn0:=hn0.mx
 have mhn1:=hn1.mx
 have mhn2:=hn2.mx
 have mhn3:=hn3.mx
 have mhn4:=hn4.mx
 have mhn5:=hn5.mx
 have mhn6:=hn6.mx
 have mhn7:=hn7.mx
 have mhn8:=hn8.mx
 have mhn9:=hn9.mx
 have mhn10:=hn10.mx
 refine ret_of_wk func24 rfl ntmps24 leB_ ?_
 have hp:=HP.begin_ w
 replace hn0:=hn0.now
 replace hn1:=hn1.now
 replace hn2:=hn2.now
 replace hn3:=hn3.now
 replace hn4:=hn4.now
 replace hn5:=hn5.now
 replace hn6:=hn6.now
 replace hn7:=hn7.now
 replace hn8:=hn8.now
 replace hn9:=hn9.now
 replace hn10:=hn10.now
 refine go ?_
 refine wl_hbox (by decide) rfl hp ?_
 rintro gs1 w1 hp1 hE1
 have q0:=hE1
 replace hp:=hp1
 refine go ?_
 refine Hx_ ([iv n.kind, iv n.from_, iv n.group, iv n.epoch, iv n.view, iv n.seq] ++ (digC n.dig ++ ([.slice An0 n.batch.length cn0, iv n.ans.err, .slice An1 n.ans.data.length cn1, iv n.ans.epoch, .slice An2 n.ans.nodes.length cn2, iv n.stamp, iv n.node, iv n.change.node, iv n.change.view, iv n.change.low, .slice An3 n.change.marks.length cn3, .slice An4 n.change.p.length cn4, .slice An5 n.change.q.length cn5, .slice An6 n.changes.length cn6, .slice An7 n.picks.length cn7, iv n.level, iv n.place, .slice An8 n.digs.length cn8, .slice An9 n.data.length cn9, .slice An10 n.nodes.length cn10]))) 0 ag38 rfl hp rfl rfl rfl ?_
 have hcl:=nPack_ok ⟨hIn, _, _, _, _, _, _, _, _, _, _, _, _, _, _, _, _, _, _, _, _, _, _, rfl, (hn0.ext q0), (hn1.ext q0), (hn2.ext q0), (hn3.ext q0), (hn4.ext q0), (hn5.ext q0), (hn6.ext q0), (hn7.ext q0), (hn8.ext q0), (hn9.ext q0), (hn10.ext q0)⟩ (by omega)
 refine Cl_ cl14 rfl hcl ?_
 clear hcl
 rintro _ w2 ⟨A2, c2, rfl, ho2, hE2⟩
 replace ho2:=ho2.bs
 have hsz3:=hp.chg.size
 obtain ⟨Fz3, hp3, hsub3, hnew3, hup3⟩ := hp.frz hE2
 replace hp:=hp3
 replace ho2:=ho2.frz hnew3
 refine go ?_
 refine P1 results24 ?_
 exact ⟨_, rfl, by rfl, hp.chg⟩
end Go.Proofs.YtkdoomglflikkaaGreat
namespace Go.Eng
open Go.RowKit
section
variable {P : Program} {n : Nat} {L : List (Nat × Value)} {w : World} {Q : Exit → Act → World → Prop} {ops : Array Oper} {rest : List Oper} {ty ty2 : TypeId} {pos pos2 : String} {af af2 : Array Edge} {d d2 : Nat}
theorem GS.marked {bs : List UInt8} {e : TypeId} {fr : Nat × Nat} (hm : bs.length ≤ 16777216) : GS byteR (fun b => w.heap.size ≤ b) (w.alloc (.cells (bs.map bv).toArray e fr)) (some ⟨w.heap.size, 0, none⟩) bs.length bs := by
 have hnew := heap_alloc_new w (.cells (bs.map bv).toArray e fr)
 refine GS.of_rows (bs.map fun b => [bv b]) ?_ (Array.getElem?_eq_some_iff.1 hnew).1 (Nat.le_refl _) (Nat.le_refl _) (by omega) (fun i hi => ?_)
 ·intro j v hv
  have hf : (bs.map fun b => [bv b]).flatten = bs.map bv := by
   clear hv hnew hm
   induction bs with
   | nil => rfl
   | cons b t ih => rw [List.map_cons, List.flatten_cons, ih]; rfl
  rw [hf] at hv
  have e1 : ((⟨w.heap.size, 0, none⟩ : Addr).add j) = ⟨w.heap.size, j, none⟩ := by simp [Addr.add]; omega
  rw [e1]
  unfold World.cell?
  rw [hnew]
  simpa using hv
 ·exact ⟨[bv bs[i]], by simp [hi], rfl⟩
theorem wl_bytesLit {t e : Nat} {xs : List Operand} {bs : List UInt8} {k : Nat} {ps : Array (Nat × Operand)} (hd : d < n) (hd2 : d2 < n) (hT : slB P t e 1 1 = true) (he : P.underlying e = some (.int .u8)) (hp : ps = (partsOf 0 xs).toArray) (hv : evs L xs = some (bs.map bv)) (hk : k = bs.length)
  (hm : bs.length ≤ 16777216)
  (h : ∀ g w', g = w.heap.size → GS byteR (fun b => w.heap.size ≤ b) w' (some ⟨g, 0, none⟩) k bs → Ext w w' → WL P n ops Q rest ((d2, .slice (some ⟨g, 0, none⟩) bs.length k) :: (d, .slice (some ⟨g, 0, none⟩) bs.length k) :: L) w') :
  WL P n ops Q ({ dst := some d, op := .buildSlice t k ps, type := ty, pos := pos, after := af, guard := none } :: { dst := some d2, op := .convert t t (.tmp d), type := ty2, pos := pos2, after := af2, guard := none } :: rest) L w := by
 subst hp
 subst hk
 have hs : ∀ v ∈ bs.map bv, v.cells.size = 1 := by
  intro v hv
  obtain ⟨b, _, rfl⟩ := List.mem_map.1 hv
  rfl
 have hfl : ((bs.map bv).map (fun v => v.cells.toList)).flatten = bs.map bv := flat_cells1 _ (by
  intro v hv
  obtain ⟨b, _, rfl⟩ := List.mem_map.1 hv
  rfl)
 refine wl_run (w' := w.alloc (.cells (bs.map bv).toArray e)) (v := .slice (some ⟨w.heap.size, 0, none⟩) bs.length bs.length) hd (fun a ha => ?_) ?_
 ·have hm' := evs_map ha hv
  have e2 : (Array.map (fun x => match x with | (i, x) => (i, a.eval x)) (partsOf 0 xs).toArray) = ((bs.map bv).zipIdx.map (fun p => (p.2, p.1))).toArray := by
   show ((partsOf 0 xs).toArray.map fun p => (p.1, a.eval p.2)) = _
   rw [List.map_toArray, partsOf_map, hm']
  have hr := run_buildSlice (P := P) w hT (bs.map bv) hs (by simpa using hm)
  rw [hfl] at hr
  simp only [List.length_map] at hr
  simp only [execOp]
  rw [e2]
  simp [hr]
 ·obtain ⟨_, _, ht, _⟩ := slB_out hT
  refine wl_run (w' := w.alloc (.cells (bs.map bv).toArray e ((bs.map bv).toArray.size, (bs.map bv).toArray.size + 1))) (v := .slice (some ⟨w.heap.size, 0, none⟩) bs.length bs.length) hd2 (fun a ha => ?_) ?_
  ·have hx : a.eval (.tmp d) = .slice (some ⟨w.heap.size, 0, none⟩) bs.length bs.length := ha.eval (by simp [ev, lk])
   simp [execOp, hx, Lib.run_convert_bytes_const (P := P) w t e (bs.map bv).toArray bs.length bs.length ht he]
  ·exact h w.heap.size _ rfl (GS.marked hm) (Ext.alloc w _)
theorem wl_bsliceN {t e bytes : Nat} {xs : List Operand} {l : List Int} {k : Nat} {ps : Array (Nat × Operand)} (hd : d < n) (hT : slB P t e 1 bytes = true) (hp : ps = (partsOf 0 xs).toArray) (hv : evs L xs = some (l.map fun n => .int .i64 n)) (hk : k = l.length) (hm : l.length ≤ 16777216)
  (h : ∀ g w', g = w.heap.size → GS intR (fun b => w.heap.size ≤ b) w' (some ⟨g, 0, none⟩) k l → Ext w w' → WL P n ops Q rest ((d, .slice (some ⟨g, 0, none⟩) l.length k) :: L) w') :
  WL P n ops Q ({ dst := some d, op := .buildSlice t k ps, type := ty, pos := pos, after := af, guard := none } :: rest) L w :=
 wl_bsliceE (fun _ => rfl) hd hT hp hv hk hm w.heap.size (Nat.le_refl _) (fun g w' hg ho hE => h g w' hg (OwnRow.gs1 ho) hE)
end
end Go.Eng
