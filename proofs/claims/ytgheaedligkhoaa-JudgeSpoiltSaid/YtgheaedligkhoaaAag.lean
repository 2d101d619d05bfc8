/- What each of these functions computes, for every argument that its theorem names; a part of what the proof of JudgeFinds stands on. -/
import Derived.Test.YtgheaedligkhoaaAab
import Derived.Test.YtgheaedligkhoaaAac
import Derived.Test.YtgheaedligkhoaaAad
import Derived.Test.YtgheaedligkhoaaAae
namespace Go.Proofs.Ytgheaedligkhoaa
open Go.RowKit Go.Eng Go.Eng _root_.Go.Proofs.Try
set_option maxRecDepth 100000
variable {w0 w : World} {M0 Fz : Nat → Prop} {H : List It} {A : Option Addr} {c : Nat}
theorem CalI.wish {n : Cal} (h : CalI n) : WshI n.wish := by unfold CalI i64 at h; unfold WshI i64; omega
set_option maxHeartbeats 40000000 in
theorem jmay_ok {csp : List Value} {p : Pln} {Sp : Nat → Prop} (hp : plnR.rd Sp w csp p) : Ret prog 28 #[.agg csp.toArray] w (fun v w' => v = .bool (decide (PlnMay p)) ∧ Ext w w') := by
 obtain ⟨hIp, rfl⟩ := hp
 refine ret_of_wk func28 rfl ntmps28 leB_ ?_
 have hp:=HP.begin_ w
 refine so ?_
 refine Bx hp (h := fun gs1 w1 hp hE1 => so ?_)
 refine Cs (jwithin_ok) ?_
 refine so ?_
 refine Gs 6 ?_ ?_<;>intro hg1<;>refine so ?_
 refine Cs (jwithin_ok) ?_
 refine so ?_
 refine Gs 11 ?_ ?_<;>intro hg2<;>refine so ?_
 refine Cs (jwithin_ok) ?_
 refine so ?_
 refine Gs 16 ?_ ?_<;>intro hg3<;>refine so ?_
 refine Cs (jwithin_ok) ?_
 refine so ?_
 refine Gs 21 ?_ ?_<;>intro hg4<;>refine so ?_
 refine Cx hp (jnodes_ok (Sp := fun _ => True) ⟨hIp, rfl⟩ (by omega) (by omega) (by omega)) fun w6 hp hE6 => so ?_
 refine Gs 26 ?_ ?_<;>intro hg5<;>refine so ?_
 refine Pt ?_
 exact ⟨_, rfl, congrArg Value.bool (decide_eq_decide.2 (by unfold PlnMay; omega)), hp.chg⟩
 refine Pt ?_
 exact ⟨_, rfl, bool_f (by unfold PlnMay; omega), hp.chg⟩
 refine Pt ?_
 exact ⟨_, rfl, bool_f (by unfold PlnMay; omega), hp.chg⟩
 refine Pt ?_
 exact ⟨_, rfl, bool_f (by unfold PlnMay; omega), hp.chg⟩
 refine Pt ?_
 exact ⟨_, rfl, bool_f (by unfold PlnMay; omega), hp.chg⟩
 refine Pt ?_
 exact ⟨_, rfl, bool_f (by unfold PlnMay; omega), hp.chg⟩
end Go.Proofs.Ytgheaedligkhoaa
namespace Go.Proofs.Ytgheaedligkhoaa
open Go.RowKit Go.Eng _root_.Go.Proofs.Try Go.Eng _root_.Go.Proofs.Try
set_option maxRecDepth 100000
variable {w0 w : World} {M0 Fz : Nat → Prop} {H : List It} {A : Option Addr} {c : Nat}
abbrev jH (p : Pln) (q : JMem) (ln : Nat) (here time : Int) (f1 f2 f3 f4 f5 f6 f7 : Value → Option Value) (r4 r5 : Value → Option (List Value)) (H : List It) : List It :=
 itB q.g 64 (lookC p q ln here time) :: itMR prog 3 0 0 q.m1 f1 nR :: itMR prog 89 0 0 q.m2 f2 nR :: itMR prog 89 0 0 q.m3 f3 nR :: itMR prog 91 96 14 q.m4 f4 r4 :: itMR prog 87 98 33 q.m5 f5 r5 :: itMR prog 3 0 0 q.m6 f6 nR :: itMR prog 3 0 0 q.m7 f7 nR :: H
structure JR (Fz : Nat → Prop) (w : World) (v : JVal) (f1 f2 f3 f4 f5 f6 f7 : Value → Option Value) (r4 r5 : Value → Option (List Value)) : Prop where
 d : downR f1 v.down
 b : batR f2 v.bat
 m : batR f3 v.mrk
 j : jobsR Fz w f4 r4 v.jobs
 s : sealR f5 r5 v.sld
 f : firstR f6 v.frst
 c : callsR Fz w f7 v.calls
theorem spot_ok {w : World} {cs : List Value} {e : Evt} {S : Nat → Prop} (he : evtR.rd S w cs e) : Ret prog 52 #[.agg cs.toArray] w (fun v w' => v = spotV e.group e.epoch e.seq ∧ Ext w w') := by
 have he0 := evtR.mono (S := S) (S' := fun _ => True) (fun _ _ _ => trivial) he
 obtain ⟨hI, A0, c0, A1, c1, A2, c2, A3, c3, rfl, h0, h1, h2, h3⟩ := he
 refine ret_of_wk func52 rfl ntmps52 leB_ ?_
 have hp := HP.begin_ w
 refine so ?_
 refine Bx hp (h := fun g3 w1 hp E1 => so ?_)
 refine Alo hp (h := fun g2 w2 hp E2 => so ?_)
 refine wdP 5 hp (fun wD hp hED => by refine pm ?_; exact PLe (era_ok (evtR.keep ((E1.trans E2).trans hED) (fun _ _ _ x => x) he0)) (h := by refine pm ?_; exact .op rfl (wl_builtS (ps := [(0, .tmp 4), (1, .tmp 6)]) (by decide) bld89 rfl rfl (wl_nil qp)) .nil)) fun wD hp hED => ?_
 refine Hs 0 hp (h := fun w3 hp C3 => so ?_)
 refine wk_postR (rs := [.cell 2 89]) (.inl rfl) results52 ⟨_, _, _, rfl, rfl, loadVar_agg ag89 (hp.blkAt (i := 0) rfl).at0 rfl, rfl⟩ ?_
 exact ⟨_, rfl, rfl, hp.chg⟩
abbrev jT (p : Pln) (q : JMem) (ln : Nat) (here time : Int) (f1 f2 f3 f5 f6 f7 : Value → Option Value) (r5 : Value → Option (List Value)) (H : List It) : List It :=
 itB q.g 64 (lookC p q ln here time) :: itMR prog 3 0 0 q.m1 f1 nR :: itMR prog 89 0 0 q.m2 f2 nR :: itMR prog 89 0 0 q.m3 f3 nR :: itMR prog 87 98 33 q.m5 f5 r5 :: itMR prog 3 0 0 q.m6 f6 nR :: itMR prog 3 0 0 q.m7 f7 nR :: H
theorem callsR.up {Fz : Nat → Prop} {w : World} {f : Value → Option Value} {t : Int → Option Cal} (h : callsR Fz w f t) (a : Int) {c : Cal} {cs : List Value} (hc : calR.rd Fz w cs c) : callsR Fz w (updF f (iv a) (.agg cs.toArray)) (upc t a c) := by
 intro n
 unfold upc
 by_cases hk : n = a
 ·subst hk
  rw [updF_same, if_pos rfl]
  exact .inr ⟨c, cs, rfl, rfl, hc⟩
 ·rw [updF_other _ (fun hs => hk (by simpa using hs)), if_neg hk]
  exact h n
theorem hasM_ok {w : World} {A : Option Addr} {c fid : Nat} {l : List Mrk} {S : Nat → Prop} {cap : Value} {pr : Mrk → Bool} (h0 : callable prog fid = true) (hg : GS markR S w A c l) (hf : ∀ w' x cs, Ext w w' → markR.rd S w' cs x → Ret prog fid #[.agg (cs : List Value).toArray, cap] w' (fun v w'' => v = .bool (pr x) ∧ Ext w' w'')) : Ret prog 56 #[.slice A l.length c, .func (.func fid) ([] : List Value).toArray [cap].toArray] w (fun v w' => v = .bool (l.any pr) ∧ Ext w w') := by
 refine ret_of_wk func56 rfl ntmps56 leB_ ?_
 refine so ?_
 refine Ce (idxM_ok h0 hg hf) ?_
 rintro _ w2 ⟨r, rfl, hr, E2⟩
 refine so ?_
 refine Pt ⟨_, rfl, ?_, E2⟩
 rw [← hr]
theorem hasE_ok {w : World} {A : Option Addr} {c fid : Nat} {l : List Evt} {S : Nat → Prop} {cap : Value} {pr : Evt → Bool} (h0 : callable prog fid = true) (hg : GS evtR S w A c l) (hf : ∀ w' x cs, Ext w w' → evtR.rd S w' cs x → Ret prog fid #[.agg (cs : List Value).toArray, cap] w' (fun v w'' => v = .bool (pr x) ∧ Ext w' w'')) : Ret prog 58 #[.slice A l.length c, .func (.func fid) ([] : List Value).toArray [cap].toArray] w (fun v w' => v = .bool (l.any pr) ∧ Ext w w') := by
 refine ret_of_wk func58 rfl ntmps58 leB_ ?_
 refine so ?_
 refine Ce (idxE_ok h0 hg hf) ?_
 rintro _ w2 ⟨r, rfl, hr, E2⟩
 refine so ?_
 refine Pt ⟨_, rfl, ?_, E2⟩
 rw [← hr]
end Go.Proofs.Ytgheaedligkhoaa
namespace Go.Proofs.Ytgheaedligkhoaa
open Go.RowKit Go.Eng Go.Eng _root_.Go.Proofs.Try
set_option maxRecDepth 100000
variable {w0 w : World} {M0 Fz : Nat → Prop} {H : List It} {A : Option Addr} {c : Nat}
theorem rcheck_ok {H : List HOp} {S : Nat → Prop} (h : HS S w A c H) : Ret prog 100 #[.slice A H.length c] w (fun v w' => v = .int .i64 (chkH H) ∧ Ext w w') := by
 refine ret_of_wk func100 rfl ntmps100 leB_ ?_
 refine go ?_
 refine Ln_ underlying129 rfl ?_
 refine Gt_ rfl rfl (go ?_)
 refine Cd (fun hl => ?_) fun hl => ?_
 refine go ?_
 refine P1 results100 ?_
 exact ⟨_, rfl, by rw [chk_long (by omega)], Chg.refl _ _⟩
 refine go ?_
 refine wc_loop (fun L' w' mes => ∃ (k : Nat), L' = [(0, .slice A H.length c), (3, iv (k : Int))] ∧ (k ≤ H.length) ∧ (∀ j, j < k → badOp (hop H j) = false) ∧ (Ext w w') ∧ H.length - k = mes) [(0, .slice A H.length c), (3, iv (0 : Int))] (H.length - 0) (by
     refine ⟨0, rfl, ?_, ?_, ?_, rfl⟩
     · omega
     · intro j hj; omega
     · exact Chg.refl _ _) ⟨rfl, rfl, trivial⟩ ?_
 rintro _ wr _ ⟨k, rfl, hk, hall, hw, rfl⟩ KL1 hKL1
 have hmx:=h.mx
 refine go ?_
 refine Ln_ underlying129 rfl ?_
 refine Ls_ rfl rfl (go ?_)
 refine Cd (fun hlt => ?_) fun hlt => ?_
 obtain ⟨aL, BL, dL, hAL, hatL, hvL⟩ := HS.el (h.ext hw) k (by omega)
 refine go ?_
 by_cases h5 : (hop H k).b < 1
 apply wdL [.eq _,.eq _,.eq _,.eq _,.eq _,.eq (.bool true),.eq (.bool true),.eq undef,.eq undef,.eq undef,.eq undef,.eq undef,.eq undef,.eq undef,.eq undef,.eq undef,.eq undef,.eq undef,.eq undef,.eq undef,.eq undef,.eq undef,.eq undef,.eq undef,.eq undef,.eq undef,.eq (.bool true)]
 refine ⟨?_,?_,?_,?_,?_,?_,?_,?_,?_,?_,?_,?_,?_,?_,?_,?_,?_,?_,?_,?_,?_,?_,?_,?_,?_,?_,?_,trivial⟩<;>intro F wF hER hk
 exact dm (hk.pi 0)
 exact dm (hk.pi 3)
 have e13:=hk.pe 0
 have e14:=hk.pe 1
 exact wl_idx0 (by decide) sl129 e13 e14 hAL k rfl (by omega) qz
 exact Fe_ fld139_2 (hk.pe 2) qz
 exact Ld_ sc3 (hk.pe 3) ((hatL.ext hER).get rfl) qz
 have e17:=hk.pe 4
 refine Ls_ e17 rfl ?_
 exact wl_re (k := 18) (v := .bool true) rfl (congrArg Value.bool (decide_eq_true (by first | exact h5 | omega | simpa using h5))) qy
 exact dm (hk.pe 5)
 exact dn (hk.pe 6)
 exact dn (hk.pe 6)
 exact dn (hk.pe 6)
 exact dn (hk.pe 6)
 exact dn (hk.pe 6)
 exact dn (hk.pe 6)
 exact dn (hk.pe 6)
 exact dn (hk.pe 13)
 exact dn (hk.pe 13)
 exact dn (hk.pe 13)
 exact dn (hk.pe 13)
 exact dn (hk.pe 13)
 exact dn (hk.pe 13)
 exact dn (hk.pe 13)
 exact dn (hk.pe 13)
 exact dn (hk.pe 13)
 exact dn (hk.pe 13)
 exact dn (hk.pe 13)
 exact dn (hk.pe 6)
 have e19:=hk.pe 6
 have e38:=hk.pe 25
 exact Pk_ e19 rfl qz
 intro F wD hED hini hdo
 refine wk_drop [(0, _), (3, _), (39, _)] ⟨di hini 0, di hini 3, dq hdo 26, trivial⟩ ?_
 clear hini hdo
 refine go ?_
 refine wc_cond_t rfl (go ?_)
 refine P1 results100 ?_
 exact ⟨_, rfl, by rw [chk_bad (k := k) (by omega) (by omega) (by unfold badOp; exact decide_eq_true (by omega))], hw.trans hED⟩
 by_cases h12 : (hop H k).e ≠ 0
 apply wdL [.eq _,.eq _,.eq _,.eq _,.eq _,.eq (.bool false),.eq (.bool false),.eq _,.eq _,.eq _,.eq _,.eq _,.eq (.bool true),.eq (.bool true),.eq _,.eq _,.eq _,.eq _,.eq _,.eq _,.eq _,.eq _,.eq _,.eq _,.eq _,.eq _,.eq _]
 refine ⟨?_,?_,?_,?_,?_,?_,?_,?_,?_,?_,?_,?_,?_,?_,?_,?_,?_,?_,?_,?_,?_,?_,?_,?_,?_,?_,?_,trivial⟩<;>intro F wF hER hk
 exact dm (hk.pi 0)
 exact dm (hk.pi 3)
 have e13:=hk.pe 0
 have e14:=hk.pe 1
 exact wl_idx0 (by decide) sl129 e13 e14 hAL k rfl (by omega) qz
 exact Fe_ fld139_2 (hk.pe 2) qz
 exact Ld_ sc3 (hk.pe 3) ((hatL.ext hER).get rfl) qz
 have e17:=hk.pe 4
 refine Ls_ e17 rfl ?_
 exact wl_re (k := 18) (v := .bool false) rfl (congrArg Value.bool (decide_eq_false (by first | exact h5 | omega | simpa using h5))) qy
 exact dm (hk.pe 5)
 have e0:=hk.pi 0
 have e19:=hk.pe 6
 refine wl_gyes rfl e19 ?_
 exact Mv_ e0 qz
 have e3:=hk.pi 3
 have e19:=hk.pe 6
 refine wl_gyes rfl e19 ?_
 exact Mv_ e3 qz
 have e20:=hk.pe 7
 have e21:=hk.pe 8
 have e19:=hk.pe 6
 refine wl_gyes rfl e19 ?_
 exact wl_idx0 (by decide) sl129 e20 e21 hAL k rfl (by omega) qz
 have e22:=hk.pe 9
 have e19:=hk.pe 6
 refine wl_gyes rfl e19 ?_
 exact Fe_ fld139_3 e22 qz
 have e23:=hk.pe 10
 have e19:=hk.pe 6
 refine wl_gyes rfl e19 ?_
 exact Ld_ sc3 e23 ((hatL.ext hER).get rfl) qz
 have e24:=hk.pe 11
 have e19:=hk.pe 6
 refine wl_gyes rfl e19 ?_
 refine Ne_ e24 rfl ?_
 exact wl_re (k := 25) (v := .bool true) rfl (congrArg Value.bool (decide_eq_true (by first | exact h12 | omega | simpa using h12))) qy
 have e25:=hk.pe 12
 have e19:=hk.pe 6
 refine wl_gyes rfl e19 ?_
 exact Mv_ e25 qz
 have e0:=hk.pi 0
 have e26:=hk.pe 13
 refine wl_gyes rfl e26 ?_
 exact Mv_ e0 qz
 have e3:=hk.pi 3
 have e26:=hk.pe 13
 refine wl_gyes rfl e26 ?_
 exact Mv_ e3 qz
 have e27:=hk.pe 14
 have e28:=hk.pe 15
 have e26:=hk.pe 13
 refine wl_gyes rfl e26 ?_
 exact wl_idx0 (by decide) sl129 e27 e28 hAL k rfl (by omega) qz
 have e29:=hk.pe 16
 have e26:=hk.pe 13
 refine wl_gyes rfl e26 ?_
 exact Fe_ fld139_3 e29 qz
 have e30:=hk.pe 17
 have e26:=hk.pe 13
 refine wl_gyes rfl e26 ?_
 exact Ld_ sc3 e30 ((hatL.ext hER).get rfl) qz
 have e0:=hk.pi 0
 have e26:=hk.pe 13
 refine wl_gyes rfl e26 ?_
 exact Mv_ e0 qz
 have e3:=hk.pi 3
 have e26:=hk.pe 13
 refine wl_gyes rfl e26 ?_
 exact Mv_ e3 qz
 have e32:=hk.pe 19
 have e33:=hk.pe 20
 have e26:=hk.pe 13
 refine wl_gyes rfl e26 ?_
 exact wl_idx0 (by decide) sl129 e32 e33 hAL k rfl (by omega) qz
 have e34:=hk.pe 21
 have e26:=hk.pe 13
 refine wl_gyes rfl e26 ?_
 exact Fe_ fld139_2 e34 qz
 have e35:=hk.pe 22
 have e26:=hk.pe 13
 refine wl_gyes rfl e26 ?_
 exact Ld_ sc3 e35 ((hatL.ext hER).get rfl) qz
 have e31:=hk.pe 18
 have e36:=hk.pe 23
 have e26:=hk.pe 13
 refine wl_gyes rfl e26 ?_
 exact Lq_ e31 e36 qz
 have e26:=hk.pe 13
 have e37:=hk.pe 24
 have e19:=hk.pe 6
 refine wl_gyes rfl e19 ?_
 exact Pk_ e26 e37 qz
 have e19:=hk.pe 6
 have e38:=hk.pe 25
 exact Pk_ e19 e38 qz
 intro F wD hED hini hdo
 refine wk_drop [(0, _), (3, _), (39, _)] ⟨di hini 0, di hini 3, dq hdo 26, trivial⟩ ?_
 clear hini hdo
 refine go ?_
 refine Cd (fun hq => ?_) fun hq => ?_
 refine go ?_
 refine P1 results100 ?_
 exact ⟨_, rfl, by rw [chk_bad (k := k) (by omega) (by omega) (by unfold badOp; exact decide_eq_true (by omega))], hw.trans hED⟩
 refine go ?_
 refine wl_add (by decide) rfl rfl (w64 (by omega) (by omega)) (gl ?_)
 refine wk_drop [(0, .slice A H.length c), (3, iv ((k + 1) : Int))] ⟨rfl, rfl, trivial⟩ (hKL1 _ _ (m2 := H.length - (k + 1)) ?_ ?_)
 refine ⟨(k + 1), rfl, ?_, ?_, ?_, rfl⟩
 omega
 intro j hj
 by_cases e : j = k
 subst e; unfold badOp; exact decide_eq_false (by omega)
 exact hall j (by omega)
 exact hw.trans hED
 omega
 apply wdL [.eq _,.eq _,.eq _,.eq _,.eq _,.eq (.bool false),.eq (.bool false),.eq _,.eq _,.eq _,.eq _,.eq _,.eq (.bool false),.eq (.bool false),.eq undef,.eq undef,.eq undef,.eq undef,.eq undef,.eq undef,.eq undef,.eq undef,.eq undef,.eq undef,.eq undef,.eq (.bool false),.eq (.bool false)]
 refine ⟨?_,?_,?_,?_,?_,?_,?_,?_,?_,?_,?_,?_,?_,?_,?_,?_,?_,?_,?_,?_,?_,?_,?_,?_,?_,?_,?_,trivial⟩<;>intro F wF hER hk
 exact dm (hk.pi 0)
 exact dm (hk.pi 3)
 have e13:=hk.pe 0
 have e14:=hk.pe 1
 exact wl_idx0 (by decide) sl129 e13 e14 hAL k rfl (by omega) qz
 exact Fe_ fld139_2 (hk.pe 2) qz
 exact Ld_ sc3 (hk.pe 3) ((hatL.ext hER).get rfl) qz
 have e17:=hk.pe 4
 refine Ls_ e17 rfl ?_
 exact wl_re (k := 18) (v := .bool false) rfl (congrArg Value.bool (decide_eq_false (by first | exact h5 | omega | simpa using h5))) qy
 exact dm (hk.pe 5)
 have e0:=hk.pi 0
 have e19:=hk.pe 6
 refine wl_gyes rfl e19 ?_
 exact Mv_ e0 qz
 have e3:=hk.pi 3
 have e19:=hk.pe 6
 refine wl_gyes rfl e19 ?_
 exact Mv_ e3 qz
 have e20:=hk.pe 7
 have e21:=hk.pe 8
 have e19:=hk.pe 6
 refine wl_gyes rfl e19 ?_
 exact wl_idx0 (by decide) sl129 e20 e21 hAL k rfl (by omega) qz
 have e22:=hk.pe 9
 have e19:=hk.pe 6
 refine wl_gyes rfl e19 ?_
 exact Fe_ fld139_3 e22 qz
 have e23:=hk.pe 10
 have e19:=hk.pe 6
 refine wl_gyes rfl e19 ?_
 exact Ld_ sc3 e23 ((hatL.ext hER).get rfl) qz
 have e24:=hk.pe 11
 have e19:=hk.pe 6
 refine wl_gyes rfl e19 ?_
 refine Ne_ e24 rfl ?_
 exact wl_re (k := 25) (v := .bool false) rfl (congrArg Value.bool (decide_eq_false (by first | exact h12 | omega | simpa using h12))) qy
 have e25:=hk.pe 12
 have e19:=hk.pe 6
 refine wl_gyes rfl e19 ?_
 exact Mv_ e25 qz
 exact dn (hk.pe 13)
 exact dn (hk.pe 13)
 exact dn (hk.pe 13)
 exact dn (hk.pe 13)
 exact dn (hk.pe 13)
 exact dn (hk.pe 13)
 exact dn (hk.pe 13)
 exact dn (hk.pe 13)
 exact dn (hk.pe 13)
 exact dn (hk.pe 13)
 exact dn (hk.pe 13)
 have e26:=hk.pe 13
 have e37:=hk.pe 24
 have e19:=hk.pe 6
 refine wl_gyes rfl e19 ?_
 exact Pk_ e26 rfl qz
 have e19:=hk.pe 6
 have e38:=hk.pe 25
 exact Pk_ e19 e38 qz
 intro F wD hED hini hdo
 refine wk_drop [(0, _), (3, _), (39, _)] ⟨di hini 0, di hini 3, dq hdo 26, trivial⟩ ?_
 clear hini hdo
 refine go ?_
 refine wc_cond_f rfl ?_
 refine go ?_
 refine wl_add (by decide) rfl rfl (w64 (by omega) (by omega)) (gl ?_)
 refine wk_drop [(0, .slice A H.length c), (3, iv ((k + 1) : Int))] ⟨rfl, rfl, trivial⟩ (hKL1 _ _ (m2 := H.length - (k + 1)) ?_ ?_)
 refine ⟨(k + 1), rfl, ?_, ?_, ?_, rfl⟩
 omega
 intro j hj
 by_cases e : j = k
 subst e; unfold badOp; exact decide_eq_false (by omega)
 exact hall j (by omega)
 exact hw.trans hED
 omega
 refine go ?_
 refine P1 results100 ?_
 exact ⟨_, rfl, by rw [chk_ok (by omega) (fun j hj => hall j (by omega))], hw⟩
theorem ahead_ok {A0 : Option Addr} {c0 : Nat} {H : List HOp} {S : Nat → Prop} (h : HS S w A0 c0 H) (hl : H.length ≤ 14) : Ret prog 92 #[.slice A0 H.length c0] w (fun v w' => ∃ A c, v = .tuple #[.slice A (befL H).length c, .int .i64 (endN H : Int)] ∧ OwnE (fun z : Int => .int .i64 z) 3 w.heap.size w' A c (befL H) ∧ Ext w w') := by
 refine ret_of_wk func92 rfl ntmps92 leB_ ?_
 have hp:=HP.beginS w S
 have hFU : ∀ b, (S b ∧ b < w.heap.size) → S b ∨ w.heap.size ≤ b := fun _ h => .inl h.1
 replace h:=h.nowS
 refine go ?_
 replace hp:=hp.noRow 3 1
 refine go ?_
 refine Ln_ underlying107 rfl (go ?_)
 refine wc_loop (fun L' w' mes => ∃ (k : Nat), ∃ (A : Option Addr), ∃ (c : Nat), L' = [(0, .slice A0 H.length c0), (2, .slice A k c), (3, iv ((setN (fun j => decide (0 < (hop H j).e)) k : Nat) : Int)), (9, .slice A0 H.length c0), (10, iv (H.length : Int)), (11, iv (k : Int))] ∧ (k ≤ H.length) ∧ (HS (fun b => S b ∧ b < w.heap.size) w' A0 c0 H) ∧ (HP w (fun _ => False) (fun b => S b ∧ b < w.heap.size) w' [itR 3 1 A k c ((List.range k).map fun i => iv ((setN (ahd H i) H.length : Nat) : Int))]) ∧ H.length - k = mes) [(0, .slice A0 H.length c0), (2, s0), (3, iv ((setN (fun j => decide (0 < (hop H j).e)) 0 : Nat) : Int)), (9, .slice A0 H.length c0), (10, iv (H.length : Int)), (11, iv (0 : Int))] (H.length - 0) (by
     refine ⟨0, none, 0, rfl, ?_, ?_, ?_, rfl⟩
     · omega
     · exact h
     · exact hp) ⟨rfl, rfl, rfl, rfl, rfl, rfl, trivial⟩ ?_
 rintro _ wr _ ⟨k, A, c, rfl, hk, h, hp, rfl⟩ KL1 hKL1
 have hmx:=h.mx
 refine go ?_
 refine Ls_ rfl rfl (go ?_)
 refine Cd (fun hlt => ?_) fun hlt => ?_
 refine go ?_
 obtain ⟨aK, BK, dK, hAK, hatK, hvK⟩ := HS.el h k (by omega)
 refine wl_idx0 (by decide) sl107 rfl rfl hAK k rfl (by omega) ?_
 refine wl_loadA (by decide) ag120 rfl hatK.at_ rfl ?_
 refine wl_halloc (e := 120) (z := .agg #[.bool false, s0, iv 0, iv 0]) (by decide) (by kernel_rfl) hp ?_
 rintro gs5 w1 hp1 hE1
 have q0:=hE1
 replace hp:=hp1
 refine go ?_
 refine wl_hstore (i := 0) rfl rfl hp rfl sz120 leB_ (List.all_eq_true.1 rfl) ?_
 rintro w2 hp2 hC2
 have q1:=h.tk.ext q0
 replace q1:=q1.fz hC2
 replace hp:=hp2
 refine go ?_
 refine Ln_ underlying107 rfl (go ?_)
 refine wc_loop (fun L' w' mes => ∃ (j : Nat), L' = [(0, .slice A0 H.length c0), (2, .slice A k c), (3, iv ((setN (fun j => decide (0 < (hop H j).e)) k : Nat) : Int)), (4, iv (k : Int)), (5, pt gs5 0), (6, iv ((setN (ahd H k) j : Nat) : Int)), (9, .slice A0 H.length c0), (10, iv (H.length : Int)), (11, iv (k : Int)), (16, .slice A0 H.length c0), (17, iv (H.length : Int)), (18, iv (j : Int))] ∧ (j ≤ H.length) ∧ (HS (fun b => S b ∧ b < w.heap.size) w' A0 c0 H) ∧ (HP w (fun _ => False) (fun b => S b ∧ b < w.heap.size) w' [itB gs5 120 [.bool (hop H k).wr, .slice BK (hop H k).val.length dK, iv (hop H k).b, iv (hop H k).e], itR 3 1 A k c ((List.range k).map fun i => iv ((setN (ahd H i) H.length : Nat) : Int))]) ∧ H.length - j = mes) [(0, .slice A0 H.length c0), (2, .slice A k c), (3, iv ((setN (fun j => decide (0 < (hop H j).e)) k : Nat) : Int)), (4, iv (k : Int)), (5, pt gs5 0), (6, iv ((setN (ahd H k) 0 : Nat) : Int)), (9, .slice A0 H.length c0), (10, iv (H.length : Int)), (11, iv (k : Int)), (16, .slice A0 H.length c0), (17, iv (H.length : Int)), (18, iv (0 : Int))] (H.length - 0) (by
     refine ⟨0, rfl, ?_, ?_, ?_, rfl⟩
     · omega
     · exact (h.fr q1)
     · exact hp) ⟨rfl, rfl, rfl, rfl, rfl, rfl, rfl, rfl, rfl, rfl, rfl, rfl, trivial⟩ ?_
 rintro _ wq _ ⟨j, rfl, hj, h, hp, rfl⟩ KL2 hKL2
 refine go ?_
 refine Ls_ rfl rfl (go ?_)
 refine Cd (fun hlt2 => ?_) fun hlt2 => ?_
 refine go ?_
 obtain ⟨aJ, BJ, dJ, hAJ, hatJ, hvJ⟩ := HS.el h j (by omega)
 refine wl_idx0 (by decide) sl107 rfl rfl hAJ j rfl (by omega) ?_
 refine wl_loadA (by decide) ag120 rfl hatJ.at_ rfl ?_
 refine wl_halloc (e := 120) (z := .agg #[.bool false, s0, iv 0, iv 0]) (by decide) (by kernel_rfl) hp ?_
 rintro gs8 w3 hp3 hE3
 have q2:=hE3
 replace hp:=hp3
 refine go ?_
 refine wl_hstore (i := 0) rfl rfl hp rfl sz120 leB_ (List.all_eq_true.1 rfl) ?_
 rintro w4 hp4 hC4
 have q3:=h.tk.ext q2
 replace q3:=q3.fz hC4
 replace hp:=hp4
 refine go ?_
 refine Fd_ 3 fld120_3 rfl rfl ?_
 refine Hl_ 0 sc3 rfl hp rfl rfl ?_
 refine Gt_ rfl rfl (go ?_)
 refine Gs 26 (fun h5 => ?_) fun h5 => ?_
 refine go ?_
 refine Fd_ 3 fld120_3 rfl rfl (go ?_)
 refine Hl_ 0 sc3 rfl hp rfl rfl (go ?_)
 refine Fd_ 2 fld120_2 rfl rfl (go ?_)
 refine Hl_ 1 sc3 rfl hp rfl rfl (go ?_)
 refine Ls_ rfl rfl (go ?_)
 refine Cd (fun h6 => ?_) fun h6 => ?_
 refine go ?_
 refine wl_shl (by decide) rfl rfl (by omega) (shlN (k := j) (by omega)) ?_
 refine wl_or (by decide) rfl rfl (orN (setN_63 _ (by omega)) (shl_63 (by omega))) ?_
 refine go ?_
 refine wl_add (by decide) rfl rfl (w64 (by omega) (by omega)) (gl ?_)
 refine wk_drop [(0, .slice A0 H.length c0), (2, .slice A k c), (3, iv ((setN (fun j => decide (0 < (hop H j).e)) k : Nat) : Int)), (4, iv (k : Int)), (5, pt gs5 0), (6, iv ((setN (ahd H k) (j + 1) : Nat) : Int)), (9, .slice A0 H.length c0), (10, iv (H.length : Int)), (11, iv (k : Int)), (16, .slice A0 H.length c0), (17, iv (H.length : Int)), (18, iv ((j + 1) : Int))] ⟨rfl, rfl, rfl, rfl, rfl, (by first | (rw [setN_yes (decide_eq_true ⟨h5, h6⟩)]; rfl) | (rw [setN_no (decide_eq_false (by omega))]; rfl)), rfl, rfl, rfl, rfl, rfl, rfl, trivial⟩ (hKL2 _ _ (m2 := H.length - (j + 1)) ?_ ?_)
 refine ⟨(j + 1), rfl, ?_, ?_, ?_, rfl⟩
 omega
 exact (h.fr q3)
 exact hp.tail
 omega
 refine go ?_
 refine wl_add (by decide) rfl rfl (w64 (by omega) (by omega)) (gl ?_)
 refine wk_drop [(0, .slice A0 H.length c0), (2, .slice A k c), (3, iv ((setN (fun j => decide (0 < (hop H j).e)) k : Nat) : Int)), (4, iv (k : Int)), (5, pt gs5 0), (6, iv ((setN (ahd H k) (j + 1) : Nat) : Int)), (9, .slice A0 H.length c0), (10, iv (H.length : Int)), (11, iv (k : Int)), (16, .slice A0 H.length c0), (17, iv (H.length : Int)), (18, iv ((j + 1) : Int))] ⟨rfl, rfl, rfl, rfl, rfl, (by first | (rw [setN_yes (decide_eq_true ⟨h5, h6⟩)]; rfl) | (rw [setN_no (decide_eq_false (by omega))]; rfl)), rfl, rfl, rfl, rfl, rfl, rfl, trivial⟩ (hKL2 _ _ (m2 := H.length - (j + 1)) ?_ ?_)
 refine ⟨(j + 1), rfl, ?_, ?_, ?_, rfl⟩
 omega
 exact (h.fr q3)
 exact hp.tail
 omega
 refine go ?_
 refine wc_cond_f rfl ?_
 refine go ?_
 refine wl_add (by decide) rfl rfl (w64 (by omega) (by omega)) (gl ?_)
 refine wk_drop [(0, .slice A0 H.length c0), (2, .slice A k c), (3, iv ((setN (fun j => decide (0 < (hop H j).e)) k : Nat) : Int)), (4, iv (k : Int)), (5, pt gs5 0), (6, iv ((setN (ahd H k) (j + 1) : Nat) : Int)), (9, .slice A0 H.length c0), (10, iv (H.length : Int)), (11, iv (k : Int)), (16, .slice A0 H.length c0), (17, iv (H.length : Int)), (18, iv ((j + 1) : Int))] ⟨rfl, rfl, rfl, rfl, rfl, (by first | (rw [setN_yes (decide_eq_true ⟨h5, h6⟩)]; rfl) | (rw [setN_no (decide_eq_false (by omega))]; rfl)), rfl, rfl, rfl, rfl, rfl, rfl, trivial⟩ (hKL2 _ _ (m2 := H.length - (j + 1)) ?_ ?_)
 refine ⟨(j + 1), rfl, ?_, ?_, ?_, rfl⟩
 omega
 exact (h.fr q3)
 exact hp.tail
 omega
 have hjl : j = H.length := by omega
 subst hjl
 refine go ?_
 refine wl_bsliceE (enc := fun z : Int => iv z) (xs := [.tmp 39]) (bs := [((setN (ahd H k) H.length : Nat) : Int)]) (fun _ => rfl) (by decide) sl33 rfl rfl rfl (by simp) _ (Nat.le_refl _) ?_
 rintro gt wt hgt hot hEt
 have q4:=hEt
 replace hp:=hp.ext hEt
 refine wl_happend (i := 1) (m := 1) (news := [iv ((setN (ahd H k) H.length : Nat) : Int)]) (by decide) sl33 rfl rfl hp rfl rfl (fun b hb => by cases hb; exact hot.at0) (by simp) (by simp [Value.oneCell']) (by omega) ?_
 rintro A3 c3 w3 hp3 hC3
 have q5:=h.tk.ext q4
 replace q5:=q5.fz hC3
 replace hp:=hp3
 refine go ?_
 refine Fd_ 3 fld120_3 rfl rfl ?_
 refine Hl_ 0 sc3 rfl hp rfl rfl ?_
 refine Gt_ rfl rfl (go ?_)
 refine Cd (fun h13 => ?_) fun h13 => ?_
 refine go ?_
 refine wl_shl (by decide) rfl rfl (by omega) (shlN (k := k) (by omega)) ?_
 refine wl_or (by decide) rfl rfl (orN (setN_63 _ (by omega)) (shl_63 (by omega))) ?_
 refine go ?_
 refine wl_add (by decide) rfl rfl (w64 (by omega) (by omega)) (gl ?_)
 refine wk_drop [(0, .slice A0 H.length c0), (2, .slice A3 (k + 1) c3), (3, iv ((setN (fun j => decide (0 < (hop H j).e)) (k + 1) : Nat) : Int)), (9, .slice A0 H.length c0), (10, iv (H.length : Int)), (11, iv ((k + 1) : Int))] ⟨rfl, rfl, (by first | (rw [setN_yes (decide_eq_true h13)]; rfl) | (rw [setN_no (decide_eq_false h13)]; rfl)), rfl, rfl, rfl, trivial⟩ (hKL1 _ _ (m2 := H.length - (k + 1)) ?_ ?_)
 refine ⟨(k + 1), A3, c3, rfl, ?_, ?_, ?_, rfl⟩
 omega
 exact (h.fr q5)
 rw [List.range_succ, List.map_append]; exact hp.tail
 omega
 refine go ?_
 refine wl_add (by decide) rfl rfl (w64 (by omega) (by omega)) (gl ?_)
 refine wk_drop [(0, .slice A0 H.length c0), (2, .slice A3 (k + 1) c3), (3, iv ((setN (fun j => decide (0 < (hop H j).e)) (k + 1) : Nat) : Int)), (9, .slice A0 H.length c0), (10, iv (H.length : Int)), (11, iv ((k + 1) : Int))] ⟨rfl, rfl, (by first | (rw [setN_yes (decide_eq_true h13)]; rfl) | (rw [setN_no (decide_eq_false h13)]; rfl)), rfl, rfl, rfl, trivial⟩ (hKL1 _ _ (m2 := H.length - (k + 1)) ?_ ?_)
 refine ⟨(k + 1), A3, c3, rfl, ?_, ?_, ?_, rfl⟩
 omega
 exact (h.fr q5)
 rw [List.range_succ, List.map_append]; exact hp.tail
 omega
 have hkl : k = H.length := by omega
 refine go ?_
 refine P2 results92 ?_
 subst hkl
 have e1 : (befL H).length = H.length := by simp [befL]
 have e2 : (befL H).map (fun z : Int => Value.int .i64 z) = (List.range H.length).map fun i => Value.int .i64 ((setN (ahd H i) H.length : Nat) : Int) := by rw [befL, List.map_map]; rfl
 refine ⟨_, rfl, A, c, by rw [e1]; rfl, ?_, hp.chg⟩
 unfold OwnE
 rw [e1, e2]
 exact hp.rowLo (i := 0) rfl
def RFind (H : List HOp) (first : List UInt8) (N : Nat) : Prop := ∀ (w0 w : World) (M0 Fz : Nat → Prop) (F : List It) (gT : Nat) (T : List (Nat × Int)) (AT : Option Addr) (cT : Nat) (p : List Nat) (last : Int) (A0 A1 B : Option Addr) (c0 c1 d : Nat),
 HP w0 M0 Fz w (itB gT 147 [.slice AT T.length cT] :: itR 80 2 AT T.length cT (keysC T) :: F) → HS Fz w A0 c0 H → BS Fz w A1 c1 first → IS Fz w B d (nats p) → POK H.length p → LastK H last → MemoK H first T → cntN H.length (bitsS p) ≤ N →
 Ret Try.prog 101 #[.pointer (some ⟨gT, 0, none⟩), .slice A0 H.length c0, .slice A1 first.length c1, .slice B (nats p).length d, .int .i64 last] w (RFindPost H first w0 M0 Fz w F gT T p last)
def PFind (H : List HOp) (first : List UInt8) (N : Nat) : Prop := ∀ (w0 w : World) (M0 Fz : Nat → Prop) (FR : List It) (f : Value → Option Value) (p : List Nat) (last : Int) (A0 A1 AB AO : Option Addr) (c0 c1 cB cO gE gT gF gL gB gO gf m : Nat),
 HP w0 M0 Fz w (itB gO 33 [.slice AO p.length cO] :: itR 3 1 AO p.length cO ((nats p).map fun z : Int => Value.int .i64 z) :: itM Try.prog 137 m f :: itB gE 3 [.int .i64 (endN H : Int)] :: itB gT 134 [.map (some m)] :: itB gF 40 [.slice A1 first.length c1] :: itB gL 107 [.slice A0 H.length c0] :: itB gB 33 [.slice AB (befL H).length cB] :: itB gf 135 [capV gE gT gF gL gB gO gf] :: FR) → HS Fz w A0 c0 H → BS Fz w A1 c1 first → IS Fz w AB cB (befL H) → POK H.length p → LastK H last → TriedK f → (∀ t, (f (keyV t)).isSome = true → G H first t.1 t.2 = none ∨ t.1 < bitsS p) → cntN H.length (bitsS p) ≤ N →
 Ret Try.prog 93 #[keyV (bitsS p, last), .pointer (some ⟨gE, 0, none⟩), .pointer (some ⟨gT, 0, none⟩), .pointer (some ⟨gF, 0, none⟩), .pointer (some ⟨gL, 0, none⟩), .pointer (some ⟨gB, 0, none⟩), .pointer (some ⟨gO, 0, none⟩), .pointer (some ⟨gf, 0, none⟩)] w (PFindPost H first w0 M0 Fz w FR f p last A0 A1 AB c0 c1 cB gE gT gF gL gB gO gf m)
set_option maxHeartbeats 40000000 in
theorem call_ok {pk : Addr} {csk : List Value} {k : Lok} {Sk Pk : Nat → Prop} {i : Nat} {a : Int} (hatk : AtF Pk w pk csk) (hk : lokR.rd Sk w csk k)(hi : i ≤ k.l.length) : Ret prog 87 #[.pointer (some pk), .int .i64 (i : Int), .int .i64 a] w (fun v w' => v = .tuple #[.int .i64 ((callS a (k.l.take i)).pos), .bool ((callS a (k.l.take i)).done), .int .i64 ((callS a (k.l.take i)).many)] ∧ w' = w) := by
 obtain ⟨hIk, Ak0, ck0, rfl, hk0⟩ := hk
 have mhk0:=hk0.mx
 refine ret_of_wk func87 rfl ntmps87 leB_ ?_
 refine so ?_
 refine Lp [0, 1, 2, 9, 10, 11, 12] (fun L' w' mes => ∃ (j : Nat), ∃ (ps : Int), ∃ (dn : Bool), ∃ (mn : Int), L' = [(0, .pointer (some pk)), (1, iv (i : Int)), (2, iv a), (9, iv ps), (10, .bool dn), (11, iv mn), (12, iv (j : Int))] ∧ (j ≤ i) ∧ (ps = (callS a (k.l.take j)).pos) ∧ (dn = (callS a (k.l.take j)).done) ∧ (mn = (callS a (k.l.take j)).many) ∧ (0 ≤ mn ∧ mn ≤ j) ∧ (w = w') ∧ i - j = mes) (i - 0) (by
     refine ⟨0, (-1), false, 0, rfl, by omega, ?_, ?_, ?_, by omega, ?_, rfl⟩
     rfl
     rfl
     rfl
     rfl) ?_
 rintro _ wr _ ⟨j, ps, dn, mn, rfl, hj, hps, hdn, hmn, hmb, hw_, rfl⟩ KL1 hKL1
 subst hw_
 refine so ?_
 refine Cd ?_ ?_<;>intro hc1<;>refine so ?_
 obtain ⟨ae1, pe1_0, qe1_0, pe1_1, qe1_1, pe1_2, qe1_2, pe1_3, qe1_3, hAe1, hate1, hIe1, he1_0, he1_1, he1_2, he1_3⟩ := evtR_el hk0 j (by omega)
 refine so ?_
 refine Cd ?_ ?_<;>intro hc2<;>refine so ?_
 refine Kl [0, 1, 2, 9, 10, 11, 12] hKL1 (i - (j + 1)) ⟨(j + 1), _, _, _, rfl, by omega, ?_, ?_, ?_, by omega, ?_, rfl⟩ (by omega)
 rw [callS_step _ (by omega)]; have hcn := callS_n a (k.l.take j); rw [List.length_take, Nat.min_eq_left (by omega)] at hcn; unfold callF; simp_all
 rw [callS_step _ (by omega)]; have hcn := callS_n a (k.l.take j); rw [List.length_take, Nat.min_eq_left (by omega)] at hcn; unfold callF; simp_all
 rw [callS_step _ (by omega)]; have hcn := callS_n a (k.l.take j); rw [List.length_take, Nat.min_eq_left (by omega)] at hcn; unfold callF; simp_all
 rfl
 refine Cd ?_ ?_<;>intro hc3<;>refine so ?_
 refine Cd ?_ ?_<;>intro hc4<;>refine so ?_
 refine Kl [0, 1, 2, 9, 10, 11, 12] hKL1 (i - (j + 1)) ⟨(j + 1), _, _, _, rfl, by omega, ?_, ?_, ?_, by omega, ?_, rfl⟩ (by omega)
 rw [callS_step _ (by omega)]; have hcn := callS_n a (k.l.take j); rw [List.length_take, Nat.min_eq_left (by omega)] at hcn; unfold callF; simp_all
 rw [callS_step _ (by omega)]; have hcn := callS_n a (k.l.take j); rw [List.length_take, Nat.min_eq_left (by omega)] at hcn; unfold callF; simp_all
 rw [callS_step _ (by omega)]; have hcn := callS_n a (k.l.take j); rw [List.length_take, Nat.min_eq_left (by omega)] at hcn; unfold callF; simp_all
 rfl
 refine Kl [0, 1, 2, 9, 10, 11, 12] hKL1 (i - (j + 1)) ⟨(j + 1), _, _, _, rfl, by omega, ?_, ?_, ?_, by omega, ?_, rfl⟩ (by omega)
 rw [callS_step _ (by omega)]; have hcn := callS_n a (k.l.take j); rw [List.length_take, Nat.min_eq_left (by omega)] at hcn; unfold callF; simp_all
 rw [callS_step _ (by omega)]; have hcn := callS_n a (k.l.take j); rw [List.length_take, Nat.min_eq_left (by omega)] at hcn; unfold callF; simp_all
 rw [callS_step _ (by omega)]; have hcn := callS_n a (k.l.take j); rw [List.length_take, Nat.min_eq_left (by omega)] at hcn; unfold callF; simp_all
 rfl
 refine Cd ?_ ?_<;>intro hc5<;>refine so ?_
 refine Kl [0, 1, 2, 9, 10, 11, 12] hKL1 (i - (j + 1)) ⟨(j + 1), _, _, _, rfl, by omega, ?_, ?_, ?_, by omega, ?_, rfl⟩ (by omega)
 rw [callS_step _ (by omega)]; have hcn := callS_n a (k.l.take j); rw [List.length_take, Nat.min_eq_left (by omega)] at hcn; unfold callF; simp_all
 rw [callS_step _ (by omega)]; have hcn := callS_n a (k.l.take j); rw [List.length_take, Nat.min_eq_left (by omega)] at hcn; unfold callF; simp_all
 rw [callS_step _ (by omega)]; have hcn := callS_n a (k.l.take j); rw [List.length_take, Nat.min_eq_left (by omega)] at hcn; unfold callF; simp_all
 rfl
 refine Kl [0, 1, 2, 9, 10, 11, 12] hKL1 (i - (j + 1)) ⟨(j + 1), _, _, _, rfl, by omega, ?_, ?_, ?_, by omega, ?_, rfl⟩ (by omega)
 rw [callS_step _ (by omega)]; have hcn := callS_n a (k.l.take j); rw [List.length_take, Nat.min_eq_left (by omega)] at hcn; unfold callF; simp_all
 rw [callS_step _ (by omega)]; have hcn := callS_n a (k.l.take j); rw [List.length_take, Nat.min_eq_left (by omega)] at hcn; unfold callF; simp_all
 rw [callS_step _ (by omega)]; have hcn := callS_n a (k.l.take j); rw [List.length_take, Nat.min_eq_left (by omega)] at hcn; unfold callF; simp_all
 rfl
 refine wk_post3 (.inl rfl) results87 rfl rfl rfl ?_
 obtain rfl : j = i := by omega
 exact ⟨_, rfl, by simp_all, rfl⟩
end Go.Proofs.Ytgheaedligkhoaa
namespace Go.Proofs.Ytgheaedligkhoaa
open Go.RowKit Go.Eng _root_.Go.Proofs.Try Go.Eng _root_.Go.Proofs.Try
set_option maxRecDepth 100000
variable {w0 w : World} {M0 Fz : Nat → Prop} {H : List It} {A : Option Addr} {c : Nat}
theorem jobsAt {w0 w : World} {M0 Fz : Nat → Prop} {H : List It} {i m : Nat} {f : Value → Option Value} {r : Value → Option (List Value)} {J : Int → Int → Int → Int → List Job} (hp : HP w0 M0 Fz w H) (hi : H[i]? = some (itMR prog 91 96 14 m f r)) (hj : jobsR Fz w f r J) (g ep s n : Int) : ∃ A c, (f (ranV g ep s n)).getD (.slice none 0 0) = .slice A (J g ep s n).length c ∧ GS jobR (fun _ => True) w A c (J g ep s n) := by
 rcases hj.2 g ep s n with ⟨a1, a2, _⟩ | ⟨A, c, rs, a1, a2, a3⟩
 ·exact ⟨none, 0, by rw [a1, a2]; rfl, by rw [a1]; exact GS.nil _ _ _ _ _⟩
 ·obtain ⟨A', n', c', b1, b2⟩ := rowIn hp hi a2
  rw [a1] at b1
  cases b1
  exact ⟨A, c, by rw [a1]; rfl, OwnRow.gsRF (r := jobR) b2 (a3.wid (fun _ _ => trivial)) (fun _ _ _ => trivial)⟩
theorem ValB.mono {v : JVal} {n m : Nat} (h : ValB v n) (k : n ≤ m) : ValB v m := ⟨fun g ep s a => Nat.le_trans (h.j g ep s a) k, fun g ep => Nat.le_trans (h.s g ep) k, fun a => by have := h.m a; omega⟩
theorem ValB.u4 {v : JVal} {n : Nat} (h : ValB v n) (e : Evt) : ValB (u4 v e) n := by
 unfold Proofs.Ytgheaedligkhoaa.u4
 split
 ·exact ⟨h.j, h.s, h.m⟩
 ·split
  ·exact ⟨h.j, h.s, h.m⟩
  ·exact h
theorem ValB.u7 {v : JVal} {n : Nat} (h : ValB v n) (e : Evt) : ValB (u7 v e) n := by
 unfold Proofs.Ytgheaedligkhoaa.u7
 split
 ·exact ⟨h.j, h.s, h.m⟩
 ·exact h
theorem lplan_ok {w : World} : Ret prog 46 #[] w (fun v w' => v = .agg (plnC planP).toArray ∧ Ext w w') := by
 refine ret_of_wk func46 rfl ntmps46 leB_ ?_
 have hp := HP.begin_ w
 refine so ?_
 refine Alo hp (h := fun g1 w1 hp E1 => so ?_)
 refine wl_builtS (ps := [(0, .const (.int .i64 1)), (1, .const (.int .i64 1)), (3, .const (.int .i64 2))]) (by decide) bld23 rfl rfl (so ?_)
 refine Hs 0 hp (h := fun w2 hp C2 => so ?_)
 refine wk_postR (rs := [.cell 0 23]) (.inl rfl) results46 ⟨_, _, _, rfl, rfl, loadVar_agg ag23 (hp.blkAt (i := 0) rfl).at0 rfl, rfl⟩ ?_
 exact ⟨_, rfl, rfl, hp.chg⟩
end Go.Proofs.Ytgheaedligkhoaa
