/- NoteChecks is true: what the program answers is what the statement says, for every argument (no further condition). -/
import Derived.Test.YtkdoomglflikkaaGreatCac
import Derived.Test.YtkdoomglflikkaaGreatCad
import Derived.Test.YtkdoomglflikkaaGreatCae
import Derived.Test.YtkdoomglflikkaaGreatCag
import Derived.Test.YtkdoomglflikkaaGreatCah
import Derived.Test.YtkdoomglflikkaaGreatCao
import Derived.Test.YtkdoomglflikkaaGreatCbd
import Derived.Test.YtkdoomglflikkaaGreatCbg
import Derived.Test.YtkdoomglflikkaaGreatCbn
namespace Go.Proofs.YtkdoomglflikkaaGreat
open Go.RowKit Go.Eng Go.Eng _root_.Go.Proofs.Tryz
set_option maxRecDepth 100000
variable {w0 w : World} {M0 Fz : Nat → Prop} {H : List It} {A : Option Addr} {c : Nat}
set_option maxHeartbeats 40000000 in
theorem noteChecks_ok {csn : List Value} {n : Nte} {Sn : Nat → Prop} (hn : noteR.rd Sn w csn n) (hch : n.changes.length * 96 ≤ 140737488355328) : Ret prog 7 #[.agg csn.toArray] w (fun v w' => v = .bool true ∧ Ext w w') := by
 obtain ⟨hIn, An0, cn0, An1, cn1, An2, cn2, An3, cn3, An4, cn4, An5, cn5, An6, cn6, An7, cn7, An8, cn8, An9, cn9, An10, cn10, rfl, hn0, hn1, hn2, hn3, hn4, hn5, hn6, hn7, hn8, hn9, hn10⟩ := hn
 have mhn0:=hn0.mx
 have mhn1:=hn1.mx
 have mhn2:=hn2.mx
 have mhn3:=hn3.mx
 have mhn4:=hn4.mx
 have mhn5:=hn5.mx
 have mhn6:=hn6.mx
 have mhn7:=hn7.mx
 have mhn8:=hn8.mx
 have mhn9:=hn9.mx
 have mhn10:=hn10.mx
 refine ret_of_wk func7 rfl ntmps7 leB_ ?_
 have hp:=HP.begin_ w
 replace hn0:=hn0.now
 replace hn1:=hn1.now
 replace hn2:=hn2.now
 replace hn3:=hn3.now
 replace hn4:=hn4.now
 replace hn5:=hn5.now
 replace hn6:=hn6.now
 replace hn7:=hn7.now
 replace hn8:=hn8.now
 replace hn9:=hn9.now
 replace hn10:=hn10.now
 refine go ?_
 refine wl_hbox (by decide) rfl hp ?_
 rintro gs1 w1 hp1 hE1
 have q0:=hE1
 replace hp:=hp1
 refine go ?_
 by_cases hq : True
 apply wdL [.eq _,.eq _,.eq _,.eq _,.eq (.bool true),.eq (.bool true),.eq _,.eq _,.eq _]
 refine ⟨?_,?_,?_,?_,?_,?_,?_,?_,?_,trivial⟩<;>intro F wF hER hk
 exact Hx_ ([iv n.kind, iv n.from_, iv n.group, iv n.epoch, iv n.view, iv n.seq] ++ (digC n.dig ++ ([.slice An0 n.batch.length cn0, iv n.ans.err, .slice An1 n.ans.data.length cn1, iv n.ans.epoch, .slice An2 n.ans.nodes.length cn2, iv n.stamp, iv n.node, iv n.change.node, iv n.change.view, iv n.change.low, .slice An3 n.change.marks.length cn3, .slice An4 n.change.p.length cn4, .slice An5 n.change.q.length cn5, .slice An6 n.changes.length cn6, .slice An7 n.picks.length cn7, iv n.level, iv n.place, .slice An8 n.digs.length cn8, .slice An9 n.data.length cn9, .slice An10 n.nodes.length cn10]))) 0 ag38 (hk.qi 1) (hp.ext hER) rfl rfl rfl qz
 have e3:=hk.qe 0
 have hcl:=nCheck_ok ⟨hIn, _, _, _, _, _, _, _, _, _, _, _, _, _, _, _, _, _, _, _, _, _, _, rfl, ((hn0.ext q0).ext hER), ((hn1.ext q0).ext hER), ((hn2.ext q0).ext hER), ((hn3.ext q0).ext hER), ((hn4.ext q0).ext hER), ((hn5.ext q0).ext hER), ((hn6.ext q0).ext hER), ((hn7.ext q0).ext hER), ((hn8.ext q0).ext hER), ((hn9.ext q0).ext hER), ((hn10.ext q0).ext hER)⟩ (by omega)
 refine Cl_ cl24 (by simp only [evs, ev, e3]; first | done | rfl) hcl ?_
 clear hcl
 rintro _ w7 ⟨rfl, hE7⟩
 exact qz ⟨hE7, rfl⟩
 exact Hx_ ([iv n.kind, iv n.from_, iv n.group, iv n.epoch, iv n.view, iv n.seq] ++ (digC n.dig ++ ([.slice An0 n.batch.length cn0, iv n.ans.err, .slice An1 n.ans.data.length cn1, iv n.ans.epoch, .slice An2 n.ans.nodes.length cn2, iv n.stamp, iv n.node, iv n.change.node, iv n.change.view, iv n.change.low, .slice An3 n.change.marks.length cn3, .slice An4 n.change.p.length cn4, .slice An5 n.change.q.length cn5, .slice An6 n.changes.length cn6, .slice An7 n.picks.length cn7, iv n.level, iv n.place, .slice An8 n.digs.length cn8, .slice An9 n.data.length cn9, .slice An10 n.nodes.length cn10]))) 0 ag38 (hk.qi 1) (hp.ext hER) rfl rfl rfl qz
 have e5:=hk.qe 2
 have hcl:=rCheck_ok ⟨hIn, _, _, _, _, _, _, _, _, _, _, _, _, _, _, _, _, _, _, _, _, _, _, rfl, ((hn0.ext q0).ext hER), ((hn1.ext q0).ext hER), ((hn2.ext q0).ext hER), ((hn3.ext q0).ext hER), ((hn4.ext q0).ext hER), ((hn5.ext q0).ext hER), ((hn6.ext q0).ext hER), ((hn7.ext q0).ext hER), ((hn8.ext q0).ext hER), ((hn9.ext q0).ext hER), ((hn10.ext q0).ext hER)⟩
 refine Cl_ cl25 (by simp only [evs, ev, e5]; first | done | rfl) hcl ?_
 clear hcl
 rintro _ w7 ⟨rfl, hE7⟩
 exact qz ⟨hE7, rfl⟩
 have e4:=hk.qe 1
 have e6:=hk.qe 3
 refine Eq_ e4 e6 ?_
 exact wl_re (k := 7) (v := .bool true) rfl (congrArg Value.bool (decide_eq_true (by exact checks_eq n))) qy
 exact dm (hk.qe 4)
 have e8:=hk.qe 5
 refine wl_gyes rfl e8 ?_
 refine Cl_ cl19 (by simp only [evs]; first | done | rfl) (lAwake_ok) ?_
 rintro _ w7 ⟨rfl, hE7⟩
 exact qz ⟨hE7, rfl⟩
 have e8:=hk.qe 5
 have e9:=hk.qe 6
 exact Pk_ e8 e9 qz
 exact wl_assign (by decide) (hk.qe 7) qz
 intro F wD hED hini hdo
 refine wk_drop [(2, _)] ⟨dq hdo 8, trivial⟩ ?_
 clear hini hdo
 replace hp:=hp.ext hED
 refine go ?_
 refine P1 results7 ?_
 exact ⟨_, rfl, rfl, hp.chg⟩
 exact absurd trivial hq
end Go.Proofs.YtkdoomglflikkaaGreat
namespace Go.Proofs.YtkdoomglflikkaaGreat
open Go.ChangeShapes Go.WideShapes Go.ChangeAt Go.RowKit Go.Eng Go.Eng _root_.Go.Proofs.Tryz
set_option maxRecDepth 100000
variable {w0 w : World} {M0 Fz : Nat → Prop} {H : List It} {A : Option Addr} {c : Nat}
set_option maxRecDepth 100000 in
theorem noteChecks_lifted (os : Os) (started : os.Started) (H : Type) (enc : TypeId × Value → H) :
    ReturnsInHanded {} Tryz.checked os 7 .any (Rows.noteChecksSpec.pre6 enc prog f7 Rows.noteChecksRow.domain false) (Rows.noteChecksSpec.post enc prog f7 false true false false) := by
 refine law_lifted (C := Tryz.checked) Tryz.own started (by kernel_rfl) func7
   (ChangeSpec.witness6 (enc := enc) (C := Tryz.checked) false ⟨#[], #[.agg #[iv 0, iv 0, iv 0, iv 0, iv 0, iv 0, .int .u8 0, .int .u8 0, .int .u8 0, .int .u8 0, .int .u8 0, .int .u8 0, .int .u8 0, .int .u8 0, .int .u8 0, .int .u8 0, .int .u8 0, .int .u8 0, .int .u8 0, .int .u8 0, .int .u8 0, .int .u8 0, .int .u8 0, .int .u8 0, .int .u8 0, .int .u8 0, .int .u8 0, .int .u8 0, .int .u8 0, .int .u8 0, .int .u8 0, .int .u8 0, .int .u8 0, .int .u8 0, .int .u8 0, .int .u8 0, .int .u8 0, .int .u8 0, s0, iv 0, s0, iv 0, s0, iv 0, iv 0, iv 0, iv 0, iv 0, s0, s0, s0, s0, s0, iv 0, iv 0, s0, s0, s0]], []⟩ 8 (by kernel_rfl) (by kernel_rfl) (by kernel_rfl) (by kernel_rfl))
   Tryz.laidOut (by kernel_rfl) rfl rfl underlying4 ?_ ?_
 intro ds hq
 obtain ⟨d0, t0, e0, q0⟩ := spec_len (show ds.length = 1 from hq)
 have en:=List.eq_nil_of_length_eq_zero (show t0.length = 0 from q0)
 subst en
 subst e0
 rfl
 intro W base args ds h
 obtain ⟨l⟩ := args
 rw [params7] at h
 obtain ⟨v0, l0, d0, ds0, rfl, h0, h⟩ := args_cons h
 obtain rfl := args_nil h
 clear h
 obtain ⟨cs0, x0, rfl, hn, hg0⟩ := arg_struct underlying38 reads_Nte h0
 exact noteChecks_ok hn hg0
theorem noteChecks_holds : Rows.NoteChecksSaid :=
 OpenClaim.holds_of_wide 7 Tryz.f7 rfl rfl rfl rfl rfl rfl rfl ⟨rfl, rfl, rfl, rfl, rfl⟩ rfl rfl rfl rfl rfl (by kernel_rfl) Tryz.func7 (by kernel_rfl)
  (of_decide_eq_true (by kernel_rfl)) (by unfold Func.isWrapper; first | (rw [if_pos (by decide +kernel)]; kernel_rfl) | (rw [if_neg (by decide +kernel)]; exact ⟨rfl, rfl⟩))
  (fun os started H enc _ => noteChecks_lifted os started H enc)
end Go.Proofs.YtkdoomglflikkaaGreat
