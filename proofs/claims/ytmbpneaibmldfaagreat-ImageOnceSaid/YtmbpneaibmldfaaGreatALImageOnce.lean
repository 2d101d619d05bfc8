/- ImageOnce is true: what the program answers is what the statement says, for every argument (no further condition). -/
import Derived.Test.YtmbpneaibmldfaaGreatAac
import Derived.Test.YtmbpneaibmldfaaGreatAad
import Derived.Test.YtmbpneaibmldfaaGreatAaf
import Derived.Test.YtmbpneaibmldfaaGreatAai
import Derived.Test.YtmbpneaibmldfaaGreatAak
import Derived.Test.YtmbpneaibmldfaaGreatAap
import Derived.Test.YtmbpneaibmldfaaGreatAas
import Derived.Test.YtmbpneaibmldfaaGreatAat
import Derived.Test.YtmbpneaibmldfaaGreatAav
import Derived.Test.YtmbpneaibmldfaaGreatAbb
import Derived.Test.YtmbpneaibmldfaaGreatAbc
namespace Go.Proofs.YtmbpneaibmldfaaGreat
open Go.RowKit Go.Eng _root_.Go.Proofs.Tryz Go.Eng _root_.Go.Proofs.Tryz
set_option maxRecDepth 100000
variable {w0 w : World} {M0 Fz : Nat → Prop} {H : List It} {A : Option Addr} {c : Nat}
set_option maxHeartbeats 4000000 in
theorem imageOnce_ok {w : World} {A : Option Addr} {c : Nat} {b : List UInt8} {S : Nat → Prop} (hb : GS byteR S w A c b) : Ret prog 7 #[.slice A b.length c] w (fun v w' => v = .bool true ∧ Ext w w') := by
 refine ret_of_wk func7 rfl ntmps7 leB_ ?_
 refine so ?_
 refine Cl_ (xs := [.tmp 8]) (by kernel_rfl) rfl (parseE hb) ?_
 rintro _ w1 ⟨cs, x, e, rfl, hr, ep, E1⟩
 obtain ⟨F, hp, hF⟩ := frzAll (HP.begin_ w) (fun b hb => hb) E1
 have hb1 : BS F w1 A c b := (hb.ext E1).mono (fun b hb _ => hF b hb)
 have hq : rplR.rd F w1 cs x := rplR.mono (fun b hb _ => hF b hb) hr
 clear hr
 have hl5 : cs.length = 54 := rplR.len hq
 refine so ?_
 refine Alo hp (h := fun g5 w2 hp E2 => ?_)
 refine Hs 0 hp (xs := cs) (ds := cs) (hc := ⟨rfl⟩) (hk := hl5) (hl := by rw [hl5]; exact leB_) (h1 := rplR.one hq) (hq := putL_all (by rw [hl5]; rfl)) (h := fun w3 hp C3 => ?_)
 have hb3 : BS F w3 A c b := hb1.to
 have q3 : ReadsU w3 cs x := rplR.mono (fun _ _ _ => trivial) (rplR.keep C3 (fun b _ hb hn => hn hb) (rplR.keep E2 (fun _ _ _ x => x) hq))
 refine so ?_
 refine Cd ?_ ?_ <;> intro hc
 ·have e1 := Go.Eng.parse_none (b := b) (by rw [← ep]; exact hc)
  rw [e1] at ep
  cases ep
  refine so ?_
  refine wl_hloadX cs (i := 0) (by decide) ag38 rfl hp rfl hl5 (ld5 hl5) ?_
  refine gz ?_
  refine Cl_ (xs := [.tmp 17]) (by kernel_rfl) rfl (outE q3 rpl0_bat) ?_
  rintro _ w4 ⟨cs4, rfl, r4, E4⟩
  refine gz ?_
  refine wl_builtS (ps := []) (by decide) bld47 rfl rfl ?_
  refine gz ?_
  refine Cl_ (xs := [.tmp 18, .tmp 19]) (vs := [.agg cs4.toArray, .agg rp0C.toArray]) (by kernel_rfl) rfl (r22Same_ok r4 (rpl47 (S := fun _ => True))) ?_
  rintro _ w5 ⟨e5, E5⟩
  rw [decide_eq_true rfl] at e5
  subst e5
  refine Pk_ (b := true) rfl rfl ?_
  refine Mv_ rfl ?_
  refine gz ?_
  refine Cl_ (xs := []) (by kernel_rfl) rfl lAwake_ok ?_
  rintro _ w6 ⟨rfl, E6⟩
  refine Pk_ (b := true) rfl rfl ?_
  refine so ?_
  refine Pt ?_
  exact ⟨_, rfl, rfl, ((hp.ext E4).ext E5).ext E6 |>.chg⟩
 have e0 : e = 0 := by omega
 obtain ⟨hm, hbe⟩ := Go.Eng.parse_some (b := b) (by rw [← ep]; exact e0)
 rw [← ep] at hm hbe
 dsimp only at hm hbe
 have hbx : bytesS x = (rplE x, 0) := if_pos hm
 refine so ?_
 refine wl_hloadX cs (i := 0) (by decide) ag38 rfl hp rfl hl5 (ld5 hl5) ?_
 refine Cl_ (xs := [.tmp 26]) (by kernel_rfl) rfl (iBytes_ok q3 (may_nodes hm) (may_size hm)) ?_
 rintro _ w4 ⟨A4, c4, rfl, ho4, E4⟩
 rw [hbx] at ho4 ⊢
 refine so ?_
 refine Cl_ (xs := [.tmp 33, .tmp 34]) (by kernel_rfl) rfl (eqBytes_ok (hb3.ext E4) ho4.bs) ?_
 rintro v5 w5 ⟨e5, E5⟩
 have e6 : v5 = .bool true := e5.trans (congrArg Value.bool (decide_eq_true hbe))
 subst e6
 refine Pk_ (b := true) rfl rfl ?_
 refine Mv_ rfl ?_
 refine gz ?_
 refine Cl_ (xs := []) (by kernel_rfl) rfl lAwake_ok ?_
 rintro _ w6 ⟨rfl, E6⟩
 refine Pk_ (b := true) rfl rfl ?_
 refine so ?_
 refine Pt ?_
 exact ⟨_, rfl, rfl, ((hp.ext E4).ext E5).ext E6 |>.chg⟩
end Go.Proofs.YtmbpneaibmldfaaGreat
namespace Go.Proofs.YtmbpneaibmldfaaGreat
open Go.ChangeShapes Go.WideShapes Go.ChangeAt Go.RowKit Go.Eng Go.Eng _root_.Go.Proofs.Tryz
set_option maxRecDepth 100000
variable {w0 w : World} {M0 Fz : Nat → Prop} {H : List It} {A : Option Addr} {c : Nat}
set_option maxRecDepth 100000 in
theorem imageOnce_lifted (os : Os) (started : os.Started) (H : Type) (enc : TypeId × Value → H) :
  ReturnsInHanded {} Tryz.checked os 7 .any (Rows.imageOnceSpec.pre6 enc Tryz.prog Tryz.f7 Rows.imageOnceRow.domain false) (Rows.imageOnceSpec.post enc Tryz.prog Tryz.f7 false true false false) := by
 refine law_lifted (C := Tryz.checked) Tryz.own started (by kernel_rfl) Tryz.func7
  (ChangeSpec.witness6 (enc := enc) (C := Tryz.checked) false ⟨#[], #[.slice none 0 0], []⟩ 8 (by kernel_rfl) (by kernel_rfl) (by kernel_rfl) (by kernel_rfl))
  Tryz.laidOut (by kernel_rfl) rfl rfl Tryz.underlying4 ?_ ?_
 ·intro ds hq
  obtain ⟨d0, t0, e0, q0⟩ := spec_len (show ds.length = 1 from hq)
  have en := List.eq_nil_of_length_eq_zero (show t0.length = 0 from q0)
  subst en
  subst e0
  rfl
 ·intro W base args ds h
  obtain ⟨l⟩ := args
  rw [Tryz.params7] at h
  obtain ⟨v0, l0, d0, ds0, rfl, h0, h⟩ := args_cons h
  obtain rfl := args_nil h
  clear h
  obtain ⟨A0, c0, b0, rfl, hb⟩ := arg_bytes Tryz.underlying36 Tryz.underlying5 (by kernel_rfl) (by kernel_rfl) h0
  exact imageOnce_ok hb
theorem imageOnce_holds : Rows.ImageOnceSaid :=
 OpenClaim.holds_of_wide 7 Tryz.f7 rfl rfl rfl rfl rfl rfl rfl ⟨rfl, rfl, rfl, rfl, rfl⟩ rfl rfl rfl rfl rfl (by kernel_rfl) Tryz.func7 (by kernel_rfl)
  (of_decide_eq_true (by kernel_rfl)) (by unfold Func.isWrapper; first | (rw [if_pos (by decide +kernel)]; kernel_rfl) | (rw [if_neg (by decide +kernel)]; exact ⟨rfl, rfl⟩))
  (fun os started H enc _ => imageOnce_lifted os started H enc)
end Go.Proofs.YtmbpneaibmldfaaGreat
