/- NotePacks is true: what the program answers is what the statement says, for every argument (no further condition). -/
import Derived.Test.YtkdoomglflikkaaGreatQac
import Derived.Test.YtkdoomglflikkaaGreatQad
import Derived.Test.YtkdoomglflikkaaGreatQae
import Derived.Test.YtkdoomglflikkaaGreatQag
import Derived.Test.YtkdoomglflikkaaGreatQah
import Derived.Test.YtkdoomglflikkaaGreatQaj
import Derived.Test.YtkdoomglflikkaaGreatQan
import Derived.Test.YtkdoomglflikkaaGreatQat
import Derived.Test.YtkdoomglflikkaaGreatQbd
import Derived.Test.YtkdoomglflikkaaGreatQbe
import Derived.Test.YtkdoomglflikkaaGreatQbp
import Derived.Test.YtkdoomglflikkaaGreatQbq
namespace Go.Proofs.YtkdoomglflikkaaGreat
open Go.Eng Go.RowKit Go.Eng _root_.Go.Proofs.Tryz
set_option maxRecDepth 100000
variable {w0 w : World} {M0 Fz : Nat → Prop} {H : List It} {A : Option Addr} {c : Nat}
set_option maxHeartbeats 4000000 in
theorem notePacks_ok {w : World} {csn : List Value} {n : Nte} {Sn : Nat → Prop} (hn : noteR.rd Sn w csn n) (hz : NteB n) : Ret prog 3 #[.agg csn.toArray] w (fun v w' => v = .bool true ∧ Ext w w') := by
 have hn0 : noteR.rd (fun b => b < w.heap.size) w csn n := noteR.mono (fun b hb _ => hb) hn
 obtain ⟨hIn, An0, cn0, An1, cn1, An2, cn2, An3, cn3, An4, cn4, An5, cn5, An6, cn6, An7, cn7, An8, cn8, An9, cn9, An10, cn10, rfl, _⟩ := hn
 refine ret_of_wk func3 rfl ntmps3 leB_ ?_
 have hp := HP.begin_ w
 refine so ?_
 refine Bx hp (h := fun gs1 w1 hp hE1 => so ?_)
 refine Ce (rCopyN_ok (rdTo hn0) hz) ?_
 rintro _ w2 ⟨cs2, rfl, hr2, hs2, hE2⟩
 have hr2' := hr2
 obtain ⟨hI2, A0, c0, A1, c1, A2, c2, A3, c3, A4, c4, A5, c5, A6, c6, A7, c7, A8, c8, A9, c9, A10, c10, rfl, _⟩ := hr2'
 have z1 := hp.chg.size
 obtain ⟨F2, hp, hsub2, hnew2, hl2⟩ := hp.frz hE2
 have hr2F := noteR.mono (fun b hb hs => hnew2 b hs hb) hr2
 refine so ?_
 refine Alo hp (h := fun gs3 w3 hp hE3 => so ?_)
 refine Hs 0 hp (h := fun w4 hp hC4 => so ?_)
 refine Ce (nPack_ok (rdTo hr2F) hz.ch) ?_
 rintro _ w5 ⟨A15, c15, rfl, ho5, hE5⟩
 replace hp := hp.ext hE5
 refine so ?_
 refine Ce (rPack_ok (rdTo hn0) hz.ch) ?_
 rintro _ w6 ⟨A16, c16, rfl, ho6, hE6⟩
 replace hp := hp.ext hE6
 refine so ?_
 refine wl_re (k := 23) (v := .bool false) rfl (congrArg Value.bool (decide_eq_false (fun h => h rfl))) ?_
 refine so ?_
 have g5 := ho5.bs.ext hE6
 have g6 := ho6.bs
 refine Ce (eqBytes_ok g5 g6) ?_
 rintro _ w7 ⟨rfl, hE7⟩
 replace hp := hp.ext hE7
 refine wl_re (k := 26) (v := .bool true) rfl (congrArg Value.bool (decide_eq_true rfl)) ?_
 refine so ?_
 refine Ce (rSame_ok (rdTo hr2F) (rdTo hn0)) ?_
 rintro _ w8 ⟨rfl, hE8⟩
 replace hp := hp.ext hE8
 refine wl_re (k := 32) (v := .bool true) rfl (congrArg Value.bool (decide_eq_true rfl)) ?_
 refine so ?_
 refine aF ?_
 refine so ?_
 have f28 : Frz F2 F2 w2 w8 := mv
 have hS : SpN (fun b => w1.heap.size ≤ b ∧ b < w2.heap.size) w8 _ n := (hs2.mono (S' := fun b => w1.heap.size ≤ b ∧ b < w2.heap.size) (fun b hb h => ⟨h, hb⟩)).keep f28.chg (fun b hb hs hn => hn (hnew2 b hs.1 hb))
 refine Ce (lSpoil_ok (S := fun b => w1.heap.size ≤ b ∧ b < w2.heap.size) (fun b h => Nat.lt_of_lt_of_le h.2 f28.chg.size) (rdTo hr2F) hS) ?_
 rintro _ w9 hI
 have z4 := hE3.size
 have z5 := hC4.size
 have z6 := hE1.size
 have z7 := hE5.size
 have h9 : Ext w w9 := hp.chg.step hI.chg (fun b hb h => absurd hb (Nat.not_lt.2 (Nat.le_trans z6 h.1)))
 replace g5 := (g5.ext (hE7.trans hE8)).keep hI.chg (fun b _ hs h => by have := h.2; omega)
 replace g6 := (g6.ext (hE7.trans hE8)).keep hI.chg (fun b _ hs h => by have := h.2; omega)
 refine so ?_
 refine Ce (eqBytes_ok g5 g6) ?_
 rintro _ w10 ⟨rfl, hE10⟩
 refine wl_re (k := 39) (v := .bool true) rfl (congrArg Value.bool (decide_eq_true rfl)) ?_
 refine so ?_
 refine Ce lAwake_ok ?_
 rintro _ w11 ⟨rfl, hE11⟩
 refine so ?_
 refine Pt ?_
 exact ⟨_, rfl, rfl, (h9.trans hE10).trans hE11⟩
end Go.Proofs.YtkdoomglflikkaaGreat
namespace Go.Proofs.YtkdoomglflikkaaGreat
open Go.ChangeShapes Go.WideShapes Go.ChangeAt Go.RowKit Go.Eng Go.Eng _root_.Go.Proofs.Tryz
set_option maxRecDepth 100000
variable {w0 w : World} {M0 Fz : Nat → Prop} {H : List It} {A : Option Addr} {c : Nat}
set_option maxRecDepth 100000 in
theorem notePacks_lifted (os : Os) (started : os.Started) (H : Type) (enc : TypeId × Value → H) :
    ReturnsInHanded {} Tryz.checked os 3 .any (Rows.notePacksSpec.pre6 enc prog f3 Rows.notePacksRow.domain false) (Rows.notePacksSpec.post enc prog f3 false true false false) := by
 refine law_lifted (C := Tryz.checked) Tryz.own started (by kernel_rfl) func3
   (ChangeSpec.witness6 (enc := enc) (C := Tryz.checked) false ⟨#[], #[.agg #[iv 0, iv 0, iv 0, iv 0, iv 0, iv 0, .int .u8 0, .int .u8 0, .int .u8 0, .int .u8 0, .int .u8 0, .int .u8 0, .int .u8 0, .int .u8 0, .int .u8 0, .int .u8 0, .int .u8 0, .int .u8 0, .int .u8 0, .int .u8 0, .int .u8 0, .int .u8 0, .int .u8 0, .int .u8 0, .int .u8 0, .int .u8 0, .int .u8 0, .int .u8 0, .int .u8 0, .int .u8 0, .int .u8 0, .int .u8 0, .int .u8 0, .int .u8 0, .int .u8 0, .int .u8 0, .int .u8 0, .int .u8 0, s0, iv 0, s0, iv 0, s0, iv 0, iv 0, iv 0, iv 0, iv 0, s0, s0, s0, s0, s0, iv 0, iv 0, s0, s0, s0]], []⟩ 8 (by kernel_rfl) (by kernel_rfl) (by kernel_rfl) (by kernel_rfl))
   Tryz.laidOut (by kernel_rfl) rfl rfl underlying4 ?_ ?_
 intro ds hq
 obtain ⟨d0, t0, e0, q0⟩ := spec_len (show ds.length = 1 from hq)
 have en:=List.eq_nil_of_length_eq_zero (show t0.length = 0 from q0)
 subst en
 subst e0
 rfl
 intro W base args ds h
 obtain ⟨l⟩ := args
 rw [params3] at h
 obtain ⟨v0, l0, d0, ds0, rfl, h0, h⟩ := args_cons h
 obtain rfl := args_nil h
 clear h
 obtain ⟨cs0, x0, rfl, hn, hg0⟩ := arg_struct underlying38 reads_NteB h0
 exact notePacks_ok hn hg0
theorem notePacks_holds : Rows.NotePacksSaid :=
 OpenClaim.holds_of_wide 3 Tryz.f3 rfl rfl rfl rfl rfl rfl rfl ⟨rfl, rfl, rfl, rfl, rfl⟩ rfl rfl rfl rfl rfl (by kernel_rfl) Tryz.func3 (by kernel_rfl)
  (of_decide_eq_true (by kernel_rfl)) (by unfold Func.isWrapper; first | (rw [if_pos (by decide +kernel)]; kernel_rfl) | (rw [if_neg (by decide +kernel)]; exact ⟨rfl, rfl⟩))
  (fun os started H enc _ => notePacks_lifted os started H enc)
end Go.Proofs.YtkdoomglflikkaaGreat
