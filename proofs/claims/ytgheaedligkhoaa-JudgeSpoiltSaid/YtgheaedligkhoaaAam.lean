/- What each of these functions computes, for every argument that its theorem names; a part of what the proof of JudgeFinds stands on. -/
import Derived.Test.YtgheaedligkhoaaAab
import Derived.Test.YtgheaedligkhoaaAac
import Derived.Test.YtgheaedligkhoaaAad
import Derived.Test.YtgheaedligkhoaaAae
import Derived.Test.YtgheaedligkhoaaAag
import Derived.Test.YtgheaedligkhoaaAah
namespace Go.Proofs.Ytgheaedligkhoaa
open Go.RowKit Go.Eng _root_.Go.Proofs.Try Go.Eng _root_.Go.Proofs.Try
set_option maxRecDepth 100000
variable {w0 w : World} {M0 Fz : Nat → Prop} {H : List It} {A : Option Addr} {c : Nat}
def JA (w0 : World) (M0 Fz : Nat → Prop) (w : World) (H : List It) (q : JMem) (p : Pln) (ln : Nat) (here : Int) (brk : Prop) (no : Int) (v2 : JVal) (x : Value) (w2 : World) : Prop :=
 ∃ F2, Frz Fz F2 w w2 ∧ ((brk ∧ x = iv no ∧ ∃ H', HP w0 M0 F2 w2 H') ∨ (¬ brk ∧ x = iv 0 ∧ JW w0 M0 F2 w2 H q p ln here v2))
theorem kd104 : (prog.info? 104).bind (·.zero) = some (.agg (caC cal0 none 0 none 0).toArray) := by kernel_rfl
theorem callAt {Fz : Nat → Prop} {w : World} {f : Value → Option Value} {v : JVal} (h : callsR Fz w f v.calls) (a : Int) : ∃ A0 c0 A1 c1, (f (iv a)).getD (.agg (caC cal0 none 0 none 0).toArray) = .agg (caC (calOf v a) A0 c0 A1 c1).toArray ∧ CalI (calOf v a) ∧ GS byteR Fz w A0 c0 (calOf v a).wish.data ∧ GS intR Fz w A1 c1 (calOf v a).wish.next := by
 unfold calOf
 rcases h a with ⟨a1, a2⟩ | ⟨x, cs, a1, a2, hI, A0, c0, A1, c1, rfl, h0, h1⟩
 ·rw [a1, a2]
  exact ⟨none, 0, none, 0, rfl, CalI0, GS.nil _ _ _ _ _, GS.nil _ _ _ _ _⟩
 ·rw [a1, a2]
  exact ⟨A0, c0, A1, c1, rfl, hI, h0, h1⟩
set_option maxHeartbeats 8000000 in
theorem ends1_ok {w : World} {S S2 : Nat → Prop} {g : Nat} {cs : List Value} {x e : Evt} {A0 : Option Addr} {c0 : Nat} {A1 : Option Addr} {c1 : Nat} {A2 : Option Addr} {c2 : Nat} {A3 : Option Addr} {c3 : Nat} (hat : AtF S w ⟨g, 0, none⟩ (evC e A0 c0 A1 c1 A2 c2 A3 c3)) (he : evtR.rd S w (evC e A0 c0 A1 c1 A2 c2 A3 c3) e) (hx : evtR.rd S2 w cs x) : Ret prog 59 #[.agg cs.toArray, pt g 0] w (fun v w' => v = .bool (q10 e x) ∧ Ext w w') := by
 have hwe : wishR.rd S w (wsC e.wish A0 c0 A1 c1) e.wish := by
  obtain ⟨hI, _, _, _, _, _, _, _, _, hh, h0, h1, _⟩ := he
  simp only [evC, List.cons_append, List.nil_append, List.cons.injEq, List.append_cancel_left_eq, Value.slice.injEq, and_true, true_and] at hh
  obtain ⟨⟨rfl, rfl⟩, ⟨rfl, rfl⟩, _⟩ := hh
  exact ⟨hI.wish, _, _, _, _, rfl, h0, h1⟩
 have hdE : GS byteR S w A0 c0 e.wish.data := by
  obtain ⟨_, _, _, _, _, hh, h0, _⟩ := hwe
  simp only [wsC, List.cons.injEq, Value.slice.injEq, and_true, true_and] at hh
  obtain ⟨⟨rfl, rfl⟩, _⟩ := hh
  exact h0
 obtain ⟨hI, B0, b0, B1, b1, B2, b2, B3, b3, rfl, g0, g1, g2, g3⟩ := hx
 have hwx : wishR.rd S2 w (wsC x.wish B0 b0 B1 b1) x.wish := ⟨hI.wish, B0, b0, B1, b1, rfl, g0, g1⟩
 have hq : q10 e x = decide (((x.kind = 3 ∧ x.wish.kind = 2) ∧ x.wish.client = e.wish.client) ∧ oursW x.wish e.wish ∧ x.wish.data = e.wish.data) := decide_eq_decide.2 (by unfold oursW; constructor <;> (intro h; simp_all))
 rw [hq]
 refine ret_of_wk func59 rfl ntmps59 leB_ ?_
 have hp := HP.begin_ w
 refine so ?_
 refine Bx hp (h := fun g3 w1 hp E1 => so ?_)
 refine Alo hp (h := fun g4 w2 hp E2 => so ?_)
 refine Hs 0 hp (h := fun w3 hp C3 => so ?_)
 have E3 : Ext w w3 := hp.chg
 have a39 : AtF S w3 ((⟨g, 0, none⟩ : Addr).add 39) (wsC e.wish A0 c0 A1 c1) := (hat.ext E3).sub 39 10
 have a45 : AtF S w3 ((⟨g, 0, none⟩ : Addr).add 45) [.slice A0 e.wish.data.length c0] := (hat.ext E3).sub 45 1
 refine Gs 10 ?_ ?_ <;> intro k1 <;> refine so ?_
 ·refine Gs 15 ?_ ?_ <;> intro k2 <;> refine so ?_
  ·refine Gs 23 ?_ ?_ <;> intro k3 <;> refine so ?_
   ·refine Cx hp (jours_ok (wishR.keep E3 (fun _ _ _ x => x) hwx) (wishR.keep E3 (fun _ _ _ x => x) hwe)) (h := fun w4 hp E4 => so ?_)
    refine Gs 29 ?_ ?_ <;> intro k4 <;> refine so ?_
    ·refine Cx hp (jbequal_ok (g0.ext (E3.trans E4)) (hdE.ext (E3.trans E4))) (h := fun w5 hp E5 => so ?_)
     exact Pt ⟨_, rfl, congrArg Value.bool (decide_eq_decide.2 ⟨fun h => ⟨⟨⟨k1, k2⟩, k3⟩, k4, h⟩, fun h => h.2.2⟩), hp.chg⟩
    ·exact Pt ⟨_, rfl, congrArg Value.bool (decide_eq_false (fun h => k4 h.2.1)).symm, hp.chg⟩
   ·exact Pt ⟨_, rfl, congrArg Value.bool (decide_eq_false (fun h => k3 h.1.2)).symm, hp.chg⟩
  ·exact Pt ⟨_, rfl, congrArg Value.bool (decide_eq_false (fun h => k2 h.1.1.2)).symm, hp.chg⟩
 ·exact Pt ⟨_, rfl, congrArg Value.bool (decide_eq_false (fun h => k1 h.1.1.1)).symm, hp.chg⟩
def JA9 (w0 : World) (M0 Fz : Nat → Prop) (w : World) (H : List It) (q : JMem) (p : Pln) (ln : Nat) (here : Int) (b9 b10 : Prop) (v2 : JVal) (x : Value) (w2 : World) : Prop :=
 ∃ F2, Frz Fz F2 w w2 ∧ ((b9 ∧ x = iv 9 ∧ ∃ H', HP w0 M0 F2 w2 H') ∨ (¬ b9 ∧ b10 ∧ x = iv 10 ∧ ∃ H', HP w0 M0 F2 w2 H') ∨ (¬ b9 ∧ ¬ b10 ∧ x = iv 0 ∧ JW w0 M0 F2 w2 H q p ln here v2))
end Go.Proofs.Ytgheaedligkhoaa
namespace Go.Proofs.Ytgheaedligkhoaa
open Go.RowKit Go.Eng Go.Eng _root_.Go.Proofs.Try
set_option maxRecDepth 100000
variable {w0 w : World} {M0 Fz : Nat → Prop} {H : List It} {A : Option Addr} {c : Nat}
theorem whole_ok {A B : Option Addr} {c d : Nat} {H : List HOp} {p : List Nat} {s : Nat} {S S2 : Nat → Prop} (h : HS S w A c H) (ho : IS S2 w B d (nats p)) (hs : ∀ k, s.testBit k = decide (k ∈ p)) : Ret prog 103 #[.slice A H.length c, .slice B (nats p).length d] w (fun v w' => v = .bool (wholeS H s) ∧ Ext w w') := by
 refine ret_of_wk func103 rfl ntmps103 leB_ ?_
 refine so ?_
 refine Lp [0, 1, 5] (fun L' w' mes => ∃ (k : Nat), L' = [(0, .slice A H.length c), (1, .slice B (nats p).length d), (5, iv (k : Int))] ∧ (k ≤ H.length) ∧ (∀ j, j < k → 0 < (hop H j).e → s.testBit j = true) ∧ (HS S w' A c H) ∧ (IS S2 w' B d (nats p)) ∧ (Ext w w') ∧ H.length - k = mes) (H.length - 0) (by
     refine ⟨0, rfl, by omega, ?_, h, ho, Chg.refl _ _, rfl⟩
     intro j hj; omega) ?_
 rintro _ wr _ ⟨k, rfl, hk, hall, h, ho, hEc, rfl⟩ KL1 hKL1
 have hmx:=h.mx
 refine so ?_
 refine Cd ?_ ?_<;>intro hlt
 obtain ⟨aL, BL, dL, hAL, hatL, hvL⟩ := HS.el h k (by omega)
 refine so ?_
 refine Gs 18 ?_ ?_<;>intro hg<;>refine so ?_
 refine Cy (has_ok ho) fun w1 hE1 => so ?_
 refine Cd ?_ ?_<;>intro hq
 have hz : s.testBit k = false := by rw [hs]; exact decide_eq_false (fun hm => hq (nats_mem.2 hm))
 refine so ?_
 refine Pt ?_
 exact ⟨_, rfl, by rw [whole_no (k := k) (by omega) hg hz], me⟩
 replace hq : 0 < (hop H k).e → s.testBit k = true := fun _ => by rw [hs]; exact decide_eq_true (nats_mem.1 (Decidable.not_not.1 hq))
 refine so ?_
 refine Kl [0, 1, 5] hKL1 (H.length - (k + 1)) ⟨(k + 1), rfl, by omega, ?_, h.to, ho.to, me, rfl⟩ (by omega)
 intro j hj he
 by_cases e : j = k
 subst e; first | exact hq he | exact absurd he hg
 exact hall j (by omega) he
 refine aF (so ?_)
 refine Kl [0, 1, 5] hKL1 (H.length - (k + 1)) ⟨(k + 1), rfl, by omega, ?_, h, ho, hEc, rfl⟩ (by omega)
 intro j hj he
 by_cases e : j = k
 subst e; first | exact hq he | exact absurd he hg
 exact hall j (by omega) he
 refine so ?_
 refine Pt ?_
 exact ⟨_, rfl, by rw [whole_yes (fun j hj => hall j (by omega))], hEc⟩
theorem check_ok {H : List HOp} {S : Nat → Prop} (h : HS S w A c H) : Ret prog 91 #[.slice A H.length c] w (fun v w' => v = .int .i64 (chkH H) ∧ Ext w w') := by
 refine ret_of_wk func91 rfl ntmps91 leB_ ?_
 refine so ?_
 refine Cd ?_ ?_<;>intro hl<;>refine so ?_
 refine Pt ?_
 exact ⟨_, rfl, by rw [chk_long (by omega)], Chg.refl _ _⟩
 refine Cy (con_ok h) fun w1 hE1 => so ?_
 refine Cd ?_ ?_<;>intro hq<;>refine so ?_
 refine Pt ?_
 exact ⟨_, rfl, by rw [chkH, if_neg (by omega), if_pos hq], hE1⟩
 refine Pt ?_
 exact ⟨_, rfl, by rw [chkH, if_neg (by omega), if_neg (by rw [hq]; simp)], hE1⟩
theorem pfind_all {H : List HOp} {first : List UInt8} (hl14 : H.length ≤ 14) (N : Nat) : PFind H first N := by
 induction N using Nat.strongRecOn with
 | _ N ih =>
  intro w0 w M0 Fz FR f p last A0 A1 AB AO c0 c1 cB cO gE gT gF gL gB gO gf m hp h hf hbf hP hL hT1 hT hN
  exact pfind_step hl14 ih hp h hf hbf hP hL hT1 hT hN
end Go.Proofs.Ytgheaedligkhoaa
namespace Go.Proofs.Ytgheaedligkhoaa
open Go.RowKit Go.Eng _root_.Go.Proofs.Try Go.Eng _root_.Go.Proofs.Try
set_option maxRecDepth 100000
variable {w0 w : World} {M0 Fz : Nat → Prop} {H : List It} {A : Option Addr} {c : Nat}
theorem HR.to {F G : Nat → Prop} {w w' : World} {s : HSt} {rows rowsF : List (List Value)} {fo fs : Value → Option Value} (h : HR F w s rows rowsF fo fs) (k : Frz F G w w' := by exact mv) : HR G w' s rows rowsF fo fs := ⟨h.o.to k, h.f.to k, h.m, h.lt, h.sn⟩
end Go.Proofs.Ytgheaedligkhoaa
namespace Go.Proofs.Ytgheaedligkhoaa
open Go.RowKit Go.Eng Go.Eng _root_.Go.Proofs.Try
set_option maxRecDepth 100000
variable {w0 w : World} {M0 Fz : Nat → Prop} {H : List It} {A : Option Addr} {c : Nat}
set_option maxHeartbeats 40000000 in
theorem ninth_ok {pk : Addr} {csk : List Value} {k : Lok} {Sk Pk : Nat → Prop} {i : Nat} (hatk : AtF Pk w pk csk) (hk : lokR.rd Sk w csk k)(hi : i < k.l.length) : Ret prog 72 #[.pointer (some pk), .int .i64 (i : Int)] w (fun v w' => v = .bool (decide (R9 (k.l.take i) (k.l.getD i evt0))) ∧ Ext w w') := by
 obtain ⟨hIk, Ak0, ck0, rfl, hk0⟩ := hk
 have mhk0:=hk0.mx
 have hcp:=callS_p (k.l.getD i evt0).a (k.l.take i)
 rw [List.length_take] at hcp
 refine ret_of_wk func72 rfl ntmps72 leB_ ?_
 have hp:=HP.begin_ w
 replace hk0:=hk0.now
 replace hatk:=hatk.now
 refine go ?_
 refine Fe_ fld74_1 rfl ?_
 refine Ld_ sc24 rfl (hatk.get rfl) (go ?_)
 obtain ⟨ae1, pe1_0, qe1_0, pe1_1, qe1_1, pe1_2, qe1_2, pe1_3, qe1_3, hAe1, hate1, hIe1, he1_0, he1_1, he1_2, he1_3⟩ := evtR_el hk0 i (by omega)
 refine wl_idx0 (by decide) sl24 rfl rfl hAe1 i rfl (by omega) ?_
 refine wl_loadA (by decide) ag46 rfl hate1.at_ rfl ?_
 refine wl_halloc (e := 46) (z := .agg #[iv 0, iv 0, iv 0, iv 0, iv 0, iv 0, iv 0, .int .u8 0, .int .u8 0, .int .u8 0, .int .u8 0, .int .u8 0, .int .u8 0, .int .u8 0, .int .u8 0, .int .u8 0, .int .u8 0, .int .u8 0, .int .u8 0, .int .u8 0, .int .u8 0, .int .u8 0, .int .u8 0, .int .u8 0, .int .u8 0, .int .u8 0, .int .u8 0, .int .u8 0, .int .u8 0, .int .u8 0, .int .u8 0, .int .u8 0, .int .u8 0, .int .u8 0, .int .u8 0, .int .u8 0, .int .u8 0, .int .u8 0, .int .u8 0, iv 0, iv 0, iv 0, iv 0, iv 0, iv 0, s0, iv 0, iv 0, s0, iv 0, s0, iv 0, s0]) (by decide) (by kernel_rfl) hp ?_
 rintro gs5 w2 hp2 hE2
 have q0:=hE2
 replace hp:=hp2
 refine wl_hstore (i := 0) rfl rfl hp rfl sz46 leB_ (List.all_eq_true.1 rfl) ?_
 rintro w3 hp3 hC3
 have q1:=hk0.tk.ext q0
 replace q1:=q1.fz hC3
 replace hp:=hp3
 refine go ?_
 refine Fd_ 1 fld46_1 rfl rfl ?_
 refine Hl_ 0 sc3 rfl hp rfl rfl ?_
 refine Ne_ rfl rfl (go ?_)
 refine Cd (fun hc1 => ?_) fun hc1 => ?_
 refine go ?_
 refine P1 results72 ?_
 exact ⟨_, rfl, bool_f (by unfold R9; first | (simp_all; done) | (rw [getD_take (by omega)]; simp_all; try omega)), hp.chg⟩
 refine go ?_
 refine Fd_ 2 fld46_2 rfl rfl ?_
 refine Hl_ 0 sc3 rfl hp rfl rfl ?_
 have hcl:=call_ok (hatk.fr q1) ⟨hIk, _, _, rfl, (hk0.fr q1)⟩ (i := i) (a := ((k.l.getD i evt0).a)) (by omega)
 refine Cl_ cl87 rfl hcl ?_
 clear hcl
 rintro _ _ ⟨rfl, rfl⟩
 refine go ?_
 by_cases hs2 : (callS ((k.l.getD i evt0).a) (k.l.take i)).pos < 0
 apply wdL [.eq _,.eq (.bool true),.eq (.bool true),.eq undef,.eq (.bool true),.eq (.bool true),.eq undef,.eq undef,.eq undef,.eq undef,.eq undef,.eq undef,.eq undef,.eq undef,.eq undef,.eq undef,.eq undef,.eq undef,.eq (.bool true),.eq (.bool true)]
 refine ⟨?_,?_,?_,?_,?_,?_,?_,?_,?_,?_,?_,?_,?_,?_,?_,?_,?_,?_,?_,?_,trivial⟩<;>intro F wF hER hk
 exact dm (hk.pi 6)
 have e28:=hk.pe 0
 refine Ls_ e28 rfl ?_
 exact wl_re (k := 29) (v := .bool true) rfl (congrArg Value.bool (decide_eq_true (by first | exact hs2 | omega | simpa using hs2))) qy
 exact dm (hk.pe 1)
 exact dn (hk.pe 2)
 have e30:=hk.pe 2
 have e31:=hk.pe 3
 exact Pk_ e30 rfl qz
 exact dm (hk.pe 4)
 exact dn (hk.pe 5)
 exact dn (hk.pe 5)
 exact dn (hk.pe 5)
 exact dn (hk.pe 5)
 exact dn (hk.pe 5)
 exact dn (hk.pe 5)
 exact dn (hk.pe 5)
 exact dn (hk.pe 5)
 exact dn (hk.pe 5)
 exact dn (hk.pe 5)
 exact dn (hk.pe 5)
 exact dn (hk.pe 5)
 have e33:=hk.pe 5
 have e45:=hk.pe 17
 exact Pk_ e33 rfl qz
 exact wl_assign (by decide) (hk.pe 18) qz
 intro F wD hED hini hdo
 refine wk_drop [(4, _)] ⟨dq hdo 19, trivial⟩ ?_
 clear hini hdo
 replace hp:=hp.ext hED
 refine go ?_
 refine P1 results72 ?_
 exact ⟨_, rfl, bool_t (by unfold R9; first | (simp_all; done) | (rw [getD_take (by omega)]; simp_all; try omega)), hp.chg⟩
 by_cases hs3 : (callS ((k.l.getD i evt0).a) (k.l.take i)).done = true
 apply wdL [.eq _,.eq (.bool false),.eq (.bool false),.eq (.bool true),.eq (.bool true),.eq (.bool true),.eq undef,.eq undef,.eq undef,.eq undef,.eq undef,.eq undef,.eq undef,.eq undef,.eq undef,.eq undef,.eq undef,.eq undef,.eq (.bool true),.eq (.bool true)]
 refine ⟨?_,?_,?_,?_,?_,?_,?_,?_,?_,?_,?_,?_,?_,?_,?_,?_,?_,?_,?_,?_,trivial⟩<;>intro F wF hER hk
 exact dm (hk.pi 6)
 have e28:=hk.pe 0
 refine Ls_ e28 rfl ?_
 exact wl_re (k := 29) (v := .bool false) rfl (congrArg Value.bool (decide_eq_false (by first | exact hs2 | omega | simpa using hs2))) qy
 exact dm (hk.pe 1)
 have e7:=hk.pi 7
 have e30:=hk.pe 2
 refine wl_gyes rfl e30 ?_
 refine Mv_ e7 ?_
 exact wl_re (k := 31) (v := .bool true) rfl (congrArg Value.bool hs3) qy
 have e30:=hk.pe 2
 have e31:=hk.pe 3
 exact Pk_ e30 e31 qz
 exact dm (hk.pe 4)
 exact dn (hk.pe 5)
 exact dn (hk.pe 5)
 exact dn (hk.pe 5)
 exact dn (hk.pe 5)
 exact dn (hk.pe 5)
 exact dn (hk.pe 5)
 exact dn (hk.pe 5)
 exact dn (hk.pe 5)
 exact dn (hk.pe 5)
 exact dn (hk.pe 5)
 exact dn (hk.pe 5)
 exact dn (hk.pe 5)
 have e33:=hk.pe 5
 have e45:=hk.pe 17
 exact Pk_ e33 rfl qz
 exact wl_assign (by decide) (hk.pe 18) qz
 intro F wD hED hini hdo
 refine wk_drop [(4, _)] ⟨dq hdo 19, trivial⟩ ?_
 clear hini hdo
 replace hp:=hp.ext hED
 refine go ?_
 refine P1 results72 ?_
 exact ⟨_, rfl, bool_t (by unfold R9; first | (simp_all; done) | (rw [getD_take (by omega)]; simp_all; try omega)), hp.chg⟩
 replace hs3:=eq_false_of_ne_true hs3
 obtain ⟨aw11, pw11_0, qw11_0, pw11_1, qw11_1, pw11_2, qw11_2, pw11_3, qw11_3, hAw11, hatw11, hIw11, hw11_0, hw11_1, hw11_2, hw11_3⟩ := evtR_el (hk0.fr q1) ((callS ((k.l.getD i evt0).a) (k.l.take i)).pos).toNat (by omega)
 apply wdL [.eq _,.eq (.bool false),.eq (.bool false),.eq (.bool false),.eq (.bool false),.eq (.bool false),.eq _,.eq _,.eq _,.eq _,.eq _,.eq _,.eq _,.eq _,.eq _,.eq _,.eq _,.eq _,.eq _,.eq _]
 refine ⟨?_,?_,?_,?_,?_,?_,?_,?_,?_,?_,?_,?_,?_,?_,?_,?_,?_,?_,?_,?_,trivial⟩<;>intro F wF hER hk
 exact dm (hk.pi 6)
 have e28:=hk.pe 0
 refine Ls_ e28 rfl ?_
 exact wl_re (k := 29) (v := .bool false) rfl (congrArg Value.bool (decide_eq_false (by first | exact hs2 | omega | simpa using hs2))) qy
 exact dm (hk.pe 1)
 have e7:=hk.pi 7
 have e30:=hk.pe 2
 refine wl_gyes rfl e30 ?_
 refine Mv_ e7 ?_
 exact wl_re (k := 31) (v := .bool false) rfl (congrArg Value.bool hs3) qy
 have e30:=hk.pe 2
 have e31:=hk.pe 3
 exact Pk_ e30 e31 qz
 exact dm (hk.pe 4)
 have e0:=hk.pi 0
 have e33:=hk.pe 5
 refine wl_gyes rfl e33 ?_
 exact Mv_ e0 qz
 have e34:=hk.pe 6
 have e33:=hk.pe 5
 refine wl_gyes rfl e33 ?_
 exact Nc_ e34 qz
 have e35:=hk.pe 7
 have e33:=hk.pe 5
 refine wl_gyes rfl e33 ?_
 exact Fe_ fld74_1 e35 qz
 have e36:=hk.pe 8
 have e33:=hk.pe 5
 refine wl_gyes rfl e33 ?_
 exact Ld_ sc24 e36 (((hatk.fr q1).ext hER).get rfl) qz
 have e6:=hk.pi 6
 have e33:=hk.pe 5
 refine wl_gyes rfl e33 ?_
 exact Mv_ e6 qz
 have e37:=hk.pe 9
 have e38:=hk.pe 10
 have e33:=hk.pe 5
 refine wl_gyes rfl e33 ?_
 exact wl_idx0 (by decide) sl24 e37 e38 hAw11 ((callS ((k.l.getD i evt0).a) (k.l.take i)).pos).toNat (by omega) (by omega) qz
 have e39:=hk.pe 11
 have e33:=hk.pe 5
 refine wl_gyes rfl e33 ?_
 exact Fe_ fld46_8 e39 qz
 have e40:=hk.pe 12
 have e33:=hk.pe 5
 refine wl_gyes rfl e33 ?_
 exact wl_loadA (by decide) ag42 e40 (((hatw11.ext hER).at_.drop 39).take 10) rfl qz
 have e5:=hk.pi 5
 have e33:=hk.pe 5
 refine wl_gyes rfl e33 ?_
 exact Fd_ 39 fld46_8 e5 rfl qz
 have e42:=hk.pe 14
 have e33:=hk.pe 5
 refine wl_gyes rfl e33 ?_
 exact Hx_ ([iv ((k.l.getD i evt0).wish.client), iv ((k.l.getD i evt0).wish.stamp), iv ((k.l.getD i evt0).wish.group), iv ((k.l.getD i evt0).wish.epoch), iv ((k.l.getD i evt0).wish.kind), iv ((k.l.getD i evt0).wish.block), .slice pe1_0 ((k.l.getD i evt0).wish.data).length qe1_0, iv ((k.l.getD i evt0).wish.old), iv ((k.l.getD i evt0).wish.new), .slice pe1_1 ((k.l.getD i evt0).wish.next).length qe1_1]) 0 ag42 e42 (hp.ext hER) rfl rfl rfl qz
 have e41:=hk.pe 13
 have e43:=hk.pe 15
 have e33:=hk.pe 5
 refine wl_gyes rfl e33 ?_
 have hcl:=r11Same_ok ⟨(show WshI ({ client := (k.l.getD ((callS ((k.l.getD i evt0).a) (k.l.take i)).pos).toNat evt0).wish.client, stamp := (k.l.getD ((callS ((k.l.getD i evt0).a) (k.l.take i)).pos).toNat evt0).wish.stamp, group := (k.l.getD ((callS ((k.l.getD i evt0).a) (k.l.take i)).pos).toNat evt0).wish.group, epoch := (k.l.getD ((callS ((k.l.getD i evt0).a) (k.l.take i)).pos).toNat evt0).wish.epoch, kind := (k.l.getD ((callS ((k.l.getD i evt0).a) (k.l.take i)).pos).toNat evt0).wish.kind, block := (k.l.getD ((callS ((k.l.getD i evt0).a) (k.l.take i)).pos).toNat evt0).wish.block, data := (k.l.getD ((callS ((k.l.getD i evt0).a) (k.l.take i)).pos).toNat evt0).wish.data, old := (k.l.getD ((callS ((k.l.getD i evt0).a) (k.l.take i)).pos).toNat evt0).wish.old, new := (k.l.getD ((callS ((k.l.getD i evt0).a) (k.l.take i)).pos).toNat evt0).wish.new, next := (k.l.getD ((callS ((k.l.getD i evt0).a) (k.l.take i)).pos).toNat evt0).wish.next } : Wsh) by first | (unfold WshI i64; omega) | (apply EvtI.wish; assumption)), _, _, _, _, rfl, (hw11_0.ext hER), (hw11_1.ext hER)⟩ ⟨(hIe1.wish), _, _, _, _, rfl, ((he1_0.fr q1).ext hER), ((he1_1.fr q1).ext hER)⟩
 refine Cl_ cl44 (by simp only [evs, ev, e41, e43]; first | done | rfl) hcl ?_
 clear hcl
 rintro _ w7 ⟨rfl, hE7⟩
 exact qz ⟨hE7, rfl⟩
 have e44:=hk.pe 16
 have e33:=hk.pe 5
 refine wl_gyes rfl e33 ?_
 first | exact Nd_ e44 qz | exact Nn_ e44 qz
 have e33:=hk.pe 5
 have e45:=hk.pe 17
 exact Pk_ e33 e45 qz
 exact wl_assign (by decide) (hk.pe 18) qz
 intro F wD hED hini hdo
 refine wk_drop [(4, _)] ⟨dq hdo 19, trivial⟩ ?_
 clear hini hdo
 replace hp:=hp.ext hED
 refine go ?_
 refine P1 results72 ?_
 exact ⟨_, rfl, congrArg Value.bool (decide_eq_decide.2 (by unfold R9; first | (simp_all; done) | (rw [getD_take (by omega)]; simp_all; try omega))), hp.chg⟩
set_option maxHeartbeats 40000000 in
theorem tenth_ok {pk : Addr} {csk : List Value} {k : Lok} {Sk Pk : Nat → Prop} {i : Nat} (hatk : AtF Pk w pk csk) (hk : lokR.rd Sk w csk k)(hi : i < k.l.length) : Ret prog 73 #[.pointer (some pk), .int .i64 (i : Int)] w (fun v w' => v = .bool (decide (R10 (k.l.take i) (k.l.getD i evt0))) ∧ Ext w w') := by
 obtain ⟨hIk, Ak0, ck0, rfl, hk0⟩ := hk
 have mhk0:=hk0.mx
 refine ret_of_wk func73 rfl ntmps73 leB_ ?_
 have hp:=HP.begin_ w
 replace hk0:=hk0.now
 replace hatk:=hatk.now
 refine go ?_
 refine Fe_ fld74_1 rfl ?_
 refine Ld_ sc24 rfl (hatk.get rfl) (go ?_)
 obtain ⟨ae1, pe1_0, qe1_0, pe1_1, qe1_1, pe1_2, qe1_2, pe1_3, qe1_3, hAe1, hate1, hIe1, he1_0, he1_1, he1_2, he1_3⟩ := evtR_el hk0 i (by omega)
 refine wl_idx0 (by decide) sl24 rfl rfl hAe1 i rfl (by omega) ?_
 refine wl_loadA (by decide) ag46 rfl hate1.at_ rfl ?_
 refine wl_halloc (e := 46) (z := .agg #[iv 0, iv 0, iv 0, iv 0, iv 0, iv 0, iv 0, .int .u8 0, .int .u8 0, .int .u8 0, .int .u8 0, .int .u8 0, .int .u8 0, .int .u8 0, .int .u8 0, .int .u8 0, .int .u8 0, .int .u8 0, .int .u8 0, .int .u8 0, .int .u8 0, .int .u8 0, .int .u8 0, .int .u8 0, .int .u8 0, .int .u8 0, .int .u8 0, .int .u8 0, .int .u8 0, .int .u8 0, .int .u8 0, .int .u8 0, .int .u8 0, .int .u8 0, .int .u8 0, .int .u8 0, .int .u8 0, .int .u8 0, .int .u8 0, iv 0, iv 0, iv 0, iv 0, iv 0, iv 0, s0, iv 0, iv 0, s0, iv 0, s0, iv 0, s0]) (by decide) (by kernel_rfl) hp ?_
 rintro gs5 w2 hp2 hE2
 have q0:=hE2
 replace hp:=hp2
 refine wl_hstore (i := 0) rfl rfl hp rfl sz46 leB_ (List.all_eq_true.1 rfl) ?_
 rintro w3 hp3 hC3
 have q1:=hk0.tk.ext q0
 replace q1:=q1.fz hC3
 replace hp:=hp3
 refine go ?_
 refine Hx_ ([iv ((k.l.getD i evt0).time), iv ((k.l.getD i evt0).kind), iv ((k.l.getD i evt0).a), iv ((k.l.getD i evt0).b), iv ((k.l.getD i evt0).group), iv ((k.l.getD i evt0).epoch), iv ((k.l.getD i evt0).seq)] ++ (digC ((k.l.getD i evt0).dig) ++ ([iv ((k.l.getD i evt0).wish.client), iv ((k.l.getD i evt0).wish.stamp), iv ((k.l.getD i evt0).wish.group), iv ((k.l.getD i evt0).wish.epoch), iv ((k.l.getD i evt0).wish.kind), iv ((k.l.getD i evt0).wish.block), .slice pe1_0 ((k.l.getD i evt0).wish.data).length qe1_0, iv ((k.l.getD i evt0).wish.old), iv ((k.l.getD i evt0).wish.new), .slice pe1_1 ((k.l.getD i evt0).wish.next).length qe1_1, iv ((k.l.getD i evt0).ans.err), .slice pe1_2 ((k.l.getD i evt0).ans.data).length qe1_2, iv ((k.l.getD i evt0).ans.epoch), .slice pe1_3 ((k.l.getD i evt0).ans.nodes).length qe1_3]))) 0 ag46 rfl hp rfl rfl rfl ?_
 have hcl:=well_ok ⟨hIe1, _, _, _, _, _, _, _, _, rfl, (he1_0.fr q1), (he1_1.fr q1), (he1_2.fr q1), (he1_3.fr q1)⟩
 refine Cl_ cl88 rfl hcl ?_
 clear hcl
 rintro _ w4 ⟨rfl, hE4⟩
 replace q1:=q1.ext hE4
 replace hp:=hp.ext hE4
 first | refine Nd_ rfl ?_ | refine Nn_ rfl ?_
 refine go ?_
 refine Gs 18 (fun hg1 => ?_) fun hg1 => ?_
 refine go ?_
 refine wc_cond_t rfl (go ?_)
 refine P1 results73 ?_
 exact ⟨_, rfl, bool_f (fun h => by unfold R10 at h; simp_all), hp.chg⟩
 refine go ?_
 refine Fd_ 39 fld46_8 rfl rfl (go ?_)
 refine Fd_ 43 fld42_4 rfl rfl (go ?_)
 refine Hl_ 0 sc3 rfl hp rfl rfl (go ?_)
 refine Ne_ rfl rfl (go ?_)
 refine Cd (fun hc2 => ?_) fun hc2 => ?_
 refine go ?_
 refine P1 results73 ?_
 exact ⟨_, rfl, bool_f (fun h => by unfold R10 at h; simp_all), hp.chg⟩
 refine go ?_
 refine wc_loop (fun L' w' mes => ∃ (j : Nat), L' = [(0, .pointer (some pk)), (1, iv (i : Int)), (5, pt gs5 0), (6, iv (j : Int))] ∧ (j ≤ i) ∧ ((k.l.take j).any (q10 (k.l.getD i evt0)) = false) ∧ (GS evtR (fun b => b < w.heap.size) w' Ak0 ck0 k.l) ∧ (AtF (fun b => b < w.heap.size) w' pk ([iv k.p.faults, iv k.p.chunks, iv k.p.spares, iv k.p.clients, iv k.p.bad, .slice Ak0 k.l.length ck0])) ∧ (GS byteR (fun b => b < w.heap.size) w' pe1_0 qe1_0 (k.l.getD i evt0).wish.data) ∧ (GS intR (fun b => b < w.heap.size) w' pe1_1 qe1_1 (k.l.getD i evt0).wish.next) ∧ (GS byteR (fun b => b < w.heap.size) w' pe1_2 qe1_2 (k.l.getD i evt0).ans.data) ∧ (GS intR (fun b => b < w.heap.size) w' pe1_3 qe1_3 (k.l.getD i evt0).ans.nodes) ∧ (HP w (fun _ => False) (fun b => b < w.heap.size) w' (itB gs5 46 ([iv ((k.l.getD i evt0).time), iv ((k.l.getD i evt0).kind), iv ((k.l.getD i evt0).a), iv ((k.l.getD i evt0).b), iv ((k.l.getD i evt0).group), iv ((k.l.getD i evt0).epoch), iv ((k.l.getD i evt0).seq)] ++ (digC ((k.l.getD i evt0).dig) ++ ([iv ((k.l.getD i evt0).wish.client), iv ((k.l.getD i evt0).wish.stamp), iv ((k.l.getD i evt0).wish.group), iv ((k.l.getD i evt0).wish.epoch), iv ((k.l.getD i evt0).wish.kind), iv ((k.l.getD i evt0).wish.block), .slice pe1_0 ((k.l.getD i evt0).wish.data).length qe1_0, iv ((k.l.getD i evt0).wish.old), iv ((k.l.getD i evt0).wish.new), .slice pe1_1 ((k.l.getD i evt0).wish.next).length qe1_1, iv ((k.l.getD i evt0).ans.err), .slice pe1_2 ((k.l.getD i evt0).ans.data).length qe1_2, iv ((k.l.getD i evt0).ans.epoch), .slice pe1_3 ((k.l.getD i evt0).ans.nodes).length qe1_3]))) :: [])) ∧ i - j = mes) [(0, .pointer (some pk)), (1, iv (i : Int)), (5, pt gs5 0), (6, iv (0 : Int))] (i - 0) (by
     refine ⟨0, rfl, ?_, ?_, ?_, ?_, ?_, ?_, ?_, ?_, ?_, rfl⟩
     · omega
     · rfl
     · exact (hk0.fr q1)
     · exact (hatk.fr q1)
     · exact (he1_0.fr q1)
     · exact (he1_1.fr q1)
     · exact (he1_2.fr q1)
     · exact (he1_3.fr q1)
     · exact hp) ⟨rfl, rfl, rfl, rfl, trivial⟩ ?_
 rintro _ wr _ ⟨j, rfl, hj, hno, hk0, hatk, he1_0, he1_1, he1_2, he1_3, hp, rfl⟩ KL1 hKL1
 refine go ?_
 refine Ls_ rfl rfl (go ?_)
 refine Cd (fun hc3 => ?_) fun hc3 => ?_
 refine go ?_
 refine Fe_ fld74_1 rfl ?_
 refine Ld_ sc24 rfl (hatk.get rfl) (go ?_)
 obtain ⟨ae5, pe5_0, qe5_0, pe5_1, qe5_1, pe5_2, qe5_2, pe5_3, qe5_3, hAe5, hate5, hIe5, he5_0, he5_1, he5_2, he5_3⟩ := evtR_el hk0 j (by omega)
 refine wl_idx0 (by decide) sl24 rfl rfl hAe5 j rfl (by omega) ?_
 refine Fe_ fld46_8 rfl ?_
 refine wl_loadA (by decide) ag42 rfl ((hate5.at_.drop 39).take 10) rfl ?_
 refine wl_halloc (e := 42) (z := .agg #[iv 0, iv 0, iv 0, iv 0, iv 0, iv 0, s0, iv 0, iv 0, s0]) (by decide) (by kernel_rfl) hp ?_
 rintro gs7 w6 hp6 hE6
 have q2:=hE6
 replace hp:=hp6
 refine wl_hstore (i := 0) rfl rfl hp rfl sz42 leB_ (List.all_eq_true.1 rfl) ?_
 rintro w7 hp7 hC7
 have q3:=hk0.tk.ext q2
 replace q3:=q3.fz hC7
 replace hp:=hp7
 refine go ?_
 refine Fe_ fld74_1 rfl ?_
 refine Ld_ sc24 rfl ((hatk.fr q3).get rfl) (go ?_)
 refine wl_idx0 (by decide) sl24 rfl rfl hAe5 j rfl (by omega) ?_
 refine Fe_ fld46_1 rfl ?_
 refine Ld_ sc3 rfl ((hate5.fr q3).get rfl) ?_
 refine Eq_ rfl rfl (go ?_)
 refine Gs 46 (fun hg4 => ?_) fun hg4 => ?_
 refine go ?_
 refine Fd_ 4 fld42_4 rfl rfl (go ?_)
 refine Hl_ 0 sc3 rfl hp rfl rfl (go ?_)
 refine Eq_ rfl rfl (go ?_)
 refine Gs 51 (fun hg5 => ?_) fun hg5 => ?_
 refine go ?_
 refine Fd_ 0 fld42_0 rfl rfl (go ?_)
 refine Hl_ 0 sc3 rfl hp rfl rfl (go ?_)
 refine Fd_ 39 fld46_8 rfl rfl (go ?_)
 refine Fd_ 39 fld42_0 rfl rfl (go ?_)
 refine Hl_ 1 sc3 rfl hp rfl rfl (go ?_)
 refine Eq_ rfl rfl (go ?_)
 refine Gs 59 (fun hg6 => ?_) fun hg6 => ?_
 refine go ?_
 refine Fd_ 2 fld42_2 rfl rfl (go ?_)
 refine Hl_ 0 sc3 rfl hp rfl rfl (go ?_)
 refine Fd_ 39 fld46_8 rfl rfl (go ?_)
 refine Fd_ 41 fld42_2 rfl rfl (go ?_)
 refine Hl_ 1 sc3 rfl hp rfl rfl (go ?_)
 refine Eq_ rfl rfl (go ?_)
 refine Gs 67 (fun hg7 => ?_) fun hg7 => ?_
 refine go ?_
 refine Fd_ 5 fld42_5 rfl rfl (go ?_)
 refine Hl_ 0 sc3 rfl hp rfl rfl (go ?_)
 refine Fd_ 39 fld46_8 rfl rfl (go ?_)
 refine Fd_ 44 fld42_5 rfl rfl (go ?_)
 refine Hl_ 1 sc3 rfl hp rfl rfl (go ?_)
 refine Eq_ rfl rfl (go ?_)
 refine Gs 75 (fun hg8 => ?_) fun hg8 => ?_
 refine go ?_
 refine Fd_ 6 fld42_6 rfl rfl (go ?_)
 refine Hl_ 0 sc40 rfl hp rfl rfl (go ?_)
 refine Fd_ 39 fld46_8 rfl rfl (go ?_)
 refine Fd_ 45 fld42_6 rfl rfl (go ?_)
 refine Hl_ 1 sc40 rfl hp rfl rfl (go ?_)
 have hcl:=eqBytes_ok (he5_0.fr q3) (he1_0.fr q3)
 refine Cl_ cl75 rfl hcl ?_
 clear hcl
 rintro _ w8 ⟨rfl, hE8⟩
 replace q3:=q3.ext hE8
 replace hp:=hp.ext hE8
 refine go ?_
 refine Cd (fun hc9 => ?_) fun hc9 => ?_
 refine go ?_
 refine P1 results73 ?_
 exact ⟨_, rfl, bool_f (fun h => by have h2 := h.2.2; rw [any_found (j := j) (by omega) (by omega) (decide_eq_true (by simp_all))] at h2; cases h2), hp.chg⟩
 refine go ?_
 refine wl_add (by decide) rfl rfl (w64 (by omega) (by omega)) (gl ?_)
 refine wk_drop [(0, .pointer (some pk)), (1, iv (i : Int)), (5, pt gs5 0), (6, iv ((j + 1) : Int))] ⟨rfl, rfl, rfl, rfl, trivial⟩ (hKL1 _ _ (m2 := i - (j + 1)) ?_ ?_)
 refine ⟨(j + 1), rfl, ?_, ?_, ?_, ?_, ?_, ?_, ?_, ?_, ?_, rfl⟩
 omega
 exact any_upto hno (by omega) rfl (decide_eq_false (by simp_all))
 exact (hk0.fr q3)
 exact (hatk.fr q3)
 exact (he1_0.fr q3)
 exact (he1_1.fr q3)
 exact (he1_2.fr q3)
 exact (he1_3.fr q3)
 exact hp.tail
 omega
 refine go ?_
 refine wc_cond_f rfl ?_
 refine go ?_
 refine wl_add (by decide) rfl rfl (w64 (by omega) (by omega)) (gl ?_)
 refine wk_drop [(0, .pointer (some pk)), (1, iv (i : Int)), (5, pt gs5 0), (6, iv ((j + 1) : Int))] ⟨rfl, rfl, rfl, rfl, trivial⟩ (hKL1 _ _ (m2 := i - (j + 1)) ?_ ?_)
 refine ⟨(j + 1), rfl, ?_, ?_, ?_, ?_, ?_, ?_, ?_, ?_, ?_, rfl⟩
 omega
 exact any_upto hno (by omega) rfl (decide_eq_false (by simp_all))
 exact (hk0.fr q3)
 exact (hatk.fr q3)
 exact (he1_0.fr q3)
 exact (he1_1.fr q3)
 exact (he1_2.fr q3)
 exact (he1_3.fr q3)
 exact hp.tail
 omega
 refine go ?_
 refine wc_cond_f rfl ?_
 refine go ?_
 refine wl_add (by decide) rfl rfl (w64 (by omega) (by omega)) (gl ?_)
 refine wk_drop [(0, .pointer (some pk)), (1, iv (i : Int)), (5, pt gs5 0), (6, iv ((j + 1) : Int))] ⟨rfl, rfl, rfl, rfl, trivial⟩ (hKL1 _ _ (m2 := i - (j + 1)) ?_ ?_)
 refine ⟨(j + 1), rfl, ?_, ?_, ?_, ?_, ?_, ?_, ?_, ?_, ?_, rfl⟩
 omega
 exact any_upto hno (by omega) rfl (decide_eq_false (by simp_all))
 exact (hk0.fr q3)
 exact (hatk.fr q3)
 exact (he1_0.fr q3)
 exact (he1_1.fr q3)
 exact (he1_2.fr q3)
 exact (he1_3.fr q3)
 exact hp.tail
 omega
 refine go ?_
 refine wc_cond_f rfl ?_
 refine go ?_
 refine wl_add (by decide) rfl rfl (w64 (by omega) (by omega)) (gl ?_)
 refine wk_drop [(0, .pointer (some pk)), (1, iv (i : Int)), (5, pt gs5 0), (6, iv ((j + 1) : Int))] ⟨rfl, rfl, rfl, rfl, trivial⟩ (hKL1 _ _ (m2 := i - (j + 1)) ?_ ?_)
 refine ⟨(j + 1), rfl, ?_, ?_, ?_, ?_, ?_, ?_, ?_, ?_, ?_, rfl⟩
 omega
 exact any_upto hno (by omega) rfl (decide_eq_false (by simp_all))
 exact (hk0.fr q3)
 exact (hatk.fr q3)
 exact (he1_0.fr q3)
 exact (he1_1.fr q3)
 exact (he1_2.fr q3)
 exact (he1_3.fr q3)
 exact hp.tail
 omega
 refine go ?_
 refine wc_cond_f rfl ?_
 refine go ?_
 refine wl_add (by decide) rfl rfl (w64 (by omega) (by omega)) (gl ?_)
 refine wk_drop [(0, .pointer (some pk)), (1, iv (i : Int)), (5, pt gs5 0), (6, iv ((j + 1) : Int))] ⟨rfl, rfl, rfl, rfl, trivial⟩ (hKL1 _ _ (m2 := i - (j + 1)) ?_ ?_)
 refine ⟨(j + 1), rfl, ?_, ?_, ?_, ?_, ?_, ?_, ?_, ?_, ?_, rfl⟩
 omega
 exact any_upto hno (by omega) rfl (decide_eq_false (by simp_all))
 exact (hk0.fr q3)
 exact (hatk.fr q3)
 exact (he1_0.fr q3)
 exact (he1_1.fr q3)
 exact (he1_2.fr q3)
 exact (he1_3.fr q3)
 exact hp.tail
 omega
 refine go ?_
 refine wc_cond_f rfl ?_
 refine go ?_
 refine wl_add (by decide) rfl rfl (w64 (by omega) (by omega)) (gl ?_)
 refine wk_drop [(0, .pointer (some pk)), (1, iv (i : Int)), (5, pt gs5 0), (6, iv ((j + 1) : Int))] ⟨rfl, rfl, rfl, rfl, trivial⟩ (hKL1 _ _ (m2 := i - (j + 1)) ?_ ?_)
 refine ⟨(j + 1), rfl, ?_, ?_, ?_, ?_, ?_, ?_, ?_, ?_, ?_, rfl⟩
 omega
 exact any_upto hno (by omega) rfl (decide_eq_false (by simp_all))
 exact (hk0.fr q3)
 exact (hatk.fr q3)
 exact (he1_0.fr q3)
 exact (he1_1.fr q3)
 exact (he1_2.fr q3)
 exact (he1_3.fr q3)
 exact hp.tail
 omega
 refine go ?_
 refine P1 results73 ?_
 obtain rfl : j = i := by omega
 exact ⟨_, rfl, bool_t ⟨by simp_all, by simp_all, hno⟩, hp.chg⟩
end Go.Proofs.Ytgheaedligkhoaa
namespace Go.Proofs.Ytgheaedligkhoaa
open Go.RowKit Go.Eng _root_.Go.Proofs.Try Go.Eng _root_.Go.Proofs.Try
set_option maxRecDepth 100000
variable {w0 w : World} {M0 Fz : Nat → Prop} {H : List It} {A : Option Addr} {c : Nat}
theorem opsS_len (l : List Evt) (i : Nat) (o : Wsh) : ∀ k, (opsS l i o k).length ≤ k
 | 0 => Nat.le_refl _
 | k + 1 => by
  rw [opsS_step, List.length_append]
  have := opsS_len l i o k
  split <;> simp <;> omega
def V5 (p : Pln) (v : JVal) (e : Evt) : Prop := e.kind = 3 ∧ (namesP p).any (p5v (upj v e) e) = true
def u5 (v : JVal) (e : Evt) : JVal := if e.kind = 3 then { v with jobs := upj v e } else v
theorem up_own (v : JVal) (e : Evt) : upj v e e.group e.epoch e.seq e.a = v.jobs e.group e.epoch e.seq e.a ++ [⟨e.wish, e.ans⟩] := by
 unfold upj
 rw [if_pos ⟨rfl, rfl, rfl, rfl⟩]
theorem key98 : keyB prog 6 98 (some .i64 :: List.replicate 32 (some .u8)) = true := by kernel_rfl
theorem begins1_ok {w : World} {S S2 : Nat → Prop} {g : Nat} {cs : List Value} {m : Mrk} {e : Evt} {A0 : Option Addr} {c0 : Nat} {A1 : Option Addr} {c1 : Nat} {A2 : Option Addr} {c2 : Nat} {A3 : Option Addr} {c3 : Nat} (hat : AtF S w ⟨g, 0, none⟩ (evC e A0 c0 A1 c1 A2 c2 A3 c3)) (hm : markR.rd S2 w cs m) : Ret prog 57 #[.agg cs.toArray, pt g 0] w (fun v w' => v = .bool (decide (m.dig = e.dig)) ∧ Ext w w') := by
 obtain ⟨hI, rfl⟩ := hm
 refine ret_of_wk func57 rfl ntmps57 leB_ ?_
 have hp := HP.begin_ w
 refine so ?_
 refine Bx hp (h := fun g3 w1 hp E1 => so ?_)
 have h7 : At w1 ⟨g, 7, none⟩ (digC e.dig) := ((hat.ext E1).sub 7 32).at_
 refine wl_loadA (by decide) ag39 rfl h7 rfl ?_
 refine wl_eqlK (m := 6) (m.dig = e.dig) (by decide) key39 eg39 rfl rfl (digC_fit _) (digC_fit _) digC_inj ?_
 refine so ?_
 exact Pt ⟨_, rfl, rfl, hp.chg⟩
theorem ValB.u8 {v : JVal} {n : Nat} (h : ValB v (n + 1)) (hm : ∀ a, (calOf v a).many ≤ n) (e : Evt) : ValB (u8 v e) (n + 1) := by
 unfold Proofs.Ytgheaedligkhoaa.u8
 split
 ·refine ⟨h.j, h.s, fun a => ?_⟩
  dsimp only [calOf, upc]
  have h1 := h.m a
  have h2 := hm a
  have h3 := h.m e.a
  have h4 := hm e.a
  dsimp only [calOf] at h1 h2 h3 h4
  split
  ·simp only [Option.getD_some]; omega
  ·exact h1
 ·exact h
theorem ValB.u9 {v : JVal} {n : Nat} (h : ValB v n) (e : Evt) : ValB (u9 v e) n := by
 unfold Proofs.Ytgheaedligkhoaa.u9
 split
 ·refine ⟨h.j, h.s, fun a => ?_⟩
  dsimp only [calOf, upc]
  have h1 := h.m a
  have h3 := h.m e.a
  dsimp only [calOf] at h1 h3
  split
  ·simp only [Option.getD_some]; omega
  ·exact h1
 ·exact h
def JB (w0 : World) (M0 Fz : Nat → Prop) (w : World) (H : List It) (q : JMem) (p : Pln) (ln : Nat) (here : Int) (a : Int) (v2 : JVal) (x : Value) (w2 : World) : Prop :=
 ∃ F2, Frz Fz F2 w w2 ∧ x = iv a ∧ ((a ≠ 0 ∧ ∃ H', HP w0 M0 F2 w2 H') ∨ (a = 0 ∧ JW w0 M0 F2 w2 H q p ln here v2))
theorem VP.nil : VP val0 [] := ⟨rfl, fun _ => rfl, fun _ _ _ => rfl, fun _ _ _ => rfl, fun _ _ _ _ => rfl, fun _ _ => rfl, fun _ => rfl, fun _ => ⟨rfl, rfl, fun h => absurd (show (0 : Int) ≤ -1 from h) (by decide)⟩⟩
theorem V2_iff {v : JVal} {pre : List Evt} {e : Evt} (h : VP v pre) : V2 v e ↔ R2 pre e := by unfold V2 R2; rw [h.down]
theorem V1_iff {p : Pln} {v : JVal} {pre : List Evt} {e : Evt} (h : VP v pre) : V1 p v e ↔ R1 p pre e := by unfold V1 R1; rw [h.time]
theorem opU_opS (l : List Evt) (i j : Nat) : opU l (i + 1) j = opS l i j := by
 unfold opU opS endK
 rw [Nat.add_sub_add_right]
 rfl
theorem ldone_ok {w : World} {S : Nat → Prop} {cs cs2 : List Value} {x : Wsh} {a : Ans} (h : wishR.rd S w cs x) (h2 : ansR.rd S w cs2 a) : Ret prog 23 #[.agg cs.toArray, .agg cs2.toArray] w (fun v w' => ∃ cs' : List Value, v = .agg cs'.toArray ∧ evtR.rd S w' cs' (doneE x a) ∧ Ext w w') := by
 obtain ⟨hI, A, c, B, d, rfl, h0, h1⟩ := h
 obtain ⟨hI2, A2, c2, B2, d2, rfl, h20, h21⟩ := h2
 refine ret_of_wk func23 rfl ntmps23 leB_ ?_
 have hp := HP.begin_ w
 refine so ?_
 refine Bx hp (h := fun g1 w1 hp E1 => so ?_)
 refine Bx hp (h := fun g2 w2 hp E2 => so ?_)
 refine Alo hp (h := fun g3 w3 hp E3 => so ?_)
 refine wl_builtS (ps := [(1, .const (.int .i64 2)), (2, .tmp 6), (8, .tmp 7), (9, .tmp 8)]) (by decide) bld46 rfl rfl (so ?_)
 refine wl_re (k := 9) (v := .agg (evC (doneE x a) A c B d A2 c2 B2 d2).toArray) rfl rfl ?_
 refine Hs 0 hp (h := fun w4 hp C4 => so ?_)
 refine wk_postR (rs := [.cell 4 46]) (.inl rfl) results23 ⟨_, _, _, rfl, rfl, loadVar_agg ag46 (hp.blkAt (i := 0) rfl).at0 rfl, rfl⟩ ?_
 have hc : Ext w w4 := hp.chg
 obtain ⟨i0, i1, i2, i3, i4, i5, i6, i7⟩ := hI
 exact ⟨_, rfl, _, rfl, ⟨⟨j0, j2, i0, j0, j0, j0, j0, i0, i1, i2, i3, i4, i5, i6, i7, hI2.1, hI2.2⟩, A, c, B, d, A2, c2, B2, d2, rfl, h0.ext hc, h1.ext hc, h20.ext hc, h21.ext hc⟩, hc⟩
end Go.Proofs.Ytgheaedligkhoaa
