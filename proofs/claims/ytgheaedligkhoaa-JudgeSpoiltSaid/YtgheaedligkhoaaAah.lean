/- What each of these functions computes, for every argument that its theorem names; a part of what the proof of JudgeFinds stands on. -/
import Derived.Test.YtgheaedligkhoaaAab
import Derived.Test.YtgheaedligkhoaaAac
import Derived.Test.YtgheaedligkhoaaAad
import Derived.Test.YtgheaedligkhoaaAae
import Derived.Test.YtgheaedligkhoaaAaf
import Derived.Test.YtgheaedligkhoaaAag
namespace Go.Proofs.Ytgheaedligkhoaa
open Go.RowKit Go.Eng Go.Eng _root_.Go.Proofs.Try
set_option maxRecDepth 100000
variable {w0 w : World} {M0 Fz : Nat → Prop} {H : List It} {A : Option Addr} {c : Nat}
theorem EvtI.job {n : Evt} (h : EvtI n) : JobI ⟨n.wish, n.ans⟩ := by unfold EvtI i64 at h; unfold JobI i64; dsimp only; omega
end Go.Proofs.Ytgheaedligkhoaa
namespace Go.Proofs.Ytgheaedligkhoaa
open Go.ChangeShapes Go.WideShapes Go.ChangeAt Go.RowKit Go.Eng Go.Eng _root_.Go.Proofs.Try
set_option maxRecDepth 100000
variable {w0 w : World} {M0 Fz : Nat → Prop} {H : List It} {A : Option Addr} {c : Nat}
theorem reads_Evt : ReadsR Try.prog 46 evtR (fun x => x.wish.next.length * 8 ≤ 140737488355328 ∧ x.ans.nodes.length * 8 ≤ 140737488355328) := by
  intro H enc w base sp held fuel cs x h hlt hw
  have hlen := trod_structLen Try.underlying46 h
  rw [Try.ce46] at hlen
  obtain ⟨v0, h0, g0⟩ := reads_field Try.underlying46 (i := 0) rfl (reads_int Try.underlying3) h hlt hw
  replace h0 : intR.rd _ _ ((cs.drop 0).take (Try.prog.cellsOf 3)) v0 := h0
  rw [Try.ce3] at h0
  have e0 : (cs.drop 0).take 1 = [.int .i64 v0] := h0
  obtain ⟨v1, h1, g1⟩ := reads_field Try.underlying46 (i := 1) rfl (reads_int Try.underlying3) h hlt hw
  replace h1 : intR.rd _ _ ((cs.drop 1).take (Try.prog.cellsOf 3)) v1 := h1
  rw [Try.ce3] at h1
  have e1 : (cs.drop 1).take 1 = [.int .i64 v1] := h1
  obtain ⟨v2, h2, g2⟩ := reads_field Try.underlying46 (i := 2) rfl (reads_int Try.underlying3) h hlt hw
  replace h2 : intR.rd _ _ ((cs.drop 2).take (Try.prog.cellsOf 3)) v2 := h2
  rw [Try.ce3] at h2
  have e2 : (cs.drop 2).take 1 = [.int .i64 v2] := h2
  obtain ⟨v3, h3, g3⟩ := reads_field Try.underlying46 (i := 3) rfl (reads_int Try.underlying3) h hlt hw
  replace h3 : intR.rd _ _ ((cs.drop 3).take (Try.prog.cellsOf 3)) v3 := h3
  rw [Try.ce3] at h3
  have e3 : (cs.drop 3).take 1 = [.int .i64 v3] := h3
  obtain ⟨v4, h4, g4⟩ := reads_field Try.underlying46 (i := 4) rfl (reads_int Try.underlying3) h hlt hw
  replace h4 : intR.rd _ _ ((cs.drop 4).take (Try.prog.cellsOf 3)) v4 := h4
  rw [Try.ce3] at h4
  have e4 : (cs.drop 4).take 1 = [.int .i64 v4] := h4
  obtain ⟨v5, h5, g5⟩ := reads_field Try.underlying46 (i := 5) rfl (reads_int Try.underlying3) h hlt hw
  replace h5 : intR.rd _ _ ((cs.drop 5).take (Try.prog.cellsOf 3)) v5 := h5
  rw [Try.ce3] at h5
  have e5 : (cs.drop 5).take 1 = [.int .i64 v5] := h5
  obtain ⟨v6, h6, g6⟩ := reads_field Try.underlying46 (i := 6) rfl (reads_int Try.underlying3) h hlt hw
  replace h6 : intR.rd _ _ ((cs.drop 6).take (Try.prog.cellsOf 3)) v6 := h6
  rw [Try.ce3] at h6
  have e6 : (cs.drop 6).take 1 = [.int .i64 v6] := h6
  obtain ⟨v7, h7, g7⟩ := reads_field Try.underlying46 (i := 7) rfl reads_t39 h hlt hw
  replace h7 : digR.rd _ _ ((cs.drop 7).take (Try.prog.cellsOf 39)) v7 := h7
  rw [Try.ce39] at h7
  have e7 : (cs.drop 7).take 32 = digC v7 := h7
  obtain ⟨v8, h8, g8⟩ := reads_field Try.underlying46 (i := 8) rfl reads_Wsh h hlt hw
  replace h8 : wishR.rd _ _ ((cs.drop 39).take (Try.prog.cellsOf 42)) v8 := h8
  rw [Try.ce42] at h8
  obtain ⟨I8, A8_0, c8_0, A8_1, c8_1, e8, k8_0, k8_1⟩ := h8
  unfold WshI i64 at I8
  obtain ⟨v9, h9, g9⟩ := reads_field Try.underlying46 (i := 9) rfl reads_Ans h hlt hw
  replace h9 : ansR.rd _ _ ((cs.drop 49).take (Try.prog.cellsOf 44)) v9 := h9
  rw [Try.ce44] at h9
  obtain ⟨I9, A9_0, c9_0, A9_1, c9_1, e9, k9_0, k9_1⟩ := h9
  unfold AnsI i64 at I9
  have e := (List.drop_zero (l := cs)).symm
  rw [seg_cons (m := 1) rfl e0] at e
  rw [seg_cons (m := 2) rfl e1] at e
  rw [seg_cons (m := 3) rfl e2] at e
  rw [seg_cons (m := 4) rfl e3] at e
  rw [seg_cons (m := 5) rfl e4] at e
  rw [seg_cons (m := 6) rfl e5] at e
  rw [seg_cons (m := 7) rfl e6] at e
  rw [seg_cons (m := 39) rfl e7] at e
  rw [seg_cons (m := 49) rfl e8] at e
  rw [seg_cons (m := 53) rfl e9] at e
  rw [List.drop_eq_nil_of_le (by rw [hlen]; exact Nat.le_refl _)] at e
  refine ⟨{ time := v0, kind := v1, a := v2, b := v3, group := v4, epoch := v5, seq := v6, dig := v7, wish := v8, ans := v9 }, ?_, ⟨g8, g9⟩⟩
  refine ⟨by unfold EvtI i64; dsimp only; omega, _, _, _, _, _, _, _, _, e.trans (by (try simp only [List.cons_append, List.nil_append, List.append_nil]); try rfl), k8_0, k8_1, k9_0, k9_1⟩
end Go.Proofs.Ytgheaedligkhoaa
namespace Go.Proofs.Ytgheaedligkhoaa
open Go.RowKit Go.Eng _root_.Go.Proofs.Try Go.Eng _root_.Go.Proofs.Try
set_option maxRecDepth 100000
variable {w0 w : World} {M0 Fz : Nat → Prop} {H : List It} {A : Option Addr} {c : Nat}
theorem JR.to {Fz F : Nat → Prop} {w w' : World} {v : JVal} {f1 f2 f3 f4 f5 f6 f7 : Value → Option Value} {r4 r5 : Value → Option (List Value)} (h : JR Fz w v f1 f2 f3 f4 f5 f6 f7 r4 r5) (k : Frz Fz F w w' := by exact mv) : JR F w' v f1 f2 f3 f4 f5 f6 f7 r4 r5 :=
 ⟨h.d, h.b, h.m, ⟨h.j.1, fun g ep s n => (h.j.2 g ep s n).imp id (fun ⟨A, c, rs, a1, a2, a3⟩ => ⟨A, c, rs, a1, a2, a3.to k⟩)⟩, h.s, h.f, fun a => (h.c a).imp id (fun ⟨x, cs, a1, a2, a3⟩ => ⟨x, cs, a1, a2, calR.mono (fun b _ hs => k.sub b hs) (calR.keep k.chg (fun _b _ hb hn => hn hb) a3)⟩)⟩
def JW (w0 : World) (M0 Fz : Nat → Prop) (w : World) (H : List It) (q : JMem) (p : Pln) (ln : Nat) (here : Int) (v : JVal) : Prop :=
 ∃ f1 f2 f3 f4 f5 f6 f7 r4 r5, HP w0 M0 Fz w (jH p q ln here v.time f1 f2 f3 f4 f5 f6 f7 r4 r5 H) ∧ JR Fz w v f1 f2 f3 f4 f5 f6 f7 r4 r5
abbrev evC (e : Evt) (A0 : Option Addr) (c0 : Nat) (A1 : Option Addr) (c1 : Nat) (A2 : Option Addr) (c2 : Nat) (A3 : Option Addr) (c3 : Nat) : List Value := [.int .i64 e.time, .int .i64 e.kind, .int .i64 e.a, .int .i64 e.b, .int .i64 e.group, .int .i64 e.epoch, .int .i64 e.seq] ++ (digC e.dig ++ ([.int .i64 e.wish.client, .int .i64 e.wish.stamp, .int .i64 e.wish.group, .int .i64 e.wish.epoch, .int .i64 e.wish.kind, .int .i64 e.wish.block, .slice A0 e.wish.data.length c0, .int .i64 e.wish.old, .int .i64 e.wish.new, .slice A1 e.wish.next.length c1, .int .i64 e.ans.err, .slice A2 e.ans.data.length c2, .int .i64 e.ans.epoch, .slice A3 e.ans.nodes.length c3]))
abbrev caC (c : Cal) (A0 : Option Addr) (c0 : Nat) (A1 : Option Addr) (c1 : Nat) : List Value := wsC c.wish A0 c0 A1 c1 ++ [.bool c.opn, iv c.many]
def V8 (v : JVal) (e : Evt) : Prop := e.kind = 1 ∧ ((calOf v e.a).opn = true ∨ ¬ askK e.wish ∨ e.wish.client ≠ e.a ∨ e.wish.stamp ≠ (calOf v e.a).many + 1)
def u8 (v : JVal) (e : Evt) : JVal := if e.kind = 1 then { v with calls := upc v.calls e.a ⟨e.wish, true, (calOf v e.a).many + 1⟩ } else v
def V9 (v : JVal) (e : Evt) : Prop := e.kind = 2 ∧ ((calOf v e.a).opn = false ∨ ¬ (calOf v e.a).wish = e.wish)
def u9 (v : JVal) (e : Evt) : JVal := if e.kind = 2 then { v with calls := upc v.calls e.a ⟨(calOf v e.a).wish, false, (calOf v e.a).many⟩ } else v
end Go.Proofs.Ytgheaedligkhoaa
namespace Go.Proofs.Ytgheaedligkhoaa
open Go.RowKit Go.Eng Go.Eng _root_.Go.Proofs.Try
set_option maxRecDepth 100000
variable {w0 w : World} {M0 Fz : Nat → Prop} {H : List It} {A : Option Addr} {c : Nat}
theorem con_ok {A : Option Addr} {c : Nat} {H : List HOp} {S : Nat → Prop} {w : World} (h : HS S w A c H) : Ret Try.prog 98 #[.slice A H.length c, .func (.func 99) #[] #[]] w (fun v w' => v = .bool (H.any badOp) ∧ Ext w w') := by
 refine ret_of_wk Try.func98 rfl Try.ntmps98 (Nat.le_of_ble_eq_true rfl) ?_
 refine wc_seq ?_
 refine wc_region ?_
 refine wl_assign (by decide) rfl ?_
 refine wl_nil ?_
 refine wk_norm ?_
 refine wc_seq ?_
 refine wc_region ?_
 refine wl_move (by decide) rfl ?_
 refine wl_move (by decide) rfl ?_
 have hcl := idx_ok h
 refine wl_call (by decide) Try.cl102 rfl hcl ?_
 clear hcl
 rintro _ w1 ⟨r, rfl, hr, hE1⟩
 refine wl_geq (by decide) rfl rfl ?_
 refine wl_assign (by decide) rfl ?_
 refine wl_nil ?_
 refine wk_norm ?_
 refine wc_ret ?_
 refine wk_post1 (.inl rfl) Try.results98 rfl ?_
 exact ⟨_, rfl, by rw [← hr], hE1⟩
set_option maxHeartbeats 2000000 in
theorem pfind_step {H : List HOp} {first : List UInt8} {N : Nat} (hl14 : H.length ≤ 14) (ih : ∀ N', N' < N → PFind H first N') {FR : List It} {f : Value → Option Value} {p : List Nat} {last : Int} {A0 A1 AB AO : Option Addr} {c0 c1 cB cO gE gT gF gL gB gO gf m : Nat} (hp : HP w0 M0 Fz w (itB gO 33 [.slice AO p.length cO] :: itR 3 1 AO p.length cO ((nats p).map fun z : Int => Value.int .i64 z) :: itM prog 137 m f :: itB gE 3 [.int .i64 (endN H : Int)] :: itB gT 134 [.map (some m)] :: itB gF 40 [.slice A1 first.length c1] :: itB gL 107 [.slice A0 H.length c0] :: itB gB 33 [.slice AB (befL H).length cB] :: itB gf 135 [capV gE gT gF gL gB gO gf] :: FR)) (h : HS Fz w A0 c0 H) (hf : BS Fz w A1 c1 first) (hbf : IS Fz w AB cB (befL H)) (hP : POK H.length p) (hL : LastK H last) (hT1 : TriedK f) (hT : ∀ t, (f (keyV t)).isSome = true → G H first t.1 t.2 = none ∨ t.1 < bitsS p) (hN : cntN H.length (bitsS p) ≤ N) : Ret prog 93 #[keyV (bitsS p, last), .pointer (some ⟨gE, 0, none⟩), .pointer (some ⟨gT, 0, none⟩), .pointer (some ⟨gF, 0, none⟩), .pointer (some ⟨gL, 0, none⟩), .pointer (some ⟨gB, 0, none⟩), .pointer (some ⟨gO, 0, none⟩), .pointer (some ⟨gf, 0, none⟩)] w (fun v w' => PFindPost H first w0 M0 Fz w FR f p last A0 A1 AB c0 c1 cB gE gT gF gL gB gO gf m v w') := by
 have hfr:=Frz.start Fz w
 have hLL:=hL.1
 have hLU:=hL.2
 have hbb:=bitsS_lt hP
 have hbb2 : bitsS p < 16384 := Nat.lt_of_lt_of_le hbb (Nat.le_trans (Nat.pow_le_pow_right (by omega) hl14) (by decide))
 have hb63 : bitsS p < 9223372036854775808 := by omega
 have hend : endN H < 9223372036854775808 := setN_63 _ (by omega)
 refine ret_of_wk func93 rfl ntmps93 leB_ ?_
 refine go ?_
 refine wl_hbox (by decide) rfl hp ?_
 rintro gs8 w1 hp1 hE1
 have q0:=hE1
 replace hp:=hp1
 refine go ?_
 refine Fd_ 0 fld137_0 rfl rfl ?_
 refine Hl_ 0 sc3 rfl hp rfl rfl ?_
 refine Hl_ 4 sc3 rfl hp rfl rfl ?_
 refine wl_and (by decide) rfl rfl (andN hb63 hend) ?_
 refine Hl_ 4 sc3 rfl hp rfl rfl ?_
 refine Eq_ rfl rfl (go ?_)
 refine Cd (fun hw0 => ?_) fun hw0 => ?_
 have hw : wholeS H (bitsS p) = true := and_end.1 (by have hw1 : ((bitsS p &&& endN H : Nat) : Int) = (endN H : Int) := hw0; omega)
 refine go ?_
 refine P1 results93 ?_
 exact ⟨_, rfl, true, f, AO, cO, Fz, p, rfl, hp.tail, fun _ h => h, (hfr.ext q0).chg, hT1, by rw [G_whole H first hw]; exact ⟨rfl, by simp⟩⟩
 have hw : wholeS H (bitsS p) = false := by
   cases hh : wholeS H (bitsS p)
   · rfl
   · exact absurd (congrArg (fun x : Nat => (x : Int)) (and_end.2 hh)) hw0
 refine go ?_
 refine Hl_ 5 sc134 rfl hp rfl rfl ?_
 refine wl_hloadA (i := 0) (by decide) ag137 rfl hp rfl rfl ?_
 obtain ⟨lk, hlk⟩ := keyOf_of key137 (cs := [iv (bitsS p : Int), iv last]) (FitK.cons (fit_int (by omega) (by omega)) (FitK.cons (fit_int (by omega) (by omega)) FitK.nil))
 refine wl_lookup (z := iv 0) (key := keyV (bitsS p, last)) (by decide) (keyed_of key137) underlying134 (by kernel_rfl) rfl rfl hlk (hp.mapAt (i := 3) rfl) ?_
 refine wl_re (k := 22) (v := iv (if (f (keyV (bitsS p, last))).isSome then 1 else 0)) rfl (tried_val hT1 _) ?_
 refine Gt_ rfl rfl (go ?_)
 refine Cd (fun hk => ?_) fun hk => ?_
 have hs : (f (keyV (bitsS p, last))).isSome = true := by
   cases hh : (f (keyV (bitsS p, last))).isSome with
   | true => rfl
   | false => rw [hh] at hk; simp at hk
 have hg : G H first (bitsS p) last = none := (hT _ hs).elim id (fun x => absurd x (Nat.lt_irrefl _))
 refine go ?_
 refine P1 results93 ?_
 exact ⟨_, rfl, false, f, AO, cO, Fz, p, rfl, hp.tail, fun _ h => h, (hfr.ext q0).chg, hT1, by rw [hg]; exact ⟨rfl, rfl, fun t ht => .inl ht⟩⟩
 skip
 refine go ?_
 refine Hl_ 5 sc134 rfl hp rfl rfl ?_
 refine wl_hloadA (i := 0) (by decide) ag137 rfl hp rfl rfl ?_
 refine wl_hmapUpdate (i := 3) (key := keyV (bitsS p, last)) (keyed_of key137) underlying134 rfl rfl rfl hlk hp rfl ?_
 rintro w5 hp5 hC5
 have q1:=h.tk.ext q0
 replace q1:=q1.fz hC5
 replace hp:=hp5
 refine go ?_
 refine Hl_ 6 sc40 rfl hp rfl rfl (gl ?_)
 refine wc_seq_cut (fun L' w' => ∃ (A10 : Option Addr), ∃ (c10 : Nat), L' = [(4, pt gL 0), (5, pt gB 0), (6, pt gO 0), (7, pt gf 0), (8, pt gs8 0), (10, .slice A10 (valueOf H first last).length c10)] ∧ (HP w0 M0 Fz w' (itB gs8 137 [iv (bitsS p : Int), iv last] :: itB gO 33 [.slice AO p.length cO] :: itR 3 1 AO p.length cO ((nats p).map fun z : Int => Value.int .i64 z) :: itM prog 137 m (updF f (keyV (bitsS p, last)) (iv 1)) :: itB gE 3 [iv (endN H : Int)] :: itB gT 134 [.map (some m)] :: itB gF 40 [.slice A1 first.length c1] :: itB gL 107 [.slice A0 H.length c0] :: itB gB 33 [.slice AB (befL H).length cB] :: itB gf 135 [capV gE gT gF gL gB gO gf] :: FR)) ∧ (HS Fz w' A0 c0 H) ∧ (BS Fz w' A1 c1 first) ∧ (IS Fz w' AB cB (befL H)) ∧ (Frz Fz Fz w w') ∧ (BS Fz w' A10 c10 (valueOf H first last))) (fun K hK => ?_) ?_
 refine go ?_
 refine Fd_ 1 fld137_1 rfl rfl ?_
 refine Hl_ 0 sc3 rfl hp rfl rfl ?_
 refine Gq_ rfl rfl (go ?_)
 refine Cd (fun h0 => ?_) fun h0 => ?_
 obtain ⟨aV, BV, dV, hAV, hatV, hvV⟩ := HS.el (h.fr q1) last.toNat (by omega)
 have hval : valueOf H first last = (hop H last.toNat).val := by rw [valueOf, if_pos h0]
 refine go ?_
 refine Hl_ 7 sc107 rfl hp rfl rfl ?_
 refine Fd_ 1 fld137_1 rfl rfl ?_
 refine Hl_ 0 sc3 rfl hp rfl rfl ?_
 refine wl_idx0 (by decide) sl107 rfl rfl hAV last.toNat (by omega) (by omega) ?_
 refine Fe_ fld120_1 rfl ?_
 refine Ld_ sc40 rfl (hatV.get rfl) (gl ?_)
 refine wk_drop [(4, pt gL 0), (5, pt gB 0), (6, pt gO 0), (7, pt gf 0), (8, pt gs8 0), (10, .slice _ (valueOf H first last).length _)] ⟨rfl, rfl, rfl, rfl, rfl, (by rw [hval]; rfl), trivial⟩ (hK _ _ ?_)
 refine ⟨_, _, rfl, ?_, ?_, ?_, ?_, ?_, ?_⟩
 exact hp
 exact (h.fr q1)
 exact (hf.fr q1)
 exact (hbf.fr q1)
 exact (hfr.fr q1)
 rw [hval]; first | exact hvV | exact (hf.fr q1)
 have hval : valueOf H first last = first := by rw [valueOf, if_neg h0]
 refine gl ?_
 refine wk_drop [(4, pt gL 0), (5, pt gB 0), (6, pt gO 0), (7, pt gf 0), (8, pt gs8 0), (10, .slice _ (valueOf H first last).length _)] ⟨rfl, rfl, rfl, rfl, rfl, (by rw [hval]; rfl), trivial⟩ (hK _ _ ?_)
 refine ⟨_, _, rfl, ?_, ?_, ?_, ?_, ?_, ?_⟩
 exact hp
 exact (h.fr q1)
 exact (hf.fr q1)
 exact (hbf.fr q1)
 exact (hfr.fr q1)
 rw [hval]; first | exact hvV | exact (hf.fr q1)
 rintro _ wc ⟨A10, c10, rfl, hp, h, hf, hbf, hfr, hv⟩
 refine go ?_
 refine Hl_ 7 sc107 rfl hp rfl rfl ?_
 refine Ln_ underlying107 rfl (go ?_)
 refine wc_loop (fun L' w' mes => ∃ (i : Nat), ∃ (Fz2 : Nat → Prop), ∃ (f2 : Value → Option Value), ∃ (AO2 : Option Addr), ∃ (cO2 : Nat), L' = [(5, pt gB 0), (6, pt gO 0), (7, pt gf 0), (8, pt gs8 0), (10, .slice A10 (valueOf H first last).length c10), (36, .slice A0 H.length c0), (37, iv (H.length : Int)), (38, iv (i : Int))] ∧ (i ≤ H.length) ∧ (∀ j, j < i → allowS H first (bitsS p) last j = true → G H first (bitsS p ||| 1 <<< j) (nextL H last j) = none) ∧ (TriedK f2) ∧ (∀ t, (f2 (keyV t)).isSome = true → (f (keyV t)).isSome = true ∨ t = (bitsS p, last) ∨ G H first t.1 t.2 = none) ∧ (HP w0 M0 Fz2 w' (itB gs8 137 [iv (bitsS p : Int), iv last] :: itB gO 33 [.slice AO2 p.length cO2] :: itR 3 1 AO2 p.length cO2 ((nats p).map fun z : Int => Value.int .i64 z) :: itM prog 137 m f2 :: itB gE 3 [iv (endN H : Int)] :: itB gT 134 [.map (some m)] :: itB gF 40 [.slice A1 first.length c1] :: itB gL 107 [.slice A0 H.length c0] :: itB gB 33 [.slice AB (befL H).length cB] :: itB gf 135 [capV gE gT gF gL gB gO gf] :: FR)) ∧ (HS Fz2 w' A0 c0 H) ∧ (BS Fz2 w' A1 c1 first) ∧ (IS Fz2 w' AB cB (befL H)) ∧ (Frz Fz Fz2 w w') ∧ (BS Fz2 w' A10 c10 (valueOf H first last)) ∧ H.length - i = mes) [(5, pt gB 0), (6, pt gO 0), (7, pt gf 0), (8, pt gs8 0), (10, .slice A10 (valueOf H first last).length c10), (36, .slice A0 H.length c0), (37, iv (H.length : Int)), (38, iv (0 : Int))] (H.length - 0) (by
     refine ⟨0, Fz, (updF f (keyV (bitsS p, last)) (iv 1)), AO, cO, rfl, ?_, ?_, ?_, ?_, ?_, ?_, ?_, ?_, ?_, ?_, rfl⟩
     · omega
     · intro j hj; omega
     · intro key v hk
       by_cases e : key = (keyV (bitsS p, last))
       · subst e; rw [updF_same] at hk; exact (Option.some.inj hk).symm
       · rw [updF_other f e] at hk; exact hT1 key v hk
     · intro t ht
       by_cases e : keyV t = (keyV (bitsS p, last))
       · exact .inr (.inl (keyV_inj e))
       · rw [updF_other f e] at ht; exact .inl ht
     · exact hp
     · exact h
     · exact hf
     · exact hbf
     · exact hfr
     · exact hv) ⟨rfl, rfl, rfl, rfl, rfl, rfl, rfl, rfl, trivial⟩ ?_
 rintro _ wr _ ⟨i, Fz2, f2, AO2, cO2, rfl, hi, hall, hT12, hT2, hp, h, hf, hbf, hfr, hv, rfl⟩ KL1 hKL1
 have hmx:=h.mx
 refine go ?_
 refine Ls_ rfl rfl (go ?_)
 refine Cd (fun hlt => ?_) fun hlt => ?_
 refine go ?_
 obtain ⟨aK, BK, dK, hAK, hatK, hvK⟩ := HS.el h i (by omega)
 obtain ⟨aQ, hAQ, hatQ⟩ := GS.el1 hbf i (by simp [befL]; omega)
 rw [befL_get (by omega)] at hatQ
 refine wl_idx0 (by decide) sl107 rfl rfl hAK i rfl (by omega) ?_
 refine wl_loadA (by decide) ag120 rfl hatK.at_ rfl ?_
 refine wl_halloc (e := 120) (z := .agg #[.bool false, s0, iv 0, iv 0]) (by decide) (by kernel_rfl) hp ?_
 rintro gs12 w2 hp2 hE2
 have q2:=hE2
 replace hp:=hp2
 refine go ?_
 refine wl_hstore (i := 0) rfl rfl hp rfl sz120 leB_ (List.all_eq_true.1 rfl) ?_
 rintro w3 hp3 hC3
 have q3:=h.tk.ext q2
 replace q3:=q3.fz hC3
 replace hp:=hp3
 refine go ?_
 by_cases h5 : (bitsS p).testBit i = true
 have ha:=allow_no_bit (H := H) (f := first) (last := last) (s := bitsS p) (i := i) h5
 apply wdL [.eq _,.eq _,.eq _,.eq (iv ((bitsS p / 2 ^ i : Nat) : Int)),.eq (iv ((bitsS p / 2 ^ i &&& 1 : Nat) : Int)),.eq (.bool true),.eq (.bool true),.eq undef,.eq undef,.eq undef,.eq undef,.eq undef,.eq undef,.eq undef,.eq undef,.eq (.bool true),.eq (.bool true),.eq undef,.eq undef,.eq undef,.eq undef,.eq undef,.eq undef,.eq undef,.eq undef,.eq undef,.eq undef,.eq (.bool true)]
 refine ⟨?_,?_,?_,?_,?_,?_,?_,?_,?_,?_,?_,?_,?_,?_,?_,?_,?_,?_,?_,?_,?_,?_,?_,?_,?_,?_,?_,?_,trivial⟩<;>intro F wF hER hk
 exact Fd_ 0 fld137_0 (hk.pi 8) rfl qz
 exact Hl_ 1 sc3 (hk.pe 0) (hp.ext hER) rfl rfl qz
 exact dm (hk.pi 11)
 have e44:=hk.pe 1
 have e45:=hk.pe 2
 exact wl_shr (by decide) e44 e45 (by omega) (shrN (bitsS p) i (by omega)) qz
 exact wl_and (by decide) (hk.pe 3) rfl (andN (y := 1) (Nat.lt_of_le_of_lt (Nat.div_le_self _ _) hb63) (by decide)) qz
 have e47:=hk.pe 4
 refine Eq_ e47 rfl ?_
 exact wl_re (k := 48) (v := .bool true) rfl (congrArg Value.bool (decide_eq_true (by rw [bit1, if_pos h5]; rfl))) qy
 exact dm (hk.pe 5)
 exact dn (hk.pe 6)
 exact dn (hk.pe 6)
 exact dn (hk.pe 6)
 exact dn (hk.pe 6)
 exact dn (hk.pe 6)
 exact dn (hk.pe 6)
 exact dn (hk.pe 6)
 exact dn (hk.pe 6)
 have e49:=hk.pe 6
 have e57:=hk.pe 14
 exact Pk_ e49 rfl qz
 exact dm (hk.pe 15)
 exact dn (hk.pe 16)
 exact dn (hk.pe 16)
 exact dn (hk.pe 16)
 exact dn (hk.pe 16)
 exact dn (hk.pe 20)
 exact dn (hk.pe 20)
 exact dn (hk.pe 20)
 exact dn (hk.pe 20)
 exact dn (hk.pe 20)
 exact dn (hk.pe 16)
 have e59:=hk.pe 16
 have e69:=hk.pe 26
 exact Pk_ e59 rfl qz
 intro F wD hED hini hdo
 refine wk_drop [(5, _), (6, _), (7, _), (8, _), (10, _), (11, _), (12, _), (36, _), (37, _), (38, _), (70, _)] ⟨di hini 5, di hini 6, di hini 7, di hini 8, di hini 10, di hini 11, di hini 12, di hini 36, di hini 37, di hini 38, dq hdo 27, trivial⟩ ?_
 clear hini hdo
 replace q3:=q3.ext hED
 replace hp:=hp.ext hED
 refine go ?_
 refine wc_cond_t rfl (go ?_)
 refine wl_add (by decide) rfl rfl (w64 (by omega) (by omega)) (gl ?_)
 refine wk_drop [(5, pt gB 0), (6, pt gO 0), (7, pt gf 0), (8, pt gs8 0), (10, .slice A10 (valueOf H first last).length c10), (36, .slice A0 H.length c0), (37, iv (H.length : Int)), (38, iv ((i + 1) : Int))] ⟨rfl, rfl, rfl, rfl, rfl, rfl, rfl, rfl, trivial⟩ (hKL1 _ _ (m2 := H.length - (i + 1)) ?_ ?_)
 refine ⟨(i + 1), Fz2, f2, AO2, cO2, rfl, ?_, ?_, ?_, ?_, ?_, ?_, ?_, ?_, ?_, ?_, rfl⟩
 omega
 intro j hj hja
 by_cases e : j = i
 subst e; exact absurd hja (by rw [ha]; simp)
 exact hall j (by omega) hja
 exact hT12
 exact hT2
 exact hp.tail
 exact (h.fr q3)
 exact (hf.fr q3)
 exact (hbf.fr q3)
 exact (hfr.fr q3)
 exact (hv.fr q3)
 omega
 by_cases h14 : subN (setN (ahd H i) H.length) (bitsS p) ≠ 0
 have ha:=allow_no_sub (first := first) (last := last) hl14 hb63 h14
 apply wdL [.eq _,.eq _,.eq _,.eq (iv ((bitsS p / 2 ^ i : Nat) : Int)),.eq (iv ((bitsS p / 2 ^ i &&& 1 : Nat) : Int)),.eq (.bool false),.eq (.bool false),.eq _,.eq _,.eq _,.eq _,.eq _,.eq _,.eq (iv (subN (setN (ahd H i) H.length) (bitsS p) : Int)),.eq (.bool true),.eq (.bool true),.eq (.bool true),.eq undef,.eq undef,.eq undef,.eq undef,.eq undef,.eq undef,.eq undef,.eq undef,.eq undef,.eq undef,.eq (.bool true)]
 refine ⟨?_,?_,?_,?_,?_,?_,?_,?_,?_,?_,?_,?_,?_,?_,?_,?_,?_,?_,?_,?_,?_,?_,?_,?_,?_,?_,?_,?_,trivial⟩<;>intro F wF hER hk
 exact Fd_ 0 fld137_0 (hk.pi 8) rfl qz
 exact Hl_ 1 sc3 (hk.pe 0) (hp.ext hER) rfl rfl qz
 exact dm (hk.pi 11)
 have e44:=hk.pe 1
 have e45:=hk.pe 2
 exact wl_shr (by decide) e44 e45 (by omega) (shrN (bitsS p) i (by omega)) qz
 exact wl_and (by decide) (hk.pe 3) rfl (andN (y := 1) (Nat.lt_of_le_of_lt (Nat.div_le_self _ _) hb63) (by decide)) qz
 have e47:=hk.pe 4
 refine Eq_ e47 rfl ?_
 exact wl_re (k := 48) (v := .bool false) rfl (congrArg Value.bool (decide_eq_false (by rw [bit1, if_neg h5]; decide))) qy
 exact dm (hk.pe 5)
 have e5:=hk.pi 5
 have e49:=hk.pe 6
 refine wl_gyes rfl e49 ?_
 exact Hl_ 9 sc33 e5 (hp.ext hER) rfl rfl qz
 have e11:=hk.pi 11
 have e49:=hk.pe 6
 refine wl_gyes rfl e49 ?_
 exact Mv_ e11 qz
 have e50:=hk.pe 7
 have e51:=hk.pe 8
 have e49:=hk.pe 6
 refine wl_gyes rfl e49 ?_
 exact wl_idx0 (by decide) sl33 e50 e51 hAQ i rfl (by simp [befL]; omega) qz
 have e52:=hk.pe 9
 have e49:=hk.pe 6
 refine wl_gyes rfl e49 ?_
 exact Ld_ sc3 e52 ((hatQ.fr q3).ext hER).head qz
 have e8:=hk.pi 8
 have e49:=hk.pe 6
 refine wl_gyes rfl e49 ?_
 exact Fd_ 0 fld137_0 e8 rfl qz
 have e54:=hk.pe 11
 have e49:=hk.pe 6
 refine wl_gyes rfl e49 ?_
 exact Hl_ 1 sc3 e54 (hp.ext hER) rfl rfl qz
 have e53:=hk.pe 10
 have e55:=hk.pe 12
 have e49:=hk.pe 6
 refine wl_gyes rfl e49 ?_
 exact wl_andNot (by decide) e53 e55 (andNotN (setN_63 _ (by omega))) qz
 have e56:=hk.pe 13
 have e49:=hk.pe 6
 refine wl_gyes rfl e49 ?_
 refine Ne_ e56 rfl ?_
 exact wl_re (k := 57) (v := .bool true) rfl (congrArg Value.bool (decide_eq_true (by omega))) qy
 have e49:=hk.pe 6
 have e57:=hk.pe 14
 exact Pk_ e49 e57 qz
 exact dm (hk.pe 15)
 exact dn (hk.pe 16)
 exact dn (hk.pe 16)
 exact dn (hk.pe 16)
 exact dn (hk.pe 16)
 exact dn (hk.pe 20)
 exact dn (hk.pe 20)
 exact dn (hk.pe 20)
 exact dn (hk.pe 20)
 exact dn (hk.pe 20)
 exact dn (hk.pe 16)
 have e59:=hk.pe 16
 have e69:=hk.pe 26
 exact Pk_ e59 rfl qz
 intro F wD hED hini hdo
 refine wk_drop [(5, _), (6, _), (7, _), (8, _), (10, _), (11, _), (12, _), (36, _), (37, _), (38, _), (70, _)] ⟨di hini 5, di hini 6, di hini 7, di hini 8, di hini 10, di hini 11, di hini 12, di hini 36, di hini 37, di hini 38, dq hdo 27, trivial⟩ ?_
 clear hini hdo
 replace q3:=q3.ext hED
 replace hp:=hp.ext hED
 refine go ?_
 refine wc_cond_t rfl (go ?_)
 refine wl_add (by decide) rfl rfl (w64 (by omega) (by omega)) (gl ?_)
 refine wk_drop [(5, pt gB 0), (6, pt gO 0), (7, pt gf 0), (8, pt gs8 0), (10, .slice A10 (valueOf H first last).length c10), (36, .slice A0 H.length c0), (37, iv (H.length : Int)), (38, iv ((i + 1) : Int))] ⟨rfl, rfl, rfl, rfl, rfl, rfl, rfl, rfl, trivial⟩ (hKL1 _ _ (m2 := H.length - (i + 1)) ?_ ?_)
 refine ⟨(i + 1), Fz2, f2, AO2, cO2, rfl, ?_, ?_, ?_, ?_, ?_, ?_, ?_, ?_, ?_, ?_, rfl⟩
 omega
 intro j hj hja
 by_cases e : j = i
 subst e; exact absurd hja (by rw [ha]; simp)
 exact hall j (by omega) hja
 exact hT12
 exact hT2
 exact hp.tail
 exact (h.fr q3)
 exact (hf.fr q3)
 exact (hbf.fr q3)
 exact (hfr.fr q3)
 exact (hv.fr q3)
 omega
 by_cases h18 : (hop H i).wr = true
 have hval : (hop H i).wr = true ∨ (hop H i).val = valueOf H first last := .inl h18
 apply wdL [.eq _,.eq _,.eq _,.eq (iv ((bitsS p / 2 ^ i : Nat) : Int)),.eq (iv ((bitsS p / 2 ^ i &&& 1 : Nat) : Int)),.eq (.bool false),.eq (.bool false),.eq _,.eq _,.eq _,.eq _,.eq _,.eq _,.eq (iv (subN (setN (ahd H i) H.length) (bitsS p) : Int)),.eq (.bool false),.eq (.bool false),.eq (.bool false),.eq _,.eq (.bool true),.eq (.bool false),.eq (.bool false),.eq undef,.eq undef,.eq undef,.eq undef,.eq undef,.eq (.bool false),.eq (.bool false)]
 refine ⟨?_,?_,?_,?_,?_,?_,?_,?_,?_,?_,?_,?_,?_,?_,?_,?_,?_,?_,?_,?_,?_,?_,?_,?_,?_,?_,?_,?_,trivial⟩<;>intro F wF hER hk
 exact Fd_ 0 fld137_0 (hk.pi 8) rfl qz
 exact Hl_ 1 sc3 (hk.pe 0) (hp.ext hER) rfl rfl qz
 exact dm (hk.pi 11)
 have e44:=hk.pe 1
 have e45:=hk.pe 2
 exact wl_shr (by decide) e44 e45 (by omega) (shrN (bitsS p) i (by omega)) qz
 exact wl_and (by decide) (hk.pe 3) rfl (andN (y := 1) (Nat.lt_of_le_of_lt (Nat.div_le_self _ _) hb63) (by decide)) qz
 have e47:=hk.pe 4
 refine Eq_ e47 rfl ?_
 exact wl_re (k := 48) (v := .bool false) rfl (congrArg Value.bool (decide_eq_false (by rw [bit1, if_neg h5]; decide))) qy
 exact dm (hk.pe 5)
 have e5:=hk.pi 5
 have e49:=hk.pe 6
 refine wl_gyes rfl e49 ?_
 exact Hl_ 9 sc33 e5 (hp.ext hER) rfl rfl qz
 have e11:=hk.pi 11
 have e49:=hk.pe 6
 refine wl_gyes rfl e49 ?_
 exact Mv_ e11 qz
 have e50:=hk.pe 7
 have e51:=hk.pe 8
 have e49:=hk.pe 6
 refine wl_gyes rfl e49 ?_
 exact wl_idx0 (by decide) sl33 e50 e51 hAQ i rfl (by simp [befL]; omega) qz
 have e52:=hk.pe 9
 have e49:=hk.pe 6
 refine wl_gyes rfl e49 ?_
 exact Ld_ sc3 e52 ((hatQ.fr q3).ext hER).head qz
 have e8:=hk.pi 8
 have e49:=hk.pe 6
 refine wl_gyes rfl e49 ?_
 exact Fd_ 0 fld137_0 e8 rfl qz
 have e54:=hk.pe 11
 have e49:=hk.pe 6
 refine wl_gyes rfl e49 ?_
 exact Hl_ 1 sc3 e54 (hp.ext hER) rfl rfl qz
 have e53:=hk.pe 10
 have e55:=hk.pe 12
 have e49:=hk.pe 6
 refine wl_gyes rfl e49 ?_
 exact wl_andNot (by decide) e53 e55 (andNotN (setN_63 _ (by omega))) qz
 have e56:=hk.pe 13
 have e49:=hk.pe 6
 refine wl_gyes rfl e49 ?_
 refine Ne_ e56 rfl ?_
 exact wl_re (k := 57) (v := .bool false) rfl (congrArg Value.bool (decide_eq_false (by omega))) qy
 have e49:=hk.pe 6
 have e57:=hk.pe 14
 exact Pk_ e49 e57 qz
 exact dm (hk.pe 15)
 have e12:=hk.pi 12
 have e59:=hk.pe 16
 refine wl_gyes rfl e59 ?_
 exact Fd_ 0 fld120_0 e12 rfl qz
 have e60:=hk.pe 17
 have e59:=hk.pe 16
 refine wl_gyes rfl e59 ?_
 refine Hl_ 0 sc4 e60 (hp.ext hER) rfl rfl ?_
 exact wl_re (k := 61) (v := .bool true) rfl (congrArg Value.bool h18) qy
 have e61:=hk.pe 18
 have e59:=hk.pe 16
 refine wl_gyes rfl e59 ?_
 first | exact Nd_ e61 qz | exact Nn_ e61 qz
 have e62:=hk.pe 19
 have e59:=hk.pe 16
 refine wl_gyes rfl e59 ?_
 exact Mv_ e62 qz
 exact dn (hk.pe 20)
 exact dn (hk.pe 20)
 exact dn (hk.pe 20)
 exact dn (hk.pe 20)
 exact dn (hk.pe 20)
 have e63:=hk.pe 20
 have e68:=hk.pe 25
 have e59:=hk.pe 16
 refine wl_gyes rfl e59 ?_
 exact Pk_ e63 rfl qz
 have e59:=hk.pe 16
 have e69:=hk.pe 26
 exact Pk_ e59 e69 qz
 intro F wD hED hini hdo
 refine wk_drop [(5, _), (6, _), (7, _), (8, _), (10, _), (11, _), (12, _), (36, _), (37, _), (38, _), (70, _)] ⟨di hini 5, di hini 6, di hini 7, di hini 8, di hini 10, di hini 11, di hini 12, di hini 36, di hini 37, di hini 38, dq hdo 27, trivial⟩ ?_
 clear hini hdo
 replace q3:=q3.ext hED
 replace hp:=hp.ext hED
 refine go ?_
 refine wc_cond_f rfl ?_
 refine go ?_
 apply wdT 9 [.eq _,.eq _,.eq _,.eq (iv ((1 <<< i : Nat) : Int)),.eq (iv ((bitsS p ||| 1 <<< i : Nat) : Int)),.eq _,.eq _,.eq _,SP.nb _ 137 (.agg #[iv 0,iv 0] : Value).cells.toList]
 refine ⟨?_,?_,?_,?_,?_,?_,?_,?_,?_,trivial⟩<;>intro F wF hER hk
 exact Fd_ 0 fld137_0 (hk.qi 8) rfl qz
 exact Hl_ 1 sc3 (hk.qe 0) (hp.ext hER) rfl rfl qz
 exact dm (hk.qi 11)
 exact wl_shl (by decide) rfl (hk.qe 2) (by omega) (shlN (k := i) (by omega)) qz
 have e72:=hk.qe 1
 have e74:=hk.qe 3
 exact wl_or (by decide) e72 e74 (orN hb63 (shl_63 (by omega))) qz
 exact Fd_ 1 fld137_1 (hk.qi 8) rfl qz
 exact Hl_ 1 sc3 (hk.qe 5) (hp.ext hER) rfl rfl qz
 have e75:=hk.qe 4
 have e77:=hk.qe 6
 exact wl_built (ps := [(0, .tmp 75), (1, .tmp 77)]) (by decide) bld137 (by simp only [evp, ev, e75, e77]; first | done | rfl) rfl qz
 refine wl_alloc (z := .agg #[iv 0, iv 0]) (by decide) (by kernel_rfl) ?_
 rintro g7 w7 hg7 hb7 hE7
 exact qz ⟨hE7, g7, rfl, by rw [hg7]; exact hER.size, hb7⟩
 intro F wD hED hini hdo
 have e5:=di hini 5
 have e6:=di hini 6
 have e7:=di hini 7
 have e8:=di hini 8
 have e10:=di hini 10
 have e11:=di hini 11
 have e12:=di hini 12
 obtain ⟨u13, e13, h13⟩ := hdo 8 13 (Nat.lt_of_lt_of_eq (by decide) rfl) rfl
 obtain ⟨gs13, rfl, hge13, hb13⟩ := h13
 refine wl_drop [(5, _), (6, _), (7, _), (8, _), (10, _), (11, _), (12, _), (13, _), (36, _), (37, _), (38, _), (78, _)] ⟨e5, e6, e7, e8, e10, e11, e12, e13, di hini 36, di hini 37, di hini 38, dr hdo 7, trivial⟩ ?_
 clear e5 e6 e7 e8 e10 e11 e12 e13 hini hdo
 replace q3:=q3.ext hED
 replace hp:=hp.add hED (x := itB gs13 _ _) (K := fun b => b = gs13) ⟨hb13, fun _ => Iff.rfl⟩ (fun b hb => by rw [hb]; exact hge13)
 have ha : allowS H first (bitsS p) last i = true := allow_yes (by simpa using h5) ((bef_sub hl14 hb63).1 (by omega)) hval
 refine wl_hstore (i := 0) rfl rfl hp rfl sz137 leB_ (List.all_eq_true.1 rfl) ?_
 rintro w4 hp4 hC4
 replace q3:=q3.fz hC4
 replace hp:=hp4
 refine gl ?_
 refine wc_seq_cut (fun L' w' => L' = [(5, pt gB 0), (6, pt gO 0), (7, pt gf 0), (8, pt gs8 0), (10, .slice A10 (valueOf H first last).length c10), (36, .slice A0 H.length c0), (37, iv (H.length : Int)), (38, iv (i : Int)), (11, iv (i : Int)), (13, pt gs13 0)] ∧ (HP w0 M0 Fz2 w' (itB gs13 137 [iv ((bitsS p ||| 1 <<< i : Nat) : Int), iv (nextL H last i)] :: itB gs12 120 [.bool (hop H i).wr, .slice BK (hop H i).val.length dK, iv (hop H i).b, iv (hop H i).e] :: itB gs8 137 [iv (bitsS p : Int), iv last] :: itB gO 33 [.slice AO2 p.length cO2] :: itR 3 1 AO2 p.length cO2 ((nats p).map fun z : Int => Value.int .i64 z) :: itM prog 137 m f2 :: itB gE 3 [iv (endN H : Int)] :: itB gT 134 [.map (some m)] :: itB gF 40 [.slice A1 first.length c1] :: itB gL 107 [.slice A0 H.length c0] :: itB gB 33 [.slice AB (befL H).length cB] :: itB gf 135 [capV gE gT gF gL gB gO gf] :: FR)) ∧ (HS Fz2 w' A0 c0 H) ∧ (BS Fz2 w' A1 c1 first) ∧ (IS Fz2 w' AB cB (befL H)) ∧ (Frz Fz Fz2 w w') ∧ (BS Fz2 w' A10 c10 (valueOf H first last))) (fun K hK => ?_) ?_
 refine go ?_
 refine Fd_ 0 fld120_0 rfl rfl ?_
 refine Hl_ 1 sc4 rfl hp rfl rfl (go ?_)
 refine Cd (fun hwr => ?_) fun hwr => ?_
 have hnx : nextL H last i = (i : Int) := by rw [nextL, if_pos hwr]
 refine go ?_
 refine Fd_ 1 fld137_1 rfl rfl ?_
 refine wl_hstore (i := 0) rfl rfl hp rfl sz3 leB_ (List.all_eq_true.1 rfl) ?_
 rintro w5 hp5 hC5
 replace q3:=q3.fz hC5
 replace hp:=hp5
 refine gl ?_
 refine wk_drop [(5, pt gB 0), (6, pt gO 0), (7, pt gf 0), (8, pt gs8 0), (10, .slice A10 (valueOf H first last).length c10), (36, .slice A0 H.length c0), (37, iv (H.length : Int)), (38, iv (i : Int)), (11, iv (i : Int)), (13, pt gs13 0)] ⟨rfl, rfl, rfl, rfl, rfl, rfl, rfl, rfl, rfl, rfl, trivial⟩ (hK _ _ ?_)
 refine ⟨rfl, ?_, ?_, ?_, ?_, ?_, ?_⟩
 rw [hnx]; exact hp
 exact (h.fr q3)
 exact (hf.fr q3)
 exact (hbf.fr q3)
 exact (hfr.fr q3)
 exact (hv.fr q3)
 have hnx : nextL H last i = last := by rw [nextL, if_neg (by rw [hwr]; simp)]
 refine gl ?_
 refine wk_drop [(5, pt gB 0), (6, pt gO 0), (7, pt gf 0), (8, pt gs8 0), (10, .slice A10 (valueOf H first last).length c10), (36, .slice A0 H.length c0), (37, iv (H.length : Int)), (38, iv (i : Int)), (11, iv (i : Int)), (13, pt gs13 0)] ⟨rfl, rfl, rfl, rfl, rfl, rfl, rfl, rfl, rfl, rfl, trivial⟩ (hK _ _ ?_)
 refine ⟨rfl, ?_, ?_, ?_, ?_, ?_, ?_⟩
 rw [hnx]; exact hp
 exact (h.fr q3)
 exact (hf.fr q3)
 exact (hbf.fr q3)
 exact (hfr.fr q3)
 exact (hv.fr q3)
 rintro _ wn ⟨rfl, hp, h, hf, hbf, hfr, hv⟩
 refine go ?_
 have hpl:=hP.len
 refine go ?_
 refine Hl_ 3 sc33 rfl hp rfl rfl (go ?_)
 refine wl_bsliceE (enc := fun z : Int => iv z) (xs := [.tmp 84]) (bs := [(i : Int)]) (fun _ => rfl) (by decide) sl33 rfl rfl rfl (by simp) _ (Nat.le_refl _) ?_
 rintro gt wt hgt hot hEt
 have q4:=hEt
 replace hp:=hp.ext hEt
 refine wl_happend (i := 4) (m := 1) (news := [iv (i : Int)]) (by decide) sl33 rfl rfl hp rfl rfl (fun b hb => by cases hb; exact hot.at0) (by simp) (by simp [Value.oneCell']) (by omega) ?_
 rintro A4 c4 w4 hp4 hC4
 have q5:=h.tk.ext q4
 replace q5:=q5.fz hC4
 replace hp:=hp4
 refine wl_hstore (i := 3) rfl rfl hp rfl sz33 leB_ (List.all_eq_true.1 rfl) ?_
 rintro w6 hp6 hC6
 replace q5:=q5.fz hC6
 replace hp:=hp6
 refine go ?_
 refine Hl_ 11 sc135 rfl hp rfl rfl ?_
 refine wl_hloadA (i := 0) (by decide) ag137 rfl hp rfl rfl ?_
 obtain ⟨hP2, hb2⟩ := bitsS_snoc hP (show i < H.length by omega) (allowS_tb H first ha)
 have hcn:=cntN_or (bitsS p) i (allowS_tb H first ha) H.length
 rw [if_pos (show i < H.length by omega), ← hb2] at hcn
 have hgt : bitsS p < bitsS (p ++ [i]) := by
   rw [hb2, ← add_or (allowS_tb H first ha), Nat.shiftLeft_eq, Nat.one_mul]
   have := Nat.two_pow_pos i
   omega
 have hL2 : LastK H (nextL H last i) := by
   unfold nextL LastK at *
   split <;> omega
 have e6 : (nats (p ++ [i])).map (fun z : Int => Value.int .i64 z) = (nats p).map (fun z : Int => Value.int .i64 z) ++ [iv (i : Int)] := by rw [nats_append, List.map_append]; rfl
 have e7 : (p ++ [i]).length = p.length + 1 := by simp
 have hpc:=HP.comm [_, _, _] [_, _, _, _, _, _, _, _, _] FR hp
 have hcl:=ih (cntN H.length (bitsS (p ++ [i]))) (by omega) w0 _ M0 Fz2 _ f2 (p ++ [i]) (nextL H last i) A0 A1 AB A4 c0 c1 cB c4 gE gT gF gL gB gO gf m (by rw [e6, e7]; exact hpc) (h.fr q5) (hf.fr q5) (hbf.fr q5) hP2 hL2 hT12 (fun t ht => (hT2 t ht).elim (fun h1 => (hT t h1).elim .inl (fun h2 => .inr (by omega))) (fun h1 => h1.elim (fun h2 => .inr (by rw [h2]; exact hgt)) .inl)) (Nat.le_refl _)
 rw [hb2] at hcl
 refine wl_callv (f := 93) (first := []) (by decide) cl93 rfl rfl hcl ?_
 clear hcl
 rintro _ we ⟨b, f5, AO5, cO5, Fz5, r5, rfl, hp5, hs5, hC5, hT15, hG5⟩
 rw [hb2] at hG5
 replace h:=((h.fr q5).fz hC5).wid hs5
 replace hf:=((hf.fr q5).fz hC5).wid hs5
 replace hbf:=((hbf.fr q5).fz hC5).wid hs5
 replace hfr:=((hfr.fr q5).fz hC5).wid hs5
 replace hv:=((hv.fr q5).fz hC5).wid hs5
 replace hp:=(HP.comm [_, _, _, _, _, _, _, _, _] [_, _, _] FR hp5)
 refine go ?_
 refine Cd (fun hb => ?_) fun hb => ?_
 obtain ⟨q, hr⟩ : ∃ q, G H first (bitsS p ||| 1 <<< i) (nextL H last i) = some q := by
   cases hg : G H first (bitsS p ||| 1 <<< i) (nextL H last i) with
   | none => rw [hg] at hG5; exact absurd hG5.1 (by rw [hb]; simp)
   | some q => exact ⟨q, rfl⟩
 rw [hr] at hG5
 refine go ?_
 refine P1 results93 ?_
 exact ⟨_, rfl, true, f5, AO5, cO5, Fz5, r5, rfl, hp.tail.tail.tail, hfr.sub, hfr.chg, hT15, by rw [G_some H first hw (by omega) ha hr (fun j hj => hall j (by omega))]; exact ⟨rfl, by rw [hG5.2]; simp⟩⟩
 have hGn : G H first (bitsS p ||| 1 <<< i) (nextL H last i) = none := by
   cases hg : G H first (bitsS p ||| 1 <<< i) (nextL H last i) with
   | none => rfl
   | some q => rw [hg] at hG5; exact absurd hG5.1 (by rw [hb]; simp)
 rw [hGn] at hG5
 obtain ⟨_, hr5, hT5⟩ := hG5
 subst hr5
 refine go ?_
 refine Hl_ 3 sc33 rfl hp rfl rfl ?_
 refine Hl_ 3 sc33 rfl hp rfl rfl ?_
 refine Ln_ underlying33 rfl ?_
 refine wl_sub (by decide) rfl rfl (w64 (by omega) (by omega)) ?_
 refine wl_upto (by decide) sl33 rfl rfl p.length (by rw [e7]; omega) (by have := (hp.rowAt (i := 4) rfl).le; omega) ?_
 refine wl_hstore (i := 3) rfl rfl hp rfl sz33 leB_ (List.all_eq_true.1 rfl) ?_
 rintro w7 hp7 hC7
 have q6:=h.tk.fz hC7
 replace hp:=hp7
 replace hp:=hp.cutRow (i := 4) rfl p.length (by omega)
 refine go ?_
 refine wl_add (by decide) rfl rfl (w64 (by omega) (by omega)) (gl ?_)
 refine wk_drop [(5, pt gB 0), (6, pt gO 0), (7, pt gf 0), (8, pt gs8 0), (10, .slice A10 (valueOf H first last).length c10), (36, .slice A0 H.length c0), (37, iv (H.length : Int)), (38, iv ((i + 1) : Int))] ⟨rfl, rfl, rfl, rfl, rfl, rfl, rfl, rfl, trivial⟩ (hKL1 _ _ (m2 := H.length - (i + 1)) ?_ ?_)
 refine ⟨(i + 1), Fz5, f5, AO5, cO5, rfl, ?_, ?_, ?_, ?_, ?_, ?_, ?_, ?_, ?_, ?_, rfl⟩
 omega
 intro j hj hja
 by_cases e : j = i
 subst e; exact hGn
 exact hall j (by omega) hja
 exact hT15
 intro t ht
 rcases hT5 t ht with h1 | h1
 exact hT2 t h1
 exact .inr (.inr h1)
 have e8 : (((nats (p ++ [i])).map (fun z : Int => Value.int .i64 z)).take (p.length * 1)) = (nats p).map (fun z : Int => Value.int .i64 z) := by rw [e6, Nat.mul_one]; exact List.take_left' (by simp [nats])
 rw [e8] at hp
 exact hp.tail.tail
 exact (h.fr q6)
 exact (hf.fr q6)
 exact (hbf.fr q6)
 exact (hfr.fr q6)
 exact (hv.fr q6)
 omega
 replace h18:=eq_false_of_ne_true h18
 apply wdL [.eq _,.eq _,.eq _,.eq (iv ((bitsS p / 2 ^ i : Nat) : Int)),.eq (iv ((bitsS p / 2 ^ i &&& 1 : Nat) : Int)),.eq (.bool false),.eq (.bool false),.eq _,.eq _,.eq _,.eq _,.eq _,.eq _,.eq (iv (subN (setN (ahd H i) H.length) (bitsS p) : Int)),.eq (.bool false),.eq (.bool false),.eq (.bool false),.eq _,.eq (.bool false),.eq (.bool true),.eq (.bool true),.eq _,.eq _,.eq _,.eq _,.eq _,.eq _,.eq _]
 refine ⟨?_,?_,?_,?_,?_,?_,?_,?_,?_,?_,?_,?_,?_,?_,?_,?_,?_,?_,?_,?_,?_,?_,?_,?_,?_,?_,?_,?_,trivial⟩<;>intro F wF hER hk
 exact Fd_ 0 fld137_0 (hk.pi 8) rfl qz
 exact Hl_ 1 sc3 (hk.pe 0) (hp.ext hER) rfl rfl qz
 exact dm (hk.pi 11)
 have e44:=hk.pe 1
 have e45:=hk.pe 2
 exact wl_shr (by decide) e44 e45 (by omega) (shrN (bitsS p) i (by omega)) qz
 exact wl_and (by decide) (hk.pe 3) rfl (andN (y := 1) (Nat.lt_of_le_of_lt (Nat.div_le_self _ _) hb63) (by decide)) qz
 have e47:=hk.pe 4
 refine Eq_ e47 rfl ?_
 exact wl_re (k := 48) (v := .bool false) rfl (congrArg Value.bool (decide_eq_false (by rw [bit1, if_neg h5]; decide))) qy
 exact dm (hk.pe 5)
 have e5:=hk.pi 5
 have e49:=hk.pe 6
 refine wl_gyes rfl e49 ?_
 exact Hl_ 9 sc33 e5 (hp.ext hER) rfl rfl qz
 have e11:=hk.pi 11
 have e49:=hk.pe 6
 refine wl_gyes rfl e49 ?_
 exact Mv_ e11 qz
 have e50:=hk.pe 7
 have e51:=hk.pe 8
 have e49:=hk.pe 6
 refine wl_gyes rfl e49 ?_
 exact wl_idx0 (by decide) sl33 e50 e51 hAQ i rfl (by simp [befL]; omega) qz
 have e52:=hk.pe 9
 have e49:=hk.pe 6
 refine wl_gyes rfl e49 ?_
 exact Ld_ sc3 e52 ((hatQ.fr q3).ext hER).head qz
 have e8:=hk.pi 8
 have e49:=hk.pe 6
 refine wl_gyes rfl e49 ?_
 exact Fd_ 0 fld137_0 e8 rfl qz
 have e54:=hk.pe 11
 have e49:=hk.pe 6
 refine wl_gyes rfl e49 ?_
 exact Hl_ 1 sc3 e54 (hp.ext hER) rfl rfl qz
 have e53:=hk.pe 10
 have e55:=hk.pe 12
 have e49:=hk.pe 6
 refine wl_gyes rfl e49 ?_
 exact wl_andNot (by decide) e53 e55 (andNotN (setN_63 _ (by omega))) qz
 have e56:=hk.pe 13
 have e49:=hk.pe 6
 refine wl_gyes rfl e49 ?_
 refine Ne_ e56 rfl ?_
 exact wl_re (k := 57) (v := .bool false) rfl (congrArg Value.bool (decide_eq_false (by omega))) qy
 have e49:=hk.pe 6
 have e57:=hk.pe 14
 exact Pk_ e49 e57 qz
 exact dm (hk.pe 15)
 have e12:=hk.pi 12
 have e59:=hk.pe 16
 refine wl_gyes rfl e59 ?_
 exact Fd_ 0 fld120_0 e12 rfl qz
 have e60:=hk.pe 17
 have e59:=hk.pe 16
 refine wl_gyes rfl e59 ?_
 refine Hl_ 0 sc4 e60 (hp.ext hER) rfl rfl ?_
 exact wl_re (k := 61) (v := .bool false) rfl (congrArg Value.bool h18) qy
 have e61:=hk.pe 18
 have e59:=hk.pe 16
 refine wl_gyes rfl e59 ?_
 first | exact Nd_ e61 qz | exact Nn_ e61 qz
 have e62:=hk.pe 19
 have e59:=hk.pe 16
 refine wl_gyes rfl e59 ?_
 exact Mv_ e62 qz
 have e12:=hk.pi 12
 have e63:=hk.pe 20
 refine wl_gyes rfl e63 ?_
 exact Fd_ 1 fld120_1 e12 rfl qz
 have e64:=hk.pe 21
 have e63:=hk.pe 20
 refine wl_gyes rfl e63 ?_
 exact Hl_ 0 sc40 e64 (hp.ext hER) rfl rfl qz
 have e10:=hk.pi 10
 have e63:=hk.pe 20
 refine wl_gyes rfl e63 ?_
 exact Mv_ e10 qz
 have e65:=hk.pe 22
 have e66:=hk.pe 23
 have e63:=hk.pe 20
 refine wl_gyes rfl e63 ?_
 have hcl:=bequal_ok ((hvK.fr q3).ext hER) ((hv.fr q3).ext hER)
 refine Cl_ cl61 (by simp only [evs, ev, e65, e66]; first | done | rfl) hcl ?_
 clear hcl
 rintro _ w7 ⟨rfl, hE7⟩
 exact qz ⟨hE7, rfl⟩
 have e67:=hk.pe 24
 have e63:=hk.pe 20
 refine wl_gyes rfl e63 ?_
 first | exact Nd_ e67 qz | exact Nn_ e67 qz
 have e63:=hk.pe 20
 have e68:=hk.pe 25
 have e59:=hk.pe 16
 refine wl_gyes rfl e59 ?_
 exact Pk_ e63 e68 qz
 have e59:=hk.pe 16
 have e69:=hk.pe 26
 exact Pk_ e59 e69 qz
 intro F wD hED hini hdo
 refine wk_drop [(5, _), (6, _), (7, _), (8, _), (10, _), (11, _), (12, _), (36, _), (37, _), (38, _), (70, _)] ⟨di hini 5, di hini 6, di hini 7, di hini 8, di hini 10, di hini 11, di hini 12, di hini 36, di hini 37, di hini 38, dq hdo 27, trivial⟩ ?_
 clear hini hdo
 replace q3:=q3.ext hED
 replace hp:=hp.ext hED
 refine go ?_
 refine Cd (fun hq => ?_) fun hq => ?_
 have ha:=allow_no_val (s := bitsS p) (last := last) (f := first) h18 hq
 refine go ?_
 refine wl_add (by decide) rfl rfl (w64 (by omega) (by omega)) (gl ?_)
 refine wk_drop [(5, pt gB 0), (6, pt gO 0), (7, pt gf 0), (8, pt gs8 0), (10, .slice A10 (valueOf H first last).length c10), (36, .slice A0 H.length c0), (37, iv (H.length : Int)), (38, iv ((i + 1) : Int))] ⟨rfl, rfl, rfl, rfl, rfl, rfl, rfl, rfl, trivial⟩ (hKL1 _ _ (m2 := H.length - (i + 1)) ?_ ?_)
 refine ⟨(i + 1), Fz2, f2, AO2, cO2, rfl, ?_, ?_, ?_, ?_, ?_, ?_, ?_, ?_, ?_, ?_, rfl⟩
 omega
 intro j hj hja
 by_cases e : j = i
 subst e; exact absurd hja (by rw [ha]; simp)
 exact hall j (by omega) hja
 exact hT12
 exact hT2
 exact hp.tail
 exact (h.fr q3)
 exact (hf.fr q3)
 exact (hbf.fr q3)
 exact (hfr.fr q3)
 exact (hv.fr q3)
 omega
 have hval : (hop H i).wr = true ∨ (hop H i).val = valueOf H first last := .inr (Decidable.not_not.1 hq)
 refine go ?_
 apply wdT 9 [.eq _,.eq _,.eq _,.eq (iv ((1 <<< i : Nat) : Int)),.eq (iv ((bitsS p ||| 1 <<< i : Nat) : Int)),.eq _,.eq _,.eq _,SP.nb _ 137 (.agg #[iv 0,iv 0] : Value).cells.toList]
 refine ⟨?_,?_,?_,?_,?_,?_,?_,?_,?_,trivial⟩<;>intro F wF hER hk
 exact Fd_ 0 fld137_0 (hk.qi 8) rfl qz
 exact Hl_ 1 sc3 (hk.qe 0) (hp.ext hER) rfl rfl qz
 exact dm (hk.qi 11)
 exact wl_shl (by decide) rfl (hk.qe 2) (by omega) (shlN (k := i) (by omega)) qz
 have e72:=hk.qe 1
 have e74:=hk.qe 3
 exact wl_or (by decide) e72 e74 (orN hb63 (shl_63 (by omega))) qz
 exact Fd_ 1 fld137_1 (hk.qi 8) rfl qz
 exact Hl_ 1 sc3 (hk.qe 5) (hp.ext hER) rfl rfl qz
 have e75:=hk.qe 4
 have e77:=hk.qe 6
 exact wl_built (ps := [(0, .tmp 75), (1, .tmp 77)]) (by decide) bld137 (by simp only [evp, ev, e75, e77]; first | done | rfl) rfl qz
 refine wl_alloc (z := .agg #[iv 0, iv 0]) (by decide) (by kernel_rfl) ?_
 rintro g7 w7 hg7 hb7 hE7
 exact qz ⟨hE7, g7, rfl, by rw [hg7]; exact hER.size, hb7⟩
 intro F wD hED hini hdo
 have e5:=di hini 5
 have e6:=di hini 6
 have e7:=di hini 7
 have e8:=di hini 8
 have e10:=di hini 10
 have e11:=di hini 11
 have e12:=di hini 12
 obtain ⟨u13, e13, h13⟩ := hdo 8 13 (Nat.lt_of_lt_of_eq (by decide) rfl) rfl
 obtain ⟨gs13, rfl, hge13, hb13⟩ := h13
 refine wl_drop [(5, _), (6, _), (7, _), (8, _), (10, _), (11, _), (12, _), (13, _), (36, _), (37, _), (38, _), (78, _)] ⟨e5, e6, e7, e8, e10, e11, e12, e13, di hini 36, di hini 37, di hini 38, dr hdo 7, trivial⟩ ?_
 clear e5 e6 e7 e8 e10 e11 e12 e13 hini hdo
 replace q3:=q3.ext hED
 replace hp:=hp.add hED (x := itB gs13 _ _) (K := fun b => b = gs13) ⟨hb13, fun _ => Iff.rfl⟩ (fun b hb => by rw [hb]; exact hge13)
 have ha : allowS H first (bitsS p) last i = true := allow_yes (by simpa using h5) ((bef_sub hl14 hb63).1 (by omega)) hval
 refine wl_hstore (i := 0) rfl rfl hp rfl sz137 leB_ (List.all_eq_true.1 rfl) ?_
 rintro w8 hp8 hC8
 replace q3:=q3.fz hC8
 replace hp:=hp8
 refine gl ?_
 refine wc_seq_cut (fun L' w' => L' = [(5, pt gB 0), (6, pt gO 0), (7, pt gf 0), (8, pt gs8 0), (10, .slice A10 (valueOf H first last).length c10), (36, .slice A0 H.length c0), (37, iv (H.length : Int)), (38, iv (i : Int)), (11, iv (i : Int)), (13, pt gs13 0)] ∧ (HP w0 M0 Fz2 w' (itB gs13 137 [iv ((bitsS p ||| 1 <<< i : Nat) : Int), iv (nextL H last i)] :: itB gs12 120 [.bool (hop H i).wr, .slice BK (hop H i).val.length dK, iv (hop H i).b, iv (hop H i).e] :: itB gs8 137 [iv (bitsS p : Int), iv last] :: itB gO 33 [.slice AO2 p.length cO2] :: itR 3 1 AO2 p.length cO2 ((nats p).map fun z : Int => Value.int .i64 z) :: itM prog 137 m f2 :: itB gE 3 [iv (endN H : Int)] :: itB gT 134 [.map (some m)] :: itB gF 40 [.slice A1 first.length c1] :: itB gL 107 [.slice A0 H.length c0] :: itB gB 33 [.slice AB (befL H).length cB] :: itB gf 135 [capV gE gT gF gL gB gO gf] :: FR)) ∧ (HS Fz2 w' A0 c0 H) ∧ (BS Fz2 w' A1 c1 first) ∧ (IS Fz2 w' AB cB (befL H)) ∧ (Frz Fz Fz2 w w') ∧ (BS Fz2 w' A10 c10 (valueOf H first last))) (fun K hK => ?_) ?_
 refine go ?_
 refine Fd_ 0 fld120_0 rfl rfl ?_
 refine Hl_ 1 sc4 rfl hp rfl rfl (go ?_)
 refine Cd (fun hwr => ?_) fun hwr => ?_
 have hnx : nextL H last i = (i : Int) := by rw [nextL, if_pos hwr]
 refine go ?_
 refine Fd_ 1 fld137_1 rfl rfl ?_
 refine wl_hstore (i := 0) rfl rfl hp rfl sz3 leB_ (List.all_eq_true.1 rfl) ?_
 rintro w9 hp9 hC9
 replace q3:=q3.fz hC9
 replace hp:=hp9
 refine gl ?_
 refine wk_drop [(5, pt gB 0), (6, pt gO 0), (7, pt gf 0), (8, pt gs8 0), (10, .slice A10 (valueOf H first last).length c10), (36, .slice A0 H.length c0), (37, iv (H.length : Int)), (38, iv (i : Int)), (11, iv (i : Int)), (13, pt gs13 0)] ⟨rfl, rfl, rfl, rfl, rfl, rfl, rfl, rfl, rfl, rfl, trivial⟩ (hK _ _ ?_)
 refine ⟨rfl, ?_, ?_, ?_, ?_, ?_, ?_⟩
 rw [hnx]; exact hp
 exact (h.fr q3)
 exact (hf.fr q3)
 exact (hbf.fr q3)
 exact (hfr.fr q3)
 exact (hv.fr q3)
 have hnx : nextL H last i = last := by rw [nextL, if_neg (by rw [hwr]; simp)]
 refine gl ?_
 refine wk_drop [(5, pt gB 0), (6, pt gO 0), (7, pt gf 0), (8, pt gs8 0), (10, .slice A10 (valueOf H first last).length c10), (36, .slice A0 H.length c0), (37, iv (H.length : Int)), (38, iv (i : Int)), (11, iv (i : Int)), (13, pt gs13 0)] ⟨rfl, rfl, rfl, rfl, rfl, rfl, rfl, rfl, rfl, rfl, trivial⟩ (hK _ _ ?_)
 refine ⟨rfl, ?_, ?_, ?_, ?_, ?_, ?_⟩
 rw [hnx]; exact hp
 exact (h.fr q3)
 exact (hf.fr q3)
 exact (hbf.fr q3)
 exact (hfr.fr q3)
 exact (hv.fr q3)
 rintro _ wn ⟨rfl, hp, h, hf, hbf, hfr, hv⟩
 refine go ?_
 have hpl:=hP.len
 refine go ?_
 refine Hl_ 3 sc33 rfl hp rfl rfl (go ?_)
 refine wl_bsliceE (enc := fun z : Int => iv z) (xs := [.tmp 84]) (bs := [(i : Int)]) (fun _ => rfl) (by decide) sl33 rfl rfl rfl (by simp) _ (Nat.le_refl _) ?_
 rintro gt wt hgt hot hEt
 have q7:=hEt
 replace hp:=hp.ext hEt
 refine wl_happend (i := 4) (m := 1) (news := [iv (i : Int)]) (by decide) sl33 rfl rfl hp rfl rfl (fun b hb => by cases hb; exact hot.at0) (by simp) (by simp [Value.oneCell']) (by omega) ?_
 rintro A4 c4 w4 hp4 hC4
 have q8:=h.tk.ext q7
 replace q8:=q8.fz hC4
 replace hp:=hp4
 refine wl_hstore (i := 3) rfl rfl hp rfl sz33 leB_ (List.all_eq_true.1 rfl) ?_
 rintro w10 hp10 hC10
 replace q8:=q8.fz hC10
 replace hp:=hp10
 refine go ?_
 refine Hl_ 11 sc135 rfl hp rfl rfl ?_
 refine wl_hloadA (i := 0) (by decide) ag137 rfl hp rfl rfl ?_
 obtain ⟨hP2, hb2⟩ := bitsS_snoc hP (show i < H.length by omega) (allowS_tb H first ha)
 have hcn:=cntN_or (bitsS p) i (allowS_tb H first ha) H.length
 rw [if_pos (show i < H.length by omega), ← hb2] at hcn
 have hgt : bitsS p < bitsS (p ++ [i]) := by
   rw [hb2, ← add_or (allowS_tb H first ha), Nat.shiftLeft_eq, Nat.one_mul]
   have := Nat.two_pow_pos i
   omega
 have hL2 : LastK H (nextL H last i) := by
   unfold nextL LastK at *
   split <;> omega
 have e6 : (nats (p ++ [i])).map (fun z : Int => Value.int .i64 z) = (nats p).map (fun z : Int => Value.int .i64 z) ++ [iv (i : Int)] := by rw [nats_append, List.map_append]; rfl
 have e7 : (p ++ [i]).length = p.length + 1 := by simp
 have hpc:=HP.comm [_, _, _] [_, _, _, _, _, _, _, _, _] FR hp
 have hcl:=ih (cntN H.length (bitsS (p ++ [i]))) (by omega) w0 _ M0 Fz2 _ f2 (p ++ [i]) (nextL H last i) A0 A1 AB A4 c0 c1 cB c4 gE gT gF gL gB gO gf m (by rw [e6, e7]; exact hpc) (h.fr q8) (hf.fr q8) (hbf.fr q8) hP2 hL2 hT12 (fun t ht => (hT2 t ht).elim (fun h1 => (hT t h1).elim .inl (fun h2 => .inr (by omega))) (fun h1 => h1.elim (fun h2 => .inr (by rw [h2]; exact hgt)) .inl)) (Nat.le_refl _)
 rw [hb2] at hcl
 refine wl_callv (f := 93) (first := []) (by decide) cl93 rfl rfl hcl ?_
 clear hcl
 rintro _ we ⟨b, f5, AO5, cO5, Fz5, r5, rfl, hp5, hs5, hC5, hT15, hG5⟩
 rw [hb2] at hG5
 replace h:=((h.fr q8).fz hC5).wid hs5
 replace hf:=((hf.fr q8).fz hC5).wid hs5
 replace hbf:=((hbf.fr q8).fz hC5).wid hs5
 replace hfr:=((hfr.fr q8).fz hC5).wid hs5
 replace hv:=((hv.fr q8).fz hC5).wid hs5
 replace hp:=(HP.comm [_, _, _, _, _, _, _, _, _] [_, _, _] FR hp5)
 refine go ?_
 refine Cd (fun hb => ?_) fun hb => ?_
 obtain ⟨q, hr⟩ : ∃ q, G H first (bitsS p ||| 1 <<< i) (nextL H last i) = some q := by
   cases hg : G H first (bitsS p ||| 1 <<< i) (nextL H last i) with
   | none => rw [hg] at hG5; exact absurd hG5.1 (by rw [hb]; simp)
   | some q => exact ⟨q, rfl⟩
 rw [hr] at hG5
 refine go ?_
 refine P1 results93 ?_
 exact ⟨_, rfl, true, f5, AO5, cO5, Fz5, r5, rfl, hp.tail.tail.tail, hfr.sub, hfr.chg, hT15, by rw [G_some H first hw (by omega) ha hr (fun j hj => hall j (by omega))]; exact ⟨rfl, by rw [hG5.2]; simp⟩⟩
 have hGn : G H first (bitsS p ||| 1 <<< i) (nextL H last i) = none := by
   cases hg : G H first (bitsS p ||| 1 <<< i) (nextL H last i) with
   | none => rfl
   | some q => rw [hg] at hG5; exact absurd hG5.1 (by rw [hb]; simp)
 rw [hGn] at hG5
 obtain ⟨_, hr5, hT5⟩ := hG5
 subst hr5
 refine go ?_
 refine Hl_ 3 sc33 rfl hp rfl rfl ?_
 refine Hl_ 3 sc33 rfl hp rfl rfl ?_
 refine Ln_ underlying33 rfl ?_
 refine wl_sub (by decide) rfl rfl (w64 (by omega) (by omega)) ?_
 refine wl_upto (by decide) sl33 rfl rfl p.length (by rw [e7]; omega) (by have := (hp.rowAt (i := 4) rfl).le; omega) ?_
 refine wl_hstore (i := 3) rfl rfl hp rfl sz33 leB_ (List.all_eq_true.1 rfl) ?_
 rintro w11 hp11 hC11
 have q9:=h.tk.fz hC11
 replace hp:=hp11
 replace hp:=hp.cutRow (i := 4) rfl p.length (by omega)
 refine go ?_
 refine wl_add (by decide) rfl rfl (w64 (by omega) (by omega)) (gl ?_)
 refine wk_drop [(5, pt gB 0), (6, pt gO 0), (7, pt gf 0), (8, pt gs8 0), (10, .slice A10 (valueOf H first last).length c10), (36, .slice A0 H.length c0), (37, iv (H.length : Int)), (38, iv ((i + 1) : Int))] ⟨rfl, rfl, rfl, rfl, rfl, rfl, rfl, rfl, trivial⟩ (hKL1 _ _ (m2 := H.length - (i + 1)) ?_ ?_)
 refine ⟨(i + 1), Fz5, f5, AO5, cO5, rfl, ?_, ?_, ?_, ?_, ?_, ?_, ?_, ?_, ?_, ?_, rfl⟩
 omega
 intro j hj hja
 by_cases e : j = i
 subst e; exact hGn
 exact hall j (by omega) hja
 exact hT15
 intro t ht
 rcases hT5 t ht with h1 | h1
 exact hT2 t h1
 exact .inr (.inr h1)
 have e8 : (((nats (p ++ [i])).map (fun z : Int => Value.int .i64 z)).take (p.length * 1)) = (nats p).map (fun z : Int => Value.int .i64 z) := by rw [e6, Nat.mul_one]; exact List.take_left' (by simp [nats])
 rw [e8] at hp
 exact hp.tail.tail
 exact (h.fr q9)
 exact (hf.fr q9)
 exact (hbf.fr q9)
 exact (hfr.fr q9)
 exact (hv.fr q9)
 omega
 have hiH : i = H.length := by omega
 refine go ?_
 refine P1 results93 ?_
 have hg : G H first (bitsS p) last = none := G_none H first hw (fun j hj => hall j (by omega))
 exact ⟨_, rfl, false, f2, AO2, cO2, Fz2, p, rfl, hp.tail, hfr.sub, hfr.chg, hT12, by
   rw [hg]
   exact ⟨rfl, rfl, fun t ht => (hT2 t ht).elim .inl (fun h1 => h1.elim (fun h2 => .inr (by rw [h2]; exact hg)) .inr)⟩⟩
end Go.Proofs.Ytgheaedligkhoaa
namespace Go.Proofs.Ytgheaedligkhoaa
open Go.RowKit Go.Eng _root_.Go.Proofs.Try Go.Eng _root_.Go.Proofs.Try
set_option maxRecDepth 100000
variable {w0 w : World} {M0 Fz : Nat → Prop} {H : List It} {A : Option Addr} {c : Nat}
theorem opsS_step (l : List Evt) (i : Nat) (o : Wsh) (k : Nat) : opsS l i o (k + 1) = opsS l i o k ++ (if (l.getD k evt0).kind = 1 ∧ oursW (l.getD k evt0).wish o then [opS l i k] else []) := by
 unfold opsS
 rw [List.range_succ, List.filterMap_append]
 congr 1
 by_cases h : (l.getD k evt0).kind = 1 ∧ oursW (l.getD k evt0).wish o
 ·rw [if_pos h]; simp only [List.filterMap_cons, if_pos h, List.filterMap_nil]
 ·rw [if_neg h]; simp only [List.filterMap_cons, if_neg h, List.filterMap_nil]
def upj (v : JVal) (e : Evt) : Int → Int → Int → Int → List Job := fun g ep s n => if g = e.group ∧ ep = e.epoch ∧ s = e.seq ∧ n = e.a then v.jobs g ep s n ++ [⟨e.wish, e.ans⟩] else v.jobs g ep s n
def p5v (J : Int → Int → Int → Int → List Job) (e : Evt) (n : Int) : Bool := decide ((J e.group e.epoch e.seq e.a).length ≤ (J e.group e.epoch e.seq n).length ∧ ¬ (((J e.group e.epoch e.seq n).getD ((J e.group e.epoch e.seq e.a).length - 1) job0).wish = e.wish ∧ ((J e.group e.epoch e.seq n).getD ((J e.group e.epoch e.seq e.a).length - 1) job0).ans = e.ans))
theorem u2_sld (v : JVal) (e : Evt) : (u2 v e).sld = v.sld ∧ (u2 v e).calls = v.calls ∧ (u2 v e).bat = v.bat ∧ (u2 v e).mrk = v.mrk ∧ (u2 v e).frst = v.frst ∧ (u2 v e).time = v.time := by unfold u2; split <;> exact ⟨rfl, rfl, rfl, rfl, rfl, rfl⟩
theorem u4_oth (v : JVal) (e : Evt) : (u4 v e).sld = v.sld ∧ (u4 v e).calls = v.calls ∧ (u4 v e).jobs = v.jobs ∧ (u4 v e).down = v.down ∧ (u4 v e).frst = v.frst ∧ (u4 v e).time = v.time := by
 unfold u4
 repeat' split
 all_goals exact ⟨rfl, rfl, rfl, rfl, rfl, rfl⟩
theorem u6_oth (v : JVal) (e : Evt) : (u6 v e).jobs = v.jobs ∧ (u6 v e).calls = v.calls ∧ (u6 v e).bat = v.bat ∧ (u6 v e).mrk = v.mrk ∧ (u6 v e).down = v.down ∧ (u6 v e).frst = v.frst ∧ (u6 v e).time = v.time := by unfold u6; split <;> exact ⟨rfl, rfl, rfl, rfl, rfl, rfl, rfl⟩
theorem u7_oth (v : JVal) (e : Evt) : (u7 v e).jobs = v.jobs ∧ (u7 v e).calls = v.calls ∧ (u7 v e).bat = v.bat ∧ (u7 v e).mrk = v.mrk ∧ (u7 v e).down = v.down ∧ (u7 v e).sld = v.sld ∧ (u7 v e).time = v.time := by unfold u7; split <;> exact ⟨rfl, rfl, rfl, rfl, rfl, rfl, rfl⟩
structure VP (v : JVal) (pre : List Evt) : Prop where
 time : v.time = lastT pre
 down : ∀ a, v.down a = downB a pre
 bat : ∀ g ep s, v.bat g ep s = batS 3 g ep s pre
 mrk : ∀ g ep s, v.mrk g ep s = batS 4 g ep s pre
 jobs : ∀ g ep s n, v.jobs g ep s n = jobsS n g ep s pre
 sld : ∀ g ep, v.sld g ep = sealS g ep pre
 frst : ∀ g, v.frst g = firstS g pre
 calls : ∀ a, (calOf v a).many = (callS a pre).many ∧ (calOf v a).opn = decide (0 ≤ (callS a pre).pos ∧ (callS a pre).done = false) ∧ (0 ≤ (callS a pre).pos → (calOf v a).wish = (pre.getD (callS a pre).pos.toNat evt0).wish)
def opU (l : List Evt) (k j : Nat) : HOp :=
 match endK l k j with
 | some n => if (l.getD n evt0).ans.err = 0 then ⟨decide ((l.getD j evt0).wish.kind = 2), if (l.getD j evt0).wish.kind = 2 then (l.getD j evt0).wish.data else (l.getD n evt0).ans.data, (j : Int) + 1, (n : Int) + 1⟩ else ⟨decide ((l.getD j evt0).wish.kind = 2), (l.getD j evt0).wish.data, (j : Int) + 1, 0⟩
 | none => ⟨decide ((l.getD j evt0).wish.kind = 2), (l.getD j evt0).wish.data, (j : Int) + 1, 0⟩
def ourC (l : List Evt) (o : Wsh) (j : Nat) : Prop := (l.getD j evt0).kind = 1 ∧ oursW (l.getD j evt0).wish o
theorem rdWd {α : Type} {r : Rep α} {F G : Nat → Prop} {w : World} {cs : List Value} {x : α} (s : ∀ b, F b → G b) (h : r.rd F w cs x) : r.rd G w cs x := r.mono (fun b _ hb => s b hb) h
def EvtZ (x : Evt) : Prop := x.wish.next.length * 8 ≤ 140737488355328 ∧ x.ans.nodes.length * 8 ≤ 140737488355328
end Go.Proofs.Ytgheaedligkhoaa
