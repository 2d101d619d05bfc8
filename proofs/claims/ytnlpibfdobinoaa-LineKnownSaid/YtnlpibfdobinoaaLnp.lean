/- Lnp (printed by program: wip/gen) -/
import Derived.Test.YtnlpibfdobinoaaLno
namespace Go.Proofs.Ytnlpibfdobinoaa
open Go.RowKit Go.Eng

def keyV (t : Nat × Int) : Value := .agg #[.int .i64 (t.1 : Int), .int .i64 t.2]
/-- The function that searches, with what it holds on to. -/
def capV (gE gT gF gL gB gO gf : Nat) : Value := .func (.func 32) #[] #[.pointer (some ⟨gE, 0, none⟩), .pointer (some ⟨gT, 0, none⟩), .pointer (some ⟨gF, 0, none⟩), .pointer (some ⟨gL, 0, none⟩), .pointer (some ⟨gB, 0, none⟩), .pointer (some ⟨gO, 0, none⟩), .pointer (some ⟨gf, 0, none⟩)]
def TriedK (f : Value → Option Value) : Prop := ∀ key v, f key = some v → v = .int .i64 1
theorem tried_val {f : Value → Option Value} (h : TriedK f) (key : Value) : (f key).getD (.int .i64 0) = .int .i64 (if (f key).isSome then 1 else 0) := by
  cases hk : f key with
  | none => rfl
  | some v => rw [h key v hk]; rfl
theorem keyV_inj {a b : Nat × Int} (h : keyV a = keyV b) : a = b := by
  unfold keyV at h
  injection h with h
  have h2 := congrArg Array.toList h
  simp only [List.cons.injEq, Value.int.injEq, true_and, and_true, Int.ofNat_inj] at h2
  exact Prod.ext h2.1 h2.2
theorem befL_get {H : List HOp} {i : Nat} (hi : i < H.length) (h2 : i < (befL H).length) : (befL H)[i] = ((setN (ahd H i) H.length : Nat) : Int) := by simp [befL]
theorem allow_no_sub {H : List HOp} {first : List UInt8} {s i : Nat} {last : Int} (hl : H.length ≤ 14) (hs : s < 9223372036854775808) (h : subN (setN (ahd H i) H.length) s ≠ 0) : allowS H first s last i = false := by
  cases ha : allowS H first s last i
  · rfl
  · exfalso
    apply h
    rw [bef_sub hl hs]
    intro k hk h1 h2
    unfold allowS at ha
    simp only [Bool.and_eq_true] at ha
    have := allN_iff.1 ha.1.2 k hk
    simpa [ahd, h1, h2] using this
def PFindPost (H : List HOp) (first : List UInt8) (w0 : World) (M0 Fz : Nat → Prop) (w : World) (FR : List It) (f : Value → Option Value) (p : List Nat) (last : Int) (A0 A1 AB : Option Addr) (c0 c1 cB gE gT gF gL gB gO gf m : Nat) (v : Value) (w' : World) : Prop :=
  ∃ b f' AO' cO' Fz' r, v = .bool b ∧ HP w0 M0 Fz' w' (itB gO 33 [.slice AO' r.length cO'] :: itR 3 1 AO' r.length cO' ((nats r).map fun z : Int => Value.int .i64 z) :: itM Try.prog 62 m f' :: itB gE 3 [.int .i64 (endN H : Int)] :: itB gT 59 [.map (some m)] :: itB gF 23 [.slice A1 first.length c1] :: itB gL 22 [.slice A0 H.length c0] :: itB gB 33 [.slice AB (befL H).length cB] :: itB gf 60 [capV gE gT gF gL gB gO gf] :: FR) ∧ (∀ x, Fz x → Fz' x) ∧ Chg (fun x => ¬ Fz x) w w' ∧ TriedK f' ∧
    (match G H first (bitsS p) last with | some q => b = true ∧ r = p ++ q | none => b = false ∧ r = p ∧ ∀ t, (f' (keyV t)).isSome = true → (f (keyV t)).isSome = true ∨ G H first t.1 t.2 = none)
def PFind (H : List HOp) (first : List UInt8) (N : Nat) : Prop := ∀ (w0 w : World) (M0 Fz : Nat → Prop) (FR : List It) (f : Value → Option Value) (p : List Nat) (last : Int) (A0 A1 AB AO : Option Addr) (c0 c1 cB cO gE gT gF gL gB gO gf m : Nat),
  HP w0 M0 Fz w (itB gO 33 [.slice AO p.length cO] :: itR 3 1 AO p.length cO ((nats p).map fun z : Int => Value.int .i64 z) :: itM Try.prog 62 m f :: itB gE 3 [.int .i64 (endN H : Int)] :: itB gT 59 [.map (some m)] :: itB gF 23 [.slice A1 first.length c1] :: itB gL 22 [.slice A0 H.length c0] :: itB gB 33 [.slice AB (befL H).length cB] :: itB gf 60 [capV gE gT gF gL gB gO gf] :: FR) → HS Fz w A0 c0 H → BS Fz w A1 c1 first → IS Fz w AB cB (befL H) → POK H.length p → LastK H last → TriedK f → (∀ t, (f (keyV t)).isSome = true → G H first t.1 t.2 = none ∨ t.1 < bitsS p) → cntN H.length (bitsS p) ≤ N →
  Ret Try.prog 32 #[keyV (bitsS p, last), .pointer (some ⟨gE, 0, none⟩), .pointer (some ⟨gT, 0, none⟩), .pointer (some ⟨gF, 0, none⟩), .pointer (some ⟨gL, 0, none⟩), .pointer (some ⟨gB, 0, none⟩), .pointer (some ⟨gO, 0, none⟩), .pointer (some ⟨gf, 0, none⟩)] w (PFindPost H first w0 M0 Fz w FR f p last A0 A1 AB c0 c1 cB gE gT gF gL gB gO gf m)

set_option maxHeartbeats 2000000 in
theorem pfind_step {H : List HOp} {first : List UInt8} {N : Nat} (hl14 : H.length ≤ 14) (ih : ∀ N', N' < N → PFind H first N') {w0 w : World} {M0 Fz : Nat → Prop} {FR : List It} {f : Value → Option Value} {p : List Nat} {last : Int} {A0 A1 AB AO : Option Addr} {c0 c1 cB cO gE gT gF gL gB gO gf m : Nat} (hp : HP w0 M0 Fz w (itB gO 33 [.slice AO p.length cO] :: itR 3 1 AO p.length cO ((nats p).map fun z : Int => Value.int .i64 z) :: itM Try.prog 62 m f :: itB gE 3 [.int .i64 (endN H : Int)] :: itB gT 59 [.map (some m)] :: itB gF 23 [.slice A1 first.length c1] :: itB gL 22 [.slice A0 H.length c0] :: itB gB 33 [.slice AB (befL H).length cB] :: itB gf 60 [capV gE gT gF gL gB gO gf] :: FR)) (h : HS Fz w A0 c0 H) (hf : BS Fz w A1 c1 first) (hbf : IS Fz w AB cB (befL H)) (hP : POK H.length p) (hL : LastK H last) (hT1 : TriedK f) (hT : ∀ t, (f (keyV t)).isSome = true → G H first t.1 t.2 = none ∨ t.1 < bitsS p) (hN : cntN H.length (bitsS p) ≤ N) : Ret Try.prog 32 #[keyV (bitsS p, last), .pointer (some ⟨gE, 0, none⟩), .pointer (some ⟨gT, 0, none⟩), .pointer (some ⟨gF, 0, none⟩), .pointer (some ⟨gL, 0, none⟩), .pointer (some ⟨gB, 0, none⟩), .pointer (some ⟨gO, 0, none⟩), .pointer (some ⟨gf, 0, none⟩)] w (fun v w' => PFindPost H first w0 M0 Fz w FR f p last A0 A1 AB c0 c1 cB gE gT gF gL gB gO gf m v w') := by
  have hfr := Frz.start Fz w
  have hLL := hL.1
  have hLU := hL.2
  have hbb := bitsS_lt hP
  have hbb2 : bitsS p < 16384 := Nat.lt_of_lt_of_le hbb (Nat.le_trans (Nat.pow_le_pow_right (by omega) hl14) (by decide))
  have hb63 : bitsS p < 9223372036854775808 := by omega
  have hend : endN H < 9223372036854775808 := setN_63 _ (by omega)
  refine ret_of_wk Try.func32 rfl Try.ntmps32 (Nat.le_of_ble_eq_true rfl) ?_
  refine wc_seq ?_
  refine wc_region ?_
  refine wl_hbox (by decide) rfl hp ?_
  rintro gs8 w1 hp1 hE1
  replace h := h.ext hE1
  replace hf := hf.ext hE1
  replace hbf := hbf.ext hE1
  replace hfr := hfr.ext hE1
  replace hp := hp1
  refine wl_assign (by decide) rfl ?_
  refine wl_nil ?_
  refine wk_norm ?_
  refine wc_seq ?_
  refine wc_seq ?_
  refine wc_region ?_
  refine wl_fld' (o' := 0) (by decide) Try.fld62_0 rfl rfl ?_
  refine wl_hload (i := 0) (by decide) Try.sc3 rfl hp rfl rfl ?_
  refine wl_hload (i := 4) (by decide) Try.sc3 rfl hp rfl rfl ?_
  refine wl_and (by decide) rfl rfl (andN hb63 hend) ?_
  refine wl_hload (i := 4) (by decide) Try.sc3 rfl hp rfl rfl ?_
  refine wl_eql (by decide) rfl rfl ?_
  refine wl_nil ?_
  refine wk_norm ?_
  refine wc_cond rfl (fun hw0 => ?_) (fun hw0 => ?_)
  ·
    try replace hw0 := of_decide_eq_true hw0
    have hw : wholeS H (bitsS p) = true := and_end.1 (by have hw1 : ((bitsS p &&& endN H : Nat) : Int) = (endN H : Int) := hw0; omega)
    refine wc_seq ?_
    refine wc_region ?_
    refine wl_assign (by decide) rfl ?_
    refine wl_nil ?_
    refine wk_norm ?_
    refine wc_ret ?_
    refine wk_then_ret ?_
    refine wk_post1 (.inl rfl) Try.results32 rfl ?_
    exact ⟨_, rfl, true, f, AO, cO, Fz, p, rfl, hp.tail, fun _ h => h, hfr.chg, hT1, by rw [G_whole H first hw]; exact ⟨rfl, by simp⟩⟩
  ·
    try replace hw0 := of_decide_eq_false hw0
    have hw : wholeS H (bitsS p) = false := by
      cases hh : wholeS H (bitsS p)
      · rfl
      · exact absurd (congrArg (fun x : Nat => (x : Int)) (and_end.2 hh)) hw0
    refine wc_skip ?_
    refine wk_norm ?_
    refine wc_seq ?_
    refine wc_seq ?_
    refine wc_region ?_
    refine wl_hload (i := 5) (by decide) Try.sc59 rfl hp rfl rfl ?_
    refine wl_hloadA (i := 0) (by decide) Try.ag62 rfl hp rfl rfl ?_
    obtain ⟨lk, hlk⟩ := keyOf_of Try.key62 (cs := [.int .i64 (bitsS p : Int), .int .i64 last]) (FitK.cons (fit_int (by omega) (by omega)) (FitK.cons (fit_int (by omega) (by omega)) FitK.nil))
    refine wl_lookup (z := .int .i64 0) (key := keyV (bitsS p, last)) (by decide) (keyed_of Try.key62) Try.underlying59 (by kernel_rfl) rfl rfl hlk (hp.mapAt (i := 3) rfl) ?_
    refine wl_re (k := 22) (v := .int .i64 (if (f (keyV (bitsS p, last))).isSome then 1 else 0)) rfl (tried_val hT1 _) ?_
    refine wl_gtr (by decide) rfl rfl ?_
    refine wl_nil ?_
    refine wk_norm ?_
    refine wc_cond rfl (fun hk => ?_) (fun hk => ?_)
    ·
      try replace hk := of_decide_eq_true hk
      have hs : (f (keyV (bitsS p, last))).isSome = true := by
        cases hh : (f (keyV (bitsS p, last))).isSome with
        | true => rfl
        | false => rw [hh] at hk; simp at hk
      have hg : G H first (bitsS p) last = none := (hT _ hs).elim id (fun x => absurd x (Nat.lt_irrefl _))
      refine wc_seq ?_
      refine wc_region ?_
      refine wl_assign (by decide) rfl ?_
      refine wl_nil ?_
      refine wk_norm ?_
      refine wc_ret ?_
      refine wk_then_ret ?_
      refine wk_post1 (.inl rfl) Try.results32 rfl ?_
      exact ⟨_, rfl, false, f, AO, cO, Fz, p, rfl, hp.tail, fun _ h => h, hfr.chg, hT1, by rw [hg]; exact ⟨rfl, rfl, fun t ht => .inl ht⟩⟩
    ·
      try replace hk := of_decide_eq_false hk
      skip
      refine wc_skip ?_
      refine wk_norm ?_
      refine wc_seq ?_
      refine wc_region ?_
      refine wl_hload (i := 5) (by decide) Try.sc59 rfl hp rfl rfl ?_
      refine wl_hloadA (i := 0) (by decide) Try.ag62 rfl hp rfl rfl ?_
      refine wl_hmapUpdate (i := 3) (key := keyV (bitsS p, last)) (keyed_of Try.key62) Try.underlying59 rfl rfl rfl hlk hp rfl ?_
      rintro w5 hp5 hC5
      replace h := h.fz hC5
      replace hf := hf.fz hC5
      replace hbf := hbf.fz hC5
      replace hfr := hfr.fz hC5
      replace hp := hp5
      refine wl_nil ?_
      refine wk_norm ?_
      refine wc_seq ?_
      refine wc_region ?_
      refine wl_hload (i := 6) (by decide) Try.sc23 rfl hp rfl rfl ?_
      refine wl_assign (by decide) rfl ?_
      refine wl_nil ?_
      refine wk_norm ?_
      refine wc_seq_cut (fun L' w' => ∃ (A10 : Option Addr), ∃ (c10 : Nat), L' = [(4, .pointer (some ⟨gL, 0, none⟩)), (5, .pointer (some ⟨gB, 0, none⟩)), (6, .pointer (some ⟨gO, 0, none⟩)), (7, .pointer (some ⟨gf, 0, none⟩)), (8, .pointer (some ⟨gs8, 0, none⟩)), (10, .slice A10 (valueOf H first last).length c10)] ∧ (HP w0 M0 Fz w' (itB gs8 62 [.int .i64 (bitsS p : Int), .int .i64 last] :: itB gO 33 [.slice AO p.length cO] :: itR 3 1 AO p.length cO ((nats p).map fun z : Int => Value.int .i64 z) :: itM Try.prog 62 m (updF f (keyV (bitsS p, last)) (.int .i64 1)) :: itB gE 3 [.int .i64 (endN H : Int)] :: itB gT 59 [.map (some m)] :: itB gF 23 [.slice A1 first.length c1] :: itB gL 22 [.slice A0 H.length c0] :: itB gB 33 [.slice AB (befL H).length cB] :: itB gf 60 [capV gE gT gF gL gB gO gf] :: FR)) ∧ (HS Fz w' A0 c0 H) ∧ (BS Fz w' A1 c1 first) ∧ (IS Fz w' AB cB (befL H)) ∧ (Frz Fz Fz w w') ∧ (BS Fz w' A10 c10 (valueOf H first last))) (fun K hK => ?_) ?_
      ·
        refine wc_seq ?_
        refine wc_region ?_
        refine wl_fld' (o' := 1) (by decide) Try.fld62_1 rfl rfl ?_
        refine wl_hload (i := 0) (by decide) Try.sc3 rfl hp rfl rfl ?_
        refine wl_geq (by decide) rfl rfl ?_
        refine wl_nil ?_
        refine wk_norm ?_
        refine wc_cond rfl (fun h0 => ?_) (fun h0 => ?_)
        ·
          try replace h0 := of_decide_eq_true h0
          obtain ⟨aV, BV, dV, hAV, hatV, hvV⟩ := HS.el h last.toNat (by omega)
          have hval : valueOf H first last = (hop H last.toNat).val := by rw [valueOf, if_pos h0]
          refine wc_region ?_
          refine wl_hload (i := 7) (by decide) Try.sc22 rfl hp rfl rfl ?_
          refine wl_fld' (o' := 1) (by decide) Try.fld62_1 rfl rfl ?_
          refine wl_hload (i := 0) (by decide) Try.sc3 rfl hp rfl rfl ?_
          refine wl_idx0 (by decide) Try.sl22 rfl rfl hAV last.toNat (by omega) (by omega) ?_
          refine wl_fld (by decide) Try.fld45_1 rfl ?_
          refine wl_load (by decide) Try.sc23 rfl (hatV.get rfl) ?_
          refine wl_assign (by decide) rfl ?_
          refine wl_nil ?_
          refine wk_norm ?_
          refine wk_drop [(4, .pointer (some ⟨gL, 0, none⟩)), (5, .pointer (some ⟨gB, 0, none⟩)), (6, .pointer (some ⟨gO, 0, none⟩)), (7, .pointer (some ⟨gf, 0, none⟩)), (8, .pointer (some ⟨gs8, 0, none⟩)), (10, .slice _ (valueOf H first last).length _)] ⟨rfl, rfl, rfl, rfl, rfl, (by rw [hval]; rfl), trivial⟩ (hK _ _ ?_)
          refine ⟨_, _, rfl, ?_, ?_, ?_, ?_, ?_, ?_⟩
          · exact hp
          · exact h
          · exact hf
          · exact hbf
          · exact hfr
          · rw [hval]; first | exact hvV | exact hf
        ·
          try replace h0 := of_decide_eq_false h0
          have hval : valueOf H first last = first := by rw [valueOf, if_neg h0]
          refine wc_skip ?_
          refine wk_norm ?_
          refine wk_drop [(4, .pointer (some ⟨gL, 0, none⟩)), (5, .pointer (some ⟨gB, 0, none⟩)), (6, .pointer (some ⟨gO, 0, none⟩)), (7, .pointer (some ⟨gf, 0, none⟩)), (8, .pointer (some ⟨gs8, 0, none⟩)), (10, .slice _ (valueOf H first last).length _)] ⟨rfl, rfl, rfl, rfl, rfl, (by rw [hval]; rfl), trivial⟩ (hK _ _ ?_)
          refine ⟨_, _, rfl, ?_, ?_, ?_, ?_, ?_, ?_⟩
          · exact hp
          · exact h
          · exact hf
          · exact hbf
          · exact hfr
          · rw [hval]; first | exact hvV | exact hf
      ·
        rintro _ wc ⟨A10, c10, rfl, hp, h, hf, hbf, hfr, hv⟩
        refine wc_seq ?_
        refine wc_seq ?_
        refine wc_region ?_
        refine wl_hload (i := 7) (by decide) Try.sc22 rfl hp rfl rfl ?_
        refine wl_len (by decide) Try.underlying22 rfl ?_
        refine wl_move (by decide) rfl ?_
        refine wl_nil ?_
        refine wk_norm ?_
        refine wc_block ?_
        refine wc_loop (fun L' w' mes => ∃ (i : Nat), ∃ (Fz2 : Nat → Prop), ∃ (f2 : Value → Option Value), ∃ (AO2 : Option Addr), ∃ (cO2 : Nat), L' = [(5, .pointer (some ⟨gB, 0, none⟩)), (6, .pointer (some ⟨gO, 0, none⟩)), (7, .pointer (some ⟨gf, 0, none⟩)), (8, .pointer (some ⟨gs8, 0, none⟩)), (10, .slice A10 (valueOf H first last).length c10), (36, .slice A0 H.length c0), (37, .int .i64 (H.length : Int)), (38, .int .i64 (i : Int))] ∧ (i ≤ H.length) ∧ (∀ j, j < i → allowS H first (bitsS p) last j = true → G H first (bitsS p ||| 1 <<< j) (nextL H last j) = none) ∧ (TriedK f2) ∧ (∀ t, (f2 (keyV t)).isSome = true → (f (keyV t)).isSome = true ∨ t = (bitsS p, last) ∨ G H first t.1 t.2 = none) ∧ (HP w0 M0 Fz2 w' (itB gs8 62 [.int .i64 (bitsS p : Int), .int .i64 last] :: itB gO 33 [.slice AO2 p.length cO2] :: itR 3 1 AO2 p.length cO2 ((nats p).map fun z : Int => Value.int .i64 z) :: itM Try.prog 62 m f2 :: itB gE 3 [.int .i64 (endN H : Int)] :: itB gT 59 [.map (some m)] :: itB gF 23 [.slice A1 first.length c1] :: itB gL 22 [.slice A0 H.length c0] :: itB gB 33 [.slice AB (befL H).length cB] :: itB gf 60 [capV gE gT gF gL gB gO gf] :: FR)) ∧ (HS Fz2 w' A0 c0 H) ∧ (BS Fz2 w' A1 c1 first) ∧ (IS Fz2 w' AB cB (befL H)) ∧ (Frz Fz Fz2 w w') ∧ (BS Fz2 w' A10 c10 (valueOf H first last)) ∧ H.length - i = mes) [(5, .pointer (some ⟨gB, 0, none⟩)), (6, .pointer (some ⟨gO, 0, none⟩)), (7, .pointer (some ⟨gf, 0, none⟩)), (8, .pointer (some ⟨gs8, 0, none⟩)), (10, .slice A10 (valueOf H first last).length c10), (36, .slice A0 H.length c0), (37, .int .i64 (H.length : Int)), (38, .int .i64 (0 : Int))] (H.length - 0) (by
            refine ⟨0, Fz, (updF f (keyV (bitsS p, last)) (.int .i64 1)), AO, cO, rfl, ?_, ?_, ?_, ?_, ?_, ?_, ?_, ?_, ?_, ?_, rfl⟩
            · omega
            · intro j hj; omega
            · intro key v hk
              by_cases e : key = (keyV (bitsS p, last))
              · subst e; rw [updF_same] at hk; exact (Option.some.inj hk).symm
              · rw [updF_other f e] at hk; exact hT1 key v hk
            · intro t ht
              by_cases e : keyV t = (keyV (bitsS p, last))
              · exact .inr (.inl (keyV_inj e))
              · rw [updF_other f e] at ht; exact .inl ht
            · exact hp
            · exact h
            · exact hf
            · exact hbf
            · exact hfr
            · exact hv) ⟨rfl, rfl, rfl, rfl, rfl, rfl, rfl, rfl, trivial⟩ ?_
        rintro _ wr _ ⟨i, Fz2, f2, AO2, cO2, rfl, hi, hall, hT12, hT2, hp, h, hf, hbf, hfr, hv, rfl⟩ KL1 hKL1
        have hmx := h.mx
        refine wc_seq ?_
        refine wc_region ?_
        refine wl_lss (by decide) rfl rfl ?_
        refine wl_nil ?_
        refine wk_norm ?_
        refine wc_seq ?_
        refine wc_cond rfl (fun hlt => ?_) (fun hlt => ?_)
        ·
          try replace hlt := of_decide_eq_true hlt
          refine wc_skip ?_
          refine wk_norm ?_
          refine wc_seq ?_
          refine wc_block ?_
          refine wc_seq ?_
          refine wc_region ?_
          refine wl_move (by decide) rfl ?_
          obtain ⟨aK, BK, dK, hAK, hatK, hvK⟩ := HS.el h i (by omega)
          obtain ⟨aQ, hAQ, hatQ⟩ := GS.el1 hbf i (by simp [befL]; omega)
          rw [befL_get (by omega)] at hatQ
          refine wl_idx0 (by decide) Try.sl22 rfl rfl hAK i rfl (by omega) ?_
          refine wl_loadA (by decide) Try.ag45 rfl hatK.at_ rfl ?_
          refine wl_halloc (z := .agg #[.bool false, .slice none 0 0, .int .i64 0, .int .i64 0]) (by decide) (by kernel_rfl) hp ?_
          rintro gs12 w2 hp2 hE2
          replace h := h.ext hE2
          replace hf := hf.ext hE2
          replace hbf := hbf.ext hE2
          replace hfr := hfr.ext hE2
          replace hv := hv.ext hE2
          replace hatK := hatK.ext hE2
          replace hvK := hvK.ext hE2
          replace hatQ := hatQ.ext hE2
          replace hp := hp2
          refine wl_assign (by decide) rfl ?_
          refine wl_hstore (i := 0) rfl rfl hp rfl Try.sz45 (Nat.le_of_ble_eq_true rfl) (List.all_eq_true.1 rfl) ?_
          rintro w3 hp3 hC3
          replace h := h.fz hC3
          replace hf := hf.fz hC3
          replace hbf := hbf.fz hC3
          replace hfr := hfr.fz hC3
          replace hv := hv.fz hC3
          replace hatK := hatK.fz hC3
          replace hvK := hvK.fz hC3
          replace hatQ := hatQ.fz hC3
          replace hp := hp3
          refine wl_nil ?_
          refine wk_norm ?_
          refine wc_seq ?_
          refine wc_seq ?_
          by_cases h5 : (bitsS p).testBit i = true
          ·
            have ha := allow_no_bit (H := H) (f := first) (last := last) (s := bitsS p) (i := i) h5
            apply wc_drawL [SP.eq _, SP.eq _, SP.eq _, SP.eq (.int .i64 ((bitsS p / 2 ^ i : Nat) : Int)), SP.eq (.int .i64 ((bitsS p / 2 ^ i &&& 1 : Nat) : Int)), SP.eq (.bool true), SP.eq (.bool true), SP.eq undef, SP.eq undef, SP.eq undef, SP.eq undef, SP.eq undef, SP.eq undef, SP.eq undef, SP.eq undef, SP.eq (.bool true), SP.eq (.bool true), SP.eq undef, SP.eq undef, SP.eq undef, SP.eq undef, SP.eq undef, SP.eq undef, SP.eq undef, SP.eq undef, SP.eq undef, SP.eq undef, SP.eq (.bool true)] (by kernel_rfl) (by kernel_rfl)
            · refine ⟨?_, ?_, ?_, ?_, ?_, ?_, ?_, ?_, ?_, ?_, ?_, ?_, ?_, ?_, ?_, ?_, ?_, ?_, ?_, ?_, ?_, ?_, ?_, ?_, ?_, ?_, ?_, ?_, trivial⟩
              ·
                intro F wF hER hk
                have e8 := hk.init 8 _ rfl (by kernel_rfl)
                refine wl_fld' (o' := 0) (by decide) Try.fld62_0 e8 rfl ?_
                exact wl_nil (qr_some ⟨Chg.refl _ _, rfl⟩)
              ·
                intro F wF hER hk
                obtain ⟨u43, e43, h43⟩ := hk.pred 0 (by kernel_rfl) 43 rfl
                obtain rfl := h43
                refine wl_hload (i := 1) (by decide) Try.sc3 e43 (hp.ext hER) rfl rfl ?_
                exact wl_nil (qr_some ⟨Chg.refl _ _, rfl⟩)
              ·
                intro F wF hER hk
                have e11 := hk.init 11 _ rfl (by kernel_rfl)
                refine wl_move (by decide) e11 ?_
                exact wl_nil (qr_some ⟨Chg.refl _ _, rfl⟩)
              ·
                intro F wF hER hk
                obtain ⟨u44, e44, h44⟩ := hk.pred 1 (by kernel_rfl) 44 rfl
                obtain rfl := h44
                obtain ⟨u45, e45, h45⟩ := hk.pred 2 (by kernel_rfl) 45 rfl
                obtain rfl := h45
                refine wl_shr (by decide) e44 e45 (by omega) (shrN (bitsS p) i (by omega)) ?_
                exact wl_nil (qr_some ⟨Chg.refl _ _, rfl⟩)
              ·
                intro F wF hER hk
                obtain ⟨u46, e46, h46⟩ := hk.pred 3 (by kernel_rfl) 46 rfl
                obtain rfl := h46
                refine wl_and (by decide) e46 rfl (andN (y := 1) (Nat.lt_of_le_of_lt (Nat.div_le_self _ _) hb63) (by decide)) ?_
                exact wl_nil (qr_some ⟨Chg.refl _ _, rfl⟩)
              ·
                intro F wF hER hk
                obtain ⟨u47, e47, h47⟩ := hk.pred 4 (by kernel_rfl) 47 rfl
                obtain rfl := h47
                refine wl_eql (by decide) e47 rfl ?_
                refine wl_re (k := 48) (v := .bool true) rfl (congrArg Value.bool (decide_eq_true (by rw [bit1, if_pos h5]; rfl))) ?_
                exact wl_nil (qr_re ⟨Chg.refl _ _, rfl⟩)
              ·
                intro F wF hER hk
                obtain ⟨u48, e48, h48⟩ := hk.pred 5 (by kernel_rfl) 48 rfl
                obtain rfl := h48
                refine wl_move (by decide) e48 ?_
                exact wl_nil (qr_some ⟨Chg.refl _ _, rfl⟩)
              ·
                intro F wF hER hk
                obtain ⟨u49, e49, h49⟩ := hk.pred 6 (by kernel_rfl) 49 rfl
                obtain rfl := h49
                refine wl_gno (by decide) rfl e49 (.inl rfl) ?_
                exact wl_nil (qr_some ⟨Chg.refl _ _, rfl⟩)
              ·
                intro F wF hER hk
                obtain ⟨u49, e49, h49⟩ := hk.pred 6 (by kernel_rfl) 49 rfl
                obtain rfl := h49
                refine wl_gno (by decide) rfl e49 (.inl rfl) ?_
                exact wl_nil (qr_some ⟨Chg.refl _ _, rfl⟩)
              ·
                intro F wF hER hk
                obtain ⟨u49, e49, h49⟩ := hk.pred 6 (by kernel_rfl) 49 rfl
                obtain rfl := h49
                refine wl_gno (by decide) rfl e49 (.inl rfl) ?_
                exact wl_nil (qr_some ⟨Chg.refl _ _, rfl⟩)
              ·
                intro F wF hER hk
                obtain ⟨u49, e49, h49⟩ := hk.pred 6 (by kernel_rfl) 49 rfl
                obtain rfl := h49
                refine wl_gno (by decide) rfl e49 (.inl rfl) ?_
                exact wl_nil (qr_some ⟨Chg.refl _ _, rfl⟩)
              ·
                intro F wF hER hk
                obtain ⟨u49, e49, h49⟩ := hk.pred 6 (by kernel_rfl) 49 rfl
                obtain rfl := h49
                refine wl_gno (by decide) rfl e49 (.inl rfl) ?_
                exact wl_nil (qr_some ⟨Chg.refl _ _, rfl⟩)
              ·
                intro F wF hER hk
                obtain ⟨u49, e49, h49⟩ := hk.pred 6 (by kernel_rfl) 49 rfl
                obtain rfl := h49
                refine wl_gno (by decide) rfl e49 (.inl rfl) ?_
                exact wl_nil (qr_some ⟨Chg.refl _ _, rfl⟩)
              ·
                intro F wF hER hk
                obtain ⟨u49, e49, h49⟩ := hk.pred 6 (by kernel_rfl) 49 rfl
                obtain rfl := h49
                refine wl_gno (by decide) rfl e49 (.inl rfl) ?_
                exact wl_nil (qr_some ⟨Chg.refl _ _, rfl⟩)
              ·
                intro F wF hER hk
                obtain ⟨u49, e49, h49⟩ := hk.pred 6 (by kernel_rfl) 49 rfl
                obtain rfl := h49
                refine wl_gno (by decide) rfl e49 (.inl rfl) ?_
                exact wl_nil (qr_some ⟨Chg.refl _ _, rfl⟩)
              ·
                intro F wF hER hk
                obtain ⟨u49, e49, h49⟩ := hk.pred 6 (by kernel_rfl) 49 rfl
                obtain rfl := h49
                obtain ⟨u57, e57, h57⟩ := hk.pred 14 (by kernel_rfl) 57 rfl
                obtain rfl := h57
                refine wl_pick (by decide) e49 rfl ?_
                exact wl_nil (qr_some ⟨Chg.refl _ _, rfl⟩)
              ·
                intro F wF hER hk
                obtain ⟨u58, e58, h58⟩ := hk.pred 15 (by kernel_rfl) 58 rfl
                obtain rfl := h58
                refine wl_move (by decide) e58 ?_
                exact wl_nil (qr_some ⟨Chg.refl _ _, rfl⟩)
              ·
                intro F wF hER hk
                obtain ⟨u59, e59, h59⟩ := hk.pred 16 (by kernel_rfl) 59 rfl
                obtain rfl := h59
                refine wl_gno (by decide) rfl e59 (.inl rfl) ?_
                exact wl_nil (qr_some ⟨Chg.refl _ _, rfl⟩)
              ·
                intro F wF hER hk
                obtain ⟨u59, e59, h59⟩ := hk.pred 16 (by kernel_rfl) 59 rfl
                obtain rfl := h59
                refine wl_gno (by decide) rfl e59 (.inl rfl) ?_
                exact wl_nil (qr_some ⟨Chg.refl _ _, rfl⟩)
              ·
                intro F wF hER hk
                obtain ⟨u59, e59, h59⟩ := hk.pred 16 (by kernel_rfl) 59 rfl
                obtain rfl := h59
                refine wl_gno (by decide) rfl e59 (.inl rfl) ?_
                exact wl_nil (qr_some ⟨Chg.refl _ _, rfl⟩)
              ·
                intro F wF hER hk
                obtain ⟨u59, e59, h59⟩ := hk.pred 16 (by kernel_rfl) 59 rfl
                obtain rfl := h59
                refine wl_gno (by decide) rfl e59 (.inl rfl) ?_
                exact wl_nil (qr_some ⟨Chg.refl _ _, rfl⟩)
              ·
                intro F wF hER hk
                obtain ⟨u63, e63, h63⟩ := hk.pred 20 (by kernel_rfl) 63 rfl
                obtain rfl := h63
                refine wl_gno (by decide) rfl e63 (.inr rfl) ?_
                exact wl_nil (qr_some ⟨Chg.refl _ _, rfl⟩)
              ·
                intro F wF hER hk
                obtain ⟨u63, e63, h63⟩ := hk.pred 20 (by kernel_rfl) 63 rfl
                obtain rfl := h63
                refine wl_gno (by decide) rfl e63 (.inr rfl) ?_
                exact wl_nil (qr_some ⟨Chg.refl _ _, rfl⟩)
              ·
                intro F wF hER hk
                obtain ⟨u63, e63, h63⟩ := hk.pred 20 (by kernel_rfl) 63 rfl
                obtain rfl := h63
                refine wl_gno (by decide) rfl e63 (.inr rfl) ?_
                exact wl_nil (qr_some ⟨Chg.refl _ _, rfl⟩)
              ·
                intro F wF hER hk
                obtain ⟨u63, e63, h63⟩ := hk.pred 20 (by kernel_rfl) 63 rfl
                obtain rfl := h63
                refine wl_gno (by decide) rfl e63 (.inr rfl) ?_
                exact wl_nil (qr_some ⟨Chg.refl _ _, rfl⟩)
              ·
                intro F wF hER hk
                obtain ⟨u63, e63, h63⟩ := hk.pred 20 (by kernel_rfl) 63 rfl
                obtain rfl := h63
                refine wl_gno (by decide) rfl e63 (.inr rfl) ?_
                exact wl_nil (qr_some ⟨Chg.refl _ _, rfl⟩)
              ·
                intro F wF hER hk
                obtain ⟨u59, e59, h59⟩ := hk.pred 16 (by kernel_rfl) 59 rfl
                obtain rfl := h59
                refine wl_gno (by decide) rfl e59 (.inl rfl) ?_
                exact wl_nil (qr_some ⟨Chg.refl _ _, rfl⟩)
              ·
                intro F wF hER hk
                obtain ⟨u59, e59, h59⟩ := hk.pred 16 (by kernel_rfl) 59 rfl
                obtain rfl := h59
                obtain ⟨u69, e69, h69⟩ := hk.pred 26 (by kernel_rfl) 69 rfl
                obtain rfl := h69
                refine wl_pick (by decide) e59 rfl ?_
                exact wl_nil (qr_some ⟨Chg.refl _ _, rfl⟩)
            ·
              intro F wD hED hini hdo
              have e5 := hini 5 _ rfl (by kernel_rfl)
              have e6 := hini 6 _ rfl (by kernel_rfl)
              have e7 := hini 7 _ rfl (by kernel_rfl)
              have e8 := hini 8 _ rfl (by kernel_rfl)
              have e10 := hini 10 _ rfl (by kernel_rfl)
              have e11 := hini 11 _ rfl (by kernel_rfl)
              have e12 := hini 12 _ rfl (by kernel_rfl)
              have e36 := hini 36 _ rfl (by kernel_rfl)
              have e37 := hini 37 _ rfl (by kernel_rfl)
              have e38 := hini 38 _ rfl (by kernel_rfl)
              obtain ⟨u70, e70, h70⟩ := hdo 27 70 rfl
              obtain rfl := h70
              refine wk_drop [(5, _), (6, _), (7, _), (8, _), (10, _), (11, _), (12, _), (36, _), (37, _), (38, _), (70, _)] ⟨e5, e6, e7, e8, e10, e11, e12, e36, e37, e38, e70, trivial⟩ ?_
              clear e5 e6 e7 e8 e10 e11 e12 e36 e37 e38 e70 hini hdo
              replace h := h.ext hED
              replace hf := hf.ext hED
              replace hbf := hbf.ext hED
              replace hfr := hfr.ext hED
              replace hv := hv.ext hED
              replace hatK := hatK.ext hED
              replace hvK := hvK.ext hED
              replace hatQ := hatQ.ext hED
              replace hp := hp.ext hED
              refine wk_norm ?_
              refine wc_cond_t rfl ?_
              refine wc_exit ?_
              refine wk_then_exit ?_
              refine wk_blk_exit ?_
              refine wk_norm ?_
              refine wc_region ?_
              refine wl_add (by decide) rfl rfl (w64 (by omega) (by omega)) ?_
              refine wl_move (by decide) rfl ?_
              refine wl_nil ?_
              refine wk_norm ?_
              refine wk_drop [(5, .pointer (some ⟨gB, 0, none⟩)), (6, .pointer (some ⟨gO, 0, none⟩)), (7, .pointer (some ⟨gf, 0, none⟩)), (8, .pointer (some ⟨gs8, 0, none⟩)), (10, .slice A10 (valueOf H first last).length c10), (36, .slice A0 H.length c0), (37, .int .i64 (H.length : Int)), (38, .int .i64 ((i + 1) : Int))] ⟨rfl, rfl, rfl, rfl, rfl, rfl, rfl, rfl, trivial⟩ (hKL1 _ _ (m2 := H.length - (i + 1)) ?_ ?_)
              ·
                refine ⟨(i + 1), Fz2, f2, AO2, cO2, rfl, ?_, ?_, ?_, ?_, ?_, ?_, ?_, ?_, ?_, ?_, rfl⟩
                · omega
                · intro j hj hja
                  by_cases e : j = i
                  · subst e; exact absurd hja (by rw [ha]; simp)
                  · exact hall j (by omega) hja
                · exact hT12
                · exact hT2
                · exact hp.tail
                · exact h
                · exact hf
                · exact hbf
                · exact hfr
                · exact hv
              · omega
          ·
            by_cases h14 : subN (setN (ahd H i) H.length) (bitsS p) ≠ 0
            ·
              have ha := allow_no_sub (first := first) (last := last) hl14 hb63 h14
              apply wc_drawL [SP.eq _, SP.eq _, SP.eq _, SP.eq (.int .i64 ((bitsS p / 2 ^ i : Nat) : Int)), SP.eq (.int .i64 ((bitsS p / 2 ^ i &&& 1 : Nat) : Int)), SP.eq (.bool false), SP.eq (.bool false), SP.eq _, SP.eq _, SP.eq _, SP.eq _, SP.eq _, SP.eq _, SP.eq (.int .i64 (subN (setN (ahd H i) H.length) (bitsS p) : Int)), SP.eq (.bool true), SP.eq (.bool true), SP.eq (.bool true), SP.eq undef, SP.eq undef, SP.eq undef, SP.eq undef, SP.eq undef, SP.eq undef, SP.eq undef, SP.eq undef, SP.eq undef, SP.eq undef, SP.eq (.bool true)] (by kernel_rfl) (by kernel_rfl)
              · refine ⟨?_, ?_, ?_, ?_, ?_, ?_, ?_, ?_, ?_, ?_, ?_, ?_, ?_, ?_, ?_, ?_, ?_, ?_, ?_, ?_, ?_, ?_, ?_, ?_, ?_, ?_, ?_, ?_, trivial⟩
                ·
                  intro F wF hER hk
                  have e8 := hk.init 8 _ rfl (by kernel_rfl)
                  refine wl_fld' (o' := 0) (by decide) Try.fld62_0 e8 rfl ?_
                  exact wl_nil (qr_some ⟨Chg.refl _ _, rfl⟩)
                ·
                  intro F wF hER hk
                  obtain ⟨u43, e43, h43⟩ := hk.pred 0 (by kernel_rfl) 43 rfl
                  obtain rfl := h43
                  refine wl_hload (i := 1) (by decide) Try.sc3 e43 (hp.ext hER) rfl rfl ?_
                  exact wl_nil (qr_some ⟨Chg.refl _ _, rfl⟩)
                ·
                  intro F wF hER hk
                  have e11 := hk.init 11 _ rfl (by kernel_rfl)
                  refine wl_move (by decide) e11 ?_
                  exact wl_nil (qr_some ⟨Chg.refl _ _, rfl⟩)
                ·
                  intro F wF hER hk
                  obtain ⟨u44, e44, h44⟩ := hk.pred 1 (by kernel_rfl) 44 rfl
                  obtain rfl := h44
                  obtain ⟨u45, e45, h45⟩ := hk.pred 2 (by kernel_rfl) 45 rfl
                  obtain rfl := h45
                  refine wl_shr (by decide) e44 e45 (by omega) (shrN (bitsS p) i (by omega)) ?_
                  exact wl_nil (qr_some ⟨Chg.refl _ _, rfl⟩)
                ·
                  intro F wF hER hk
                  obtain ⟨u46, e46, h46⟩ := hk.pred 3 (by kernel_rfl) 46 rfl
                  obtain rfl := h46
                  refine wl_and (by decide) e46 rfl (andN (y := 1) (Nat.lt_of_le_of_lt (Nat.div_le_self _ _) hb63) (by decide)) ?_
                  exact wl_nil (qr_some ⟨Chg.refl _ _, rfl⟩)
                ·
                  intro F wF hER hk
                  obtain ⟨u47, e47, h47⟩ := hk.pred 4 (by kernel_rfl) 47 rfl
                  obtain rfl := h47
                  refine wl_eql (by decide) e47 rfl ?_
                  refine wl_re (k := 48) (v := .bool false) rfl (congrArg Value.bool (decide_eq_false (by rw [bit1, if_neg h5]; decide))) ?_
                  exact wl_nil (qr_re ⟨Chg.refl _ _, rfl⟩)
                ·
                  intro F wF hER hk
                  obtain ⟨u48, e48, h48⟩ := hk.pred 5 (by kernel_rfl) 48 rfl
                  obtain rfl := h48
                  refine wl_move (by decide) e48 ?_
                  exact wl_nil (qr_some ⟨Chg.refl _ _, rfl⟩)
                ·
                  intro F wF hER hk
                  have e5 := hk.init 5 _ rfl (by kernel_rfl)
                  obtain ⟨u49, e49, h49⟩ := hk.pred 6 (by kernel_rfl) 49 rfl
                  obtain rfl := h49
                  refine wl_gyes rfl e49 ?_
                  refine wl_hload (i := 9) (by decide) Try.sc33 e5 (hp.ext hER) rfl rfl ?_
                  exact wl_nil (qr_some ⟨Chg.refl _ _, rfl⟩)
                ·
                  intro F wF hER hk
                  have e11 := hk.init 11 _ rfl (by kernel_rfl)
                  obtain ⟨u49, e49, h49⟩ := hk.pred 6 (by kernel_rfl) 49 rfl
                  obtain rfl := h49
                  refine wl_gyes rfl e49 ?_
                  refine wl_move (by decide) e11 ?_
                  exact wl_nil (qr_some ⟨Chg.refl _ _, rfl⟩)
                ·
                  intro F wF hER hk
                  obtain ⟨u50, e50, h50⟩ := hk.pred 7 (by kernel_rfl) 50 rfl
                  obtain rfl := h50
                  obtain ⟨u51, e51, h51⟩ := hk.pred 8 (by kernel_rfl) 51 rfl
                  obtain rfl := h51
                  obtain ⟨u49, e49, h49⟩ := hk.pred 6 (by kernel_rfl) 49 rfl
                  obtain rfl := h49
                  refine wl_gyes rfl e49 ?_
                  refine wl_idx0 (by decide) Try.sl33 e50 e51 hAQ i rfl (by simp [befL]; omega) ?_
                  exact wl_nil (qr_some ⟨Chg.refl _ _, rfl⟩)
                ·
                  intro F wF hER hk
                  obtain ⟨u52, e52, h52⟩ := hk.pred 9 (by kernel_rfl) 52 rfl
                  obtain rfl := h52
                  obtain ⟨u49, e49, h49⟩ := hk.pred 6 (by kernel_rfl) 49 rfl
                  obtain rfl := h49
                  refine wl_gyes rfl e49 ?_
                  refine wl_load (by decide) Try.sc3 e52 (hatQ.ext hER).head ?_
                  exact wl_nil (qr_some ⟨Chg.refl _ _, rfl⟩)
                ·
                  intro F wF hER hk
                  have e8 := hk.init 8 _ rfl (by kernel_rfl)
                  obtain ⟨u49, e49, h49⟩ := hk.pred 6 (by kernel_rfl) 49 rfl
                  obtain rfl := h49
                  refine wl_gyes rfl e49 ?_
                  refine wl_fld' (o' := 0) (by decide) Try.fld62_0 e8 rfl ?_
                  exact wl_nil (qr_some ⟨Chg.refl _ _, rfl⟩)
                ·
                  intro F wF hER hk
                  obtain ⟨u54, e54, h54⟩ := hk.pred 11 (by kernel_rfl) 54 rfl
                  obtain rfl := h54
                  obtain ⟨u49, e49, h49⟩ := hk.pred 6 (by kernel_rfl) 49 rfl
                  obtain rfl := h49
                  refine wl_gyes rfl e49 ?_
                  refine wl_hload (i := 1) (by decide) Try.sc3 e54 (hp.ext hER) rfl rfl ?_
                  exact wl_nil (qr_some ⟨Chg.refl _ _, rfl⟩)
                ·
                  intro F wF hER hk
                  obtain ⟨u53, e53, h53⟩ := hk.pred 10 (by kernel_rfl) 53 rfl
                  obtain rfl := h53
                  obtain ⟨u55, e55, h55⟩ := hk.pred 12 (by kernel_rfl) 55 rfl
                  obtain rfl := h55
                  obtain ⟨u49, e49, h49⟩ := hk.pred 6 (by kernel_rfl) 49 rfl
                  obtain rfl := h49
                  refine wl_gyes rfl e49 ?_
                  refine wl_andNot (by decide) e53 e55 (andNotN (setN_63 _ (by omega))) ?_
                  exact wl_nil (qr_some ⟨Chg.refl _ _, rfl⟩)
                ·
                  intro F wF hER hk
                  obtain ⟨u56, e56, h56⟩ := hk.pred 13 (by kernel_rfl) 56 rfl
                  obtain rfl := h56
                  obtain ⟨u49, e49, h49⟩ := hk.pred 6 (by kernel_rfl) 49 rfl
                  obtain rfl := h49
                  refine wl_gyes rfl e49 ?_
                  refine wl_neq (by decide) e56 rfl ?_
                  refine wl_re (k := 57) (v := .bool true) rfl (congrArg Value.bool (decide_eq_true (by omega))) ?_
                  exact wl_nil (qr_re ⟨Chg.refl _ _, rfl⟩)
                ·
                  intro F wF hER hk
                  obtain ⟨u49, e49, h49⟩ := hk.pred 6 (by kernel_rfl) 49 rfl
                  obtain rfl := h49
                  obtain ⟨u57, e57, h57⟩ := hk.pred 14 (by kernel_rfl) 57 rfl
                  obtain rfl := h57
                  refine wl_pick (by decide) e49 e57 ?_
                  exact wl_nil (qr_some ⟨Chg.refl _ _, rfl⟩)
                ·
                  intro F wF hER hk
                  obtain ⟨u58, e58, h58⟩ := hk.pred 15 (by kernel_rfl) 58 rfl
                  obtain rfl := h58
                  refine wl_move (by decide) e58 ?_
                  exact wl_nil (qr_some ⟨Chg.refl _ _, rfl⟩)
                ·
                  intro F wF hER hk
                  obtain ⟨u59, e59, h59⟩ := hk.pred 16 (by kernel_rfl) 59 rfl
                  obtain rfl := h59
                  refine wl_gno (by decide) rfl e59 (.inl rfl) ?_
                  exact wl_nil (qr_some ⟨Chg.refl _ _, rfl⟩)
                ·
                  intro F wF hER hk
                  obtain ⟨u59, e59, h59⟩ := hk.pred 16 (by kernel_rfl) 59 rfl
                  obtain rfl := h59
                  refine wl_gno (by decide) rfl e59 (.inl rfl) ?_
                  exact wl_nil (qr_some ⟨Chg.refl _ _, rfl⟩)
                ·
                  intro F wF hER hk
                  obtain ⟨u59, e59, h59⟩ := hk.pred 16 (by kernel_rfl) 59 rfl
                  obtain rfl := h59
                  refine wl_gno (by decide) rfl e59 (.inl rfl) ?_
                  exact wl_nil (qr_some ⟨Chg.refl _ _, rfl⟩)
                ·
                  intro F wF hER hk
                  obtain ⟨u59, e59, h59⟩ := hk.pred 16 (by kernel_rfl) 59 rfl
                  obtain rfl := h59
                  refine wl_gno (by decide) rfl e59 (.inl rfl) ?_
                  exact wl_nil (qr_some ⟨Chg.refl _ _, rfl⟩)
                ·
                  intro F wF hER hk
                  obtain ⟨u63, e63, h63⟩ := hk.pred 20 (by kernel_rfl) 63 rfl
                  obtain rfl := h63
                  refine wl_gno (by decide) rfl e63 (.inr rfl) ?_
                  exact wl_nil (qr_some ⟨Chg.refl _ _, rfl⟩)
                ·
                  intro F wF hER hk
                  obtain ⟨u63, e63, h63⟩ := hk.pred 20 (by kernel_rfl) 63 rfl
                  obtain rfl := h63
                  refine wl_gno (by decide) rfl e63 (.inr rfl) ?_
                  exact wl_nil (qr_some ⟨Chg.refl _ _, rfl⟩)
                ·
                  intro F wF hER hk
                  obtain ⟨u63, e63, h63⟩ := hk.pred 20 (by kernel_rfl) 63 rfl
                  obtain rfl := h63
                  refine wl_gno (by decide) rfl e63 (.inr rfl) ?_
                  exact wl_nil (qr_some ⟨Chg.refl _ _, rfl⟩)
                ·
                  intro F wF hER hk
                  obtain ⟨u63, e63, h63⟩ := hk.pred 20 (by kernel_rfl) 63 rfl
                  obtain rfl := h63
                  refine wl_gno (by decide) rfl e63 (.inr rfl) ?_
                  exact wl_nil (qr_some ⟨Chg.refl _ _, rfl⟩)
                ·
                  intro F wF hER hk
                  obtain ⟨u63, e63, h63⟩ := hk.pred 20 (by kernel_rfl) 63 rfl
                  obtain rfl := h63
                  refine wl_gno (by decide) rfl e63 (.inr rfl) ?_
                  exact wl_nil (qr_some ⟨Chg.refl _ _, rfl⟩)
                ·
                  intro F wF hER hk
                  obtain ⟨u59, e59, h59⟩ := hk.pred 16 (by kernel_rfl) 59 rfl
                  obtain rfl := h59
                  refine wl_gno (by decide) rfl e59 (.inl rfl) ?_
                  exact wl_nil (qr_some ⟨Chg.refl _ _, rfl⟩)
                ·
                  intro F wF hER hk
                  obtain ⟨u59, e59, h59⟩ := hk.pred 16 (by kernel_rfl) 59 rfl
                  obtain rfl := h59
                  obtain ⟨u69, e69, h69⟩ := hk.pred 26 (by kernel_rfl) 69 rfl
                  obtain rfl := h69
                  refine wl_pick (by decide) e59 rfl ?_
                  exact wl_nil (qr_some ⟨Chg.refl _ _, rfl⟩)
              ·
                intro F wD hED hini hdo
                have e5 := hini 5 _ rfl (by kernel_rfl)
                have e6 := hini 6 _ rfl (by kernel_rfl)
                have e7 := hini 7 _ rfl (by kernel_rfl)
                have e8 := hini 8 _ rfl (by kernel_rfl)
                have e10 := hini 10 _ rfl (by kernel_rfl)
                have e11 := hini 11 _ rfl (by kernel_rfl)
                have e12 := hini 12 _ rfl (by kernel_rfl)
                have e36 := hini 36 _ rfl (by kernel_rfl)
                have e37 := hini 37 _ rfl (by kernel_rfl)
                have e38 := hini 38 _ rfl (by kernel_rfl)
                obtain ⟨u70, e70, h70⟩ := hdo 27 70 rfl
                obtain rfl := h70
                refine wk_drop [(5, _), (6, _), (7, _), (8, _), (10, _), (11, _), (12, _), (36, _), (37, _), (38, _), (70, _)] ⟨e5, e6, e7, e8, e10, e11, e12, e36, e37, e38, e70, trivial⟩ ?_
                clear e5 e6 e7 e8 e10 e11 e12 e36 e37 e38 e70 hini hdo
                replace h := h.ext hED
                replace hf := hf.ext hED
                replace hbf := hbf.ext hED
                replace hfr := hfr.ext hED
                replace hv := hv.ext hED
                replace hatK := hatK.ext hED
                replace hvK := hvK.ext hED
                replace hatQ := hatQ.ext hED
                replace hp := hp.ext hED
                refine wk_norm ?_
                refine wc_cond_t rfl ?_
                refine wc_exit ?_
                refine wk_then_exit ?_
                refine wk_blk_exit ?_
                refine wk_norm ?_
                refine wc_region ?_
                refine wl_add (by decide) rfl rfl (w64 (by omega) (by omega)) ?_
                refine wl_move (by decide) rfl ?_
                refine wl_nil ?_
                refine wk_norm ?_
                refine wk_drop [(5, .pointer (some ⟨gB, 0, none⟩)), (6, .pointer (some ⟨gO, 0, none⟩)), (7, .pointer (some ⟨gf, 0, none⟩)), (8, .pointer (some ⟨gs8, 0, none⟩)), (10, .slice A10 (valueOf H first last).length c10), (36, .slice A0 H.length c0), (37, .int .i64 (H.length : Int)), (38, .int .i64 ((i + 1) : Int))] ⟨rfl, rfl, rfl, rfl, rfl, rfl, rfl, rfl, trivial⟩ (hKL1 _ _ (m2 := H.length - (i + 1)) ?_ ?_)
                ·
                  refine ⟨(i + 1), Fz2, f2, AO2, cO2, rfl, ?_, ?_, ?_, ?_, ?_, ?_, ?_, ?_, ?_, ?_, rfl⟩
                  · omega
                  · intro j hj hja
                    by_cases e : j = i
                    · subst e; exact absurd hja (by rw [ha]; simp)
                    · exact hall j (by omega) hja
                  · exact hT12
                  · exact hT2
                  · exact hp.tail
                  · exact h
                  · exact hf
                  · exact hbf
                  · exact hfr
                  · exact hv
                · omega
            ·
              by_cases h18 : (hop H i).wr = true
              ·
                have hval : (hop H i).wr = true ∨ (hop H i).val = valueOf H first last := .inl h18
                apply wc_drawL [SP.eq _, SP.eq _, SP.eq _, SP.eq (.int .i64 ((bitsS p / 2 ^ i : Nat) : Int)), SP.eq (.int .i64 ((bitsS p / 2 ^ i &&& 1 : Nat) : Int)), SP.eq (.bool false), SP.eq (.bool false), SP.eq _, SP.eq _, SP.eq _, SP.eq _, SP.eq _, SP.eq _, SP.eq (.int .i64 (subN (setN (ahd H i) H.length) (bitsS p) : Int)), SP.eq (.bool false), SP.eq (.bool false), SP.eq (.bool false), SP.eq _, SP.eq (.bool true), SP.eq (.bool false), SP.eq (.bool false), SP.eq undef, SP.eq undef, SP.eq undef, SP.eq undef, SP.eq undef, SP.eq (.bool false), SP.eq (.bool false)] (by kernel_rfl) (by kernel_rfl)
                · refine ⟨?_, ?_, ?_, ?_, ?_, ?_, ?_, ?_, ?_, ?_, ?_, ?_, ?_, ?_, ?_, ?_, ?_, ?_, ?_, ?_, ?_, ?_, ?_, ?_, ?_, ?_, ?_, ?_, trivial⟩
                  ·
                    intro F wF hER hk
                    have e8 := hk.init 8 _ rfl (by kernel_rfl)
                    refine wl_fld' (o' := 0) (by decide) Try.fld62_0 e8 rfl ?_
                    exact wl_nil (qr_some ⟨Chg.refl _ _, rfl⟩)
                  ·
                    intro F wF hER hk
                    obtain ⟨u43, e43, h43⟩ := hk.pred 0 (by kernel_rfl) 43 rfl
                    obtain rfl := h43
                    refine wl_hload (i := 1) (by decide) Try.sc3 e43 (hp.ext hER) rfl rfl ?_
                    exact wl_nil (qr_some ⟨Chg.refl _ _, rfl⟩)
                  ·
                    intro F wF hER hk
                    have e11 := hk.init 11 _ rfl (by kernel_rfl)
                    refine wl_move (by decide) e11 ?_
                    exact wl_nil (qr_some ⟨Chg.refl _ _, rfl⟩)
                  ·
                    intro F wF hER hk
                    obtain ⟨u44, e44, h44⟩ := hk.pred 1 (by kernel_rfl) 44 rfl
                    obtain rfl := h44
                    obtain ⟨u45, e45, h45⟩ := hk.pred 2 (by kernel_rfl) 45 rfl
                    obtain rfl := h45
                    refine wl_shr (by decide) e44 e45 (by omega) (shrN (bitsS p) i (by omega)) ?_
                    exact wl_nil (qr_some ⟨Chg.refl _ _, rfl⟩)
                  ·
                    intro F wF hER hk
                    obtain ⟨u46, e46, h46⟩ := hk.pred 3 (by kernel_rfl) 46 rfl
                    obtain rfl := h46
                    refine wl_and (by decide) e46 rfl (andN (y := 1) (Nat.lt_of_le_of_lt (Nat.div_le_self _ _) hb63) (by decide)) ?_
                    exact wl_nil (qr_some ⟨Chg.refl _ _, rfl⟩)
                  ·
                    intro F wF hER hk
                    obtain ⟨u47, e47, h47⟩ := hk.pred 4 (by kernel_rfl) 47 rfl
                    obtain rfl := h47
                    refine wl_eql (by decide) e47 rfl ?_
                    refine wl_re (k := 48) (v := .bool false) rfl (congrArg Value.bool (decide_eq_false (by rw [bit1, if_neg h5]; decide))) ?_
                    exact wl_nil (qr_re ⟨Chg.refl _ _, rfl⟩)
                  ·
                    intro F wF hER hk
                    obtain ⟨u48, e48, h48⟩ := hk.pred 5 (by kernel_rfl) 48 rfl
                    obtain rfl := h48
                    refine wl_move (by decide) e48 ?_
                    exact wl_nil (qr_some ⟨Chg.refl _ _, rfl⟩)
                  ·
                    intro F wF hER hk
                    have e5 := hk.init 5 _ rfl (by kernel_rfl)
                    obtain ⟨u49, e49, h49⟩ := hk.pred 6 (by kernel_rfl) 49 rfl
                    obtain rfl := h49
                    refine wl_gyes rfl e49 ?_
                    refine wl_hload (i := 9) (by decide) Try.sc33 e5 (hp.ext hER) rfl rfl ?_
                    exact wl_nil (qr_some ⟨Chg.refl _ _, rfl⟩)
                  ·
                    intro F wF hER hk
                    have e11 := hk.init 11 _ rfl (by kernel_rfl)
                    obtain ⟨u49, e49, h49⟩ := hk.pred 6 (by kernel_rfl) 49 rfl
                    obtain rfl := h49
                    refine wl_gyes rfl e49 ?_
                    refine wl_move (by decide) e11 ?_
                    exact wl_nil (qr_some ⟨Chg.refl _ _, rfl⟩)
                  ·
                    intro F wF hER hk
                    obtain ⟨u50, e50, h50⟩ := hk.pred 7 (by kernel_rfl) 50 rfl
                    obtain rfl := h50
                    obtain ⟨u51, e51, h51⟩ := hk.pred 8 (by kernel_rfl) 51 rfl
                    obtain rfl := h51
                    obtain ⟨u49, e49, h49⟩ := hk.pred 6 (by kernel_rfl) 49 rfl
                    obtain rfl := h49
                    refine wl_gyes rfl e49 ?_
                    refine wl_idx0 (by decide) Try.sl33 e50 e51 hAQ i rfl (by simp [befL]; omega) ?_
                    exact wl_nil (qr_some ⟨Chg.refl _ _, rfl⟩)
                  ·
                    intro F wF hER hk
                    obtain ⟨u52, e52, h52⟩ := hk.pred 9 (by kernel_rfl) 52 rfl
                    obtain rfl := h52
                    obtain ⟨u49, e49, h49⟩ := hk.pred 6 (by kernel_rfl) 49 rfl
                    obtain rfl := h49
                    refine wl_gyes rfl e49 ?_
                    refine wl_load (by decide) Try.sc3 e52 (hatQ.ext hER).head ?_
                    exact wl_nil (qr_some ⟨Chg.refl _ _, rfl⟩)
                  ·
                    intro F wF hER hk
                    have e8 := hk.init 8 _ rfl (by kernel_rfl)
                    obtain ⟨u49, e49, h49⟩ := hk.pred 6 (by kernel_rfl) 49 rfl
                    obtain rfl := h49
                    refine wl_gyes rfl e49 ?_
                    refine wl_fld' (o' := 0) (by decide) Try.fld62_0 e8 rfl ?_
                    exact wl_nil (qr_some ⟨Chg.refl _ _, rfl⟩)
                  ·
                    intro F wF hER hk
                    obtain ⟨u54, e54, h54⟩ := hk.pred 11 (by kernel_rfl) 54 rfl
                    obtain rfl := h54
                    obtain ⟨u49, e49, h49⟩ := hk.pred 6 (by kernel_rfl) 49 rfl
                    obtain rfl := h49
                    refine wl_gyes rfl e49 ?_
                    refine wl_hload (i := 1) (by decide) Try.sc3 e54 (hp.ext hER) rfl rfl ?_
                    exact wl_nil (qr_some ⟨Chg.refl _ _, rfl⟩)
                  ·
                    intro F wF hER hk
                    obtain ⟨u53, e53, h53⟩ := hk.pred 10 (by kernel_rfl) 53 rfl
                    obtain rfl := h53
                    obtain ⟨u55, e55, h55⟩ := hk.pred 12 (by kernel_rfl) 55 rfl
                    obtain rfl := h55
                    obtain ⟨u49, e49, h49⟩ := hk.pred 6 (by kernel_rfl) 49 rfl
                    obtain rfl := h49
                    refine wl_gyes rfl e49 ?_
                    refine wl_andNot (by decide) e53 e55 (andNotN (setN_63 _ (by omega))) ?_
                    exact wl_nil (qr_some ⟨Chg.refl _ _, rfl⟩)
                  ·
                    intro F wF hER hk
                    obtain ⟨u56, e56, h56⟩ := hk.pred 13 (by kernel_rfl) 56 rfl
                    obtain rfl := h56
                    obtain ⟨u49, e49, h49⟩ := hk.pred 6 (by kernel_rfl) 49 rfl
                    obtain rfl := h49
                    refine wl_gyes rfl e49 ?_
                    refine wl_neq (by decide) e56 rfl ?_
                    refine wl_re (k := 57) (v := .bool false) rfl (congrArg Value.bool (decide_eq_false (by omega))) ?_
                    exact wl_nil (qr_re ⟨Chg.refl _ _, rfl⟩)
                  ·
                    intro F wF hER hk
                    obtain ⟨u49, e49, h49⟩ := hk.pred 6 (by kernel_rfl) 49 rfl
                    obtain rfl := h49
                    obtain ⟨u57, e57, h57⟩ := hk.pred 14 (by kernel_rfl) 57 rfl
                    obtain rfl := h57
                    refine wl_pick (by decide) e49 e57 ?_
                    exact wl_nil (qr_some ⟨Chg.refl _ _, rfl⟩)
                  ·
                    intro F wF hER hk
                    obtain ⟨u58, e58, h58⟩ := hk.pred 15 (by kernel_rfl) 58 rfl
                    obtain rfl := h58
                    refine wl_move (by decide) e58 ?_
                    exact wl_nil (qr_some ⟨Chg.refl _ _, rfl⟩)
                  ·
                    intro F wF hER hk
                    have e12 := hk.init 12 _ rfl (by kernel_rfl)
                    obtain ⟨u59, e59, h59⟩ := hk.pred 16 (by kernel_rfl) 59 rfl
                    obtain rfl := h59
                    refine wl_gyes rfl e59 ?_
                    refine wl_fld' (o' := 0) (by decide) Try.fld45_0 e12 rfl ?_
                    exact wl_nil (qr_some ⟨Chg.refl _ _, rfl⟩)
                  ·
                    intro F wF hER hk
                    obtain ⟨u60, e60, h60⟩ := hk.pred 17 (by kernel_rfl) 60 rfl
                    obtain rfl := h60
                    obtain ⟨u59, e59, h59⟩ := hk.pred 16 (by kernel_rfl) 59 rfl
                    obtain rfl := h59
                    refine wl_gyes rfl e59 ?_
                    refine wl_hload (i := 0) (by decide) Try.sc4 e60 (hp.ext hER) rfl rfl ?_
                    refine wl_re (k := 61) (v := .bool true) rfl (congrArg Value.bool h18) ?_
                    exact wl_nil (qr_re ⟨Chg.refl _ _, rfl⟩)
                  ·
                    intro F wF hER hk
                    obtain ⟨u61, e61, h61⟩ := hk.pred 18 (by kernel_rfl) 61 rfl
                    obtain rfl := h61
                    obtain ⟨u59, e59, h59⟩ := hk.pred 16 (by kernel_rfl) 59 rfl
                    obtain rfl := h59
                    refine wl_gyes rfl e59 ?_
                    first | refine wl_notd (by decide) e61 ?_ | refine wl_not (by decide) e61 ?_
                    exact wl_nil (qr_some ⟨Chg.refl _ _, rfl⟩)
                  ·
                    intro F wF hER hk
                    obtain ⟨u62, e62, h62⟩ := hk.pred 19 (by kernel_rfl) 62 rfl
                    obtain rfl := h62
                    obtain ⟨u59, e59, h59⟩ := hk.pred 16 (by kernel_rfl) 59 rfl
                    obtain rfl := h59
                    refine wl_gyes rfl e59 ?_
                    refine wl_move (by decide) e62 ?_
                    exact wl_nil (qr_some ⟨Chg.refl _ _, rfl⟩)
                  ·
                    intro F wF hER hk
                    obtain ⟨u63, e63, h63⟩ := hk.pred 20 (by kernel_rfl) 63 rfl
                    obtain rfl := h63
                    refine wl_gno (by decide) rfl e63 (.inl rfl) ?_
                    exact wl_nil (qr_some ⟨Chg.refl _ _, rfl⟩)
                  ·
                    intro F wF hER hk
                    obtain ⟨u63, e63, h63⟩ := hk.pred 20 (by kernel_rfl) 63 rfl
                    obtain rfl := h63
                    refine wl_gno (by decide) rfl e63 (.inl rfl) ?_
                    exact wl_nil (qr_some ⟨Chg.refl _ _, rfl⟩)
                  ·
                    intro F wF hER hk
                    obtain ⟨u63, e63, h63⟩ := hk.pred 20 (by kernel_rfl) 63 rfl
                    obtain rfl := h63
                    refine wl_gno (by decide) rfl e63 (.inl rfl) ?_
                    exact wl_nil (qr_some ⟨Chg.refl _ _, rfl⟩)
                  ·
                    intro F wF hER hk
                    obtain ⟨u63, e63, h63⟩ := hk.pred 20 (by kernel_rfl) 63 rfl
                    obtain rfl := h63
                    refine wl_gno (by decide) rfl e63 (.inl rfl) ?_
                    exact wl_nil (qr_some ⟨Chg.refl _ _, rfl⟩)
                  ·
                    intro F wF hER hk
                    obtain ⟨u63, e63, h63⟩ := hk.pred 20 (by kernel_rfl) 63 rfl
                    obtain rfl := h63
                    refine wl_gno (by decide) rfl e63 (.inl rfl) ?_
                    exact wl_nil (qr_some ⟨Chg.refl _ _, rfl⟩)
                  ·
                    intro F wF hER hk
                    obtain ⟨u63, e63, h63⟩ := hk.pred 20 (by kernel_rfl) 63 rfl
                    obtain rfl := h63
                    obtain ⟨u68, e68, h68⟩ := hk.pred 25 (by kernel_rfl) 68 rfl
                    obtain rfl := h68
                    obtain ⟨u59, e59, h59⟩ := hk.pred 16 (by kernel_rfl) 59 rfl
                    obtain rfl := h59
                    refine wl_gyes rfl e59 ?_
                    refine wl_pick (by decide) e63 rfl ?_
                    exact wl_nil (qr_some ⟨Chg.refl _ _, rfl⟩)
                  ·
                    intro F wF hER hk
                    obtain ⟨u59, e59, h59⟩ := hk.pred 16 (by kernel_rfl) 59 rfl
                    obtain rfl := h59
                    obtain ⟨u69, e69, h69⟩ := hk.pred 26 (by kernel_rfl) 69 rfl
                    obtain rfl := h69
                    refine wl_pick (by decide) e59 e69 ?_
                    exact wl_nil (qr_some ⟨Chg.refl _ _, rfl⟩)
                ·
                  intro F wD hED hini hdo
                  have e5 := hini 5 _ rfl (by kernel_rfl)
                  have e6 := hini 6 _ rfl (by kernel_rfl)
                  have e7 := hini 7 _ rfl (by kernel_rfl)
                  have e8 := hini 8 _ rfl (by kernel_rfl)
                  have e10 := hini 10 _ rfl (by kernel_rfl)
                  have e11 := hini 11 _ rfl (by kernel_rfl)
                  have e12 := hini 12 _ rfl (by kernel_rfl)
                  have e36 := hini 36 _ rfl (by kernel_rfl)
                  have e37 := hini 37 _ rfl (by kernel_rfl)
                  have e38 := hini 38 _ rfl (by kernel_rfl)
                  obtain ⟨u70, e70, h70⟩ := hdo 27 70 rfl
                  obtain rfl := h70
                  refine wk_drop [(5, _), (6, _), (7, _), (8, _), (10, _), (11, _), (12, _), (36, _), (37, _), (38, _), (70, _)] ⟨e5, e6, e7, e8, e10, e11, e12, e36, e37, e38, e70, trivial⟩ ?_
                  clear e5 e6 e7 e8 e10 e11 e12 e36 e37 e38 e70 hini hdo
                  replace h := h.ext hED
                  replace hf := hf.ext hED
                  replace hbf := hbf.ext hED
                  replace hfr := hfr.ext hED
                  replace hv := hv.ext hED
                  replace hatK := hatK.ext hED
                  replace hvK := hvK.ext hED
                  replace hatQ := hatQ.ext hED
                  replace hp := hp.ext hED
                  refine wk_norm ?_
                  refine wc_cond_f rfl ?_
                  refine wc_skip ?_
                  refine wk_norm ?_
                  refine wc_seq ?_
                  apply wc_drawTL 9 [SP.eq _, SP.eq _, SP.eq _, SP.eq (.int .i64 ((1 <<< i : Nat) : Int)), SP.eq (.int .i64 ((bitsS p ||| 1 <<< i : Nat) : Int)), SP.eq _, SP.eq _, SP.eq _, SP.nb _ 62 (.agg #[.int .i64 0, .int .i64 0] : Value).cells.toList] (by kernel_rfl) (by kernel_rfl)
                  · refine ⟨?_, ?_, ?_, ?_, ?_, ?_, ?_, ?_, ?_, trivial⟩
                    ·
                      intro F wF hER hk
                      have e8 := hk.init 8 _ rfl (by kernel_rfl)
                      refine wl_fld' (o' := 0) (by decide) Try.fld62_0 e8 rfl ?_
                      exact wl_nil (qr_some ⟨Chg.refl _ _, rfl⟩)
                    ·
                      intro F wF hER hk
                      obtain ⟨u71, e71, h71⟩ := hk.pred 0 (by kernel_rfl) 71 rfl
                      obtain rfl := h71
                      refine wl_hload (i := 1) (by decide) Try.sc3 e71 (hp.ext hER) rfl rfl ?_
                      exact wl_nil (qr_some ⟨Chg.refl _ _, rfl⟩)
                    ·
                      intro F wF hER hk
                      have e11 := hk.init 11 _ rfl (by kernel_rfl)
                      refine wl_move (by decide) e11 ?_
                      exact wl_nil (qr_some ⟨Chg.refl _ _, rfl⟩)
                    ·
                      intro F wF hER hk
                      obtain ⟨u73, e73, h73⟩ := hk.pred 2 (by kernel_rfl) 73 rfl
                      obtain rfl := h73
                      refine wl_shl (by decide) rfl e73 (by omega) (shlN (k := i) (by omega)) ?_
                      exact wl_nil (qr_some ⟨Chg.refl _ _, rfl⟩)
                    ·
                      intro F wF hER hk
                      obtain ⟨u72, e72, h72⟩ := hk.pred 1 (by kernel_rfl) 72 rfl
                      obtain rfl := h72
                      obtain ⟨u74, e74, h74⟩ := hk.pred 3 (by kernel_rfl) 74 rfl
                      obtain rfl := h74
                      refine wl_or (by decide) e72 e74 (orN hb63 (shl_63 (by omega))) ?_
                      exact wl_nil (qr_some ⟨Chg.refl _ _, rfl⟩)
                    ·
                      intro F wF hER hk
                      have e8 := hk.init 8 _ rfl (by kernel_rfl)
                      refine wl_fld' (o' := 1) (by decide) Try.fld62_1 e8 rfl ?_
                      exact wl_nil (qr_some ⟨Chg.refl _ _, rfl⟩)
                    ·
                      intro F wF hER hk
                      obtain ⟨u76, e76, h76⟩ := hk.pred 5 (by kernel_rfl) 76 rfl
                      obtain rfl := h76
                      refine wl_hload (i := 1) (by decide) Try.sc3 e76 (hp.ext hER) rfl rfl ?_
                      exact wl_nil (qr_some ⟨Chg.refl _ _, rfl⟩)
                    ·
                      intro F wF hER hk
                      obtain ⟨u75, e75, h75⟩ := hk.pred 4 (by kernel_rfl) 75 rfl
                      obtain rfl := h75
                      obtain ⟨u77, e77, h77⟩ := hk.pred 6 (by kernel_rfl) 77 rfl
                      obtain rfl := h77
                      refine wl_built (ps := [(0, .tmp 75), (1, .tmp 77)]) (by decide) Try.bld62 (by simp only [evp, ev, e75, e77]; first | done | rfl) rfl ?_
                      exact wl_nil (qr_some ⟨Chg.refl _ _, rfl⟩)
                    ·
                      intro F wF hER hk
                      refine wl_alloc (z := .agg #[.int .i64 0, .int .i64 0]) (by decide) (by kernel_rfl) ?_
                      rintro g7 w7 hg7 hb7 hE7
                      exact wl_nil (qr_some ⟨hE7, g7, rfl, by rw [hg7]; exact hER.size, hb7⟩)
                  ·
                    intro F wD hED hini hdo
                    have e5 := hini 5 _ rfl (by kernel_rfl)
                    have e6 := hini 6 _ rfl (by kernel_rfl)
                    have e7 := hini 7 _ rfl (by kernel_rfl)
                    have e8 := hini 8 _ rfl (by kernel_rfl)
                    have e10 := hini 10 _ rfl (by kernel_rfl)
                    have e11 := hini 11 _ rfl (by kernel_rfl)
                    have e12 := hini 12 _ rfl (by kernel_rfl)
                    obtain ⟨u13, e13, h13⟩ := hdo 8 13 (Nat.lt_of_lt_of_eq (by decide) rfl) rfl
                    obtain ⟨gs13, rfl, hge13, hb13⟩ := h13
                    have e36 := hini 36 _ rfl (by kernel_rfl)
                    have e37 := hini 37 _ rfl (by kernel_rfl)
                    have e38 := hini 38 _ rfl (by kernel_rfl)
                    obtain ⟨u78, e78, h78⟩ := hdo 7 78 (Nat.lt_of_lt_of_eq (by decide) rfl) rfl
                    obtain rfl := h78
                    refine wl_drop [(5, _), (6, _), (7, _), (8, _), (10, _), (11, _), (12, _), (13, _), (36, _), (37, _), (38, _), (78, _)] ⟨e5, e6, e7, e8, e10, e11, e12, e13, e36, e37, e38, e78, trivial⟩ ?_
                    clear e5 e6 e7 e8 e10 e11 e12 e13 e36 e37 e38 e78 hini hdo
                    replace h := h.ext hED
                    replace hf := hf.ext hED
                    replace hbf := hbf.ext hED
                    replace hfr := hfr.ext hED
                    replace hv := hv.ext hED
                    replace hatK := hatK.ext hED
                    replace hvK := hvK.ext hED
                    replace hatQ := hatQ.ext hED
                    replace hp := hp.add hED (x := itB gs13 _ _) (K := fun b => b = gs13) ⟨hb13, fun _ => Iff.rfl⟩ (fun b hb => by rw [hb]; exact hge13)
                    have ha : allowS H first (bitsS p) last i = true := allow_yes (by simpa using h5) ((bef_sub hl14 hb63).1 (by omega)) hval
                    refine wl_hstore (i := 0) rfl rfl hp rfl Try.sz62 (Nat.le_of_ble_eq_true rfl) (List.all_eq_true.1 rfl) ?_
                    rintro w4 hp4 hC4
                    replace h := h.fz hC4
                    replace hf := hf.fz hC4
                    replace hbf := hbf.fz hC4
                    replace hfr := hfr.fz hC4
                    replace hv := hv.fz hC4
                    replace hatK := hatK.fz hC4
                    replace hvK := hvK.fz hC4
                    replace hatQ := hatQ.fz hC4
                    replace hp := hp4
                    refine wl_nil ?_
                    refine wk_norm ?_
                    refine wc_seq_cut (fun L' w' => L' = [(5, .pointer (some ⟨gB, 0, none⟩)), (6, .pointer (some ⟨gO, 0, none⟩)), (7, .pointer (some ⟨gf, 0, none⟩)), (8, .pointer (some ⟨gs8, 0, none⟩)), (10, .slice A10 (valueOf H first last).length c10), (36, .slice A0 H.length c0), (37, .int .i64 (H.length : Int)), (38, .int .i64 (i : Int)), (11, .int .i64 (i : Int)), (13, .pointer (some ⟨gs13, 0, none⟩))] ∧ (HP w0 M0 Fz2 w' (itB gs13 62 [.int .i64 ((bitsS p ||| 1 <<< i : Nat) : Int), .int .i64 (nextL H last i)] :: itB gs12 45 [.bool (hop H i).wr, .slice BK (hop H i).val.length dK, .int .i64 (hop H i).b, .int .i64 (hop H i).e] :: itB gs8 62 [.int .i64 (bitsS p : Int), .int .i64 last] :: itB gO 33 [.slice AO2 p.length cO2] :: itR 3 1 AO2 p.length cO2 ((nats p).map fun z : Int => Value.int .i64 z) :: itM Try.prog 62 m f2 :: itB gE 3 [.int .i64 (endN H : Int)] :: itB gT 59 [.map (some m)] :: itB gF 23 [.slice A1 first.length c1] :: itB gL 22 [.slice A0 H.length c0] :: itB gB 33 [.slice AB (befL H).length cB] :: itB gf 60 [capV gE gT gF gL gB gO gf] :: FR)) ∧ (HS Fz2 w' A0 c0 H) ∧ (BS Fz2 w' A1 c1 first) ∧ (IS Fz2 w' AB cB (befL H)) ∧ (Frz Fz Fz2 w w') ∧ (BS Fz2 w' A10 c10 (valueOf H first last))) (fun K hK => ?_) ?_
                    ·
                      refine wc_seq ?_
                      refine wc_region ?_
                      refine wl_fld' (o' := 0) (by decide) Try.fld45_0 rfl rfl ?_
                      refine wl_hload (i := 1) (by decide) Try.sc4 rfl hp rfl rfl ?_
                      refine wl_nil ?_
                      refine wk_norm ?_
                      refine wc_cond rfl (fun hwr => ?_) (fun hwr => ?_)
                      ·
                        try replace hwr := of_decide_eq_true hwr
                        have hnx : nextL H last i = (i : Int) := by rw [nextL, if_pos hwr]
                        refine wc_region ?_
                        refine wl_move (by decide) rfl ?_
                        refine wl_fld' (o' := 1) (by decide) Try.fld62_1 rfl rfl ?_
                        refine wl_hstore (i := 0) rfl rfl hp rfl Try.sz3 (Nat.le_of_ble_eq_true rfl) (List.all_eq_true.1 rfl) ?_
                        rintro w5 hp5 hC5
                        replace h := h.fz hC5
                        replace hf := hf.fz hC5
                        replace hbf := hbf.fz hC5
                        replace hfr := hfr.fz hC5
                        replace hv := hv.fz hC5
                        replace hatK := hatK.fz hC5
                        replace hvK := hvK.fz hC5
                        replace hatQ := hatQ.fz hC5
                        replace hp := hp5
                        refine wl_nil ?_
                        refine wk_norm ?_
                        refine wk_drop [(5, .pointer (some ⟨gB, 0, none⟩)), (6, .pointer (some ⟨gO, 0, none⟩)), (7, .pointer (some ⟨gf, 0, none⟩)), (8, .pointer (some ⟨gs8, 0, none⟩)), (10, .slice A10 (valueOf H first last).length c10), (36, .slice A0 H.length c0), (37, .int .i64 (H.length : Int)), (38, .int .i64 (i : Int)), (11, .int .i64 (i : Int)), (13, .pointer (some ⟨gs13, 0, none⟩))] ⟨rfl, rfl, rfl, rfl, rfl, rfl, rfl, rfl, rfl, rfl, trivial⟩ (hK _ _ ?_)
                        refine ⟨rfl, ?_, ?_, ?_, ?_, ?_, ?_⟩
                        · rw [hnx]; exact hp
                        · exact h
                        · exact hf
                        · exact hbf
                        · exact hfr
                        · exact hv
                      ·
                        try replace hwr := of_decide_eq_false hwr
                        have hnx : nextL H last i = last := by rw [nextL, if_neg (by rw [hwr]; simp)]
                        refine wc_skip ?_
                        refine wk_norm ?_
                        refine wk_drop [(5, .pointer (some ⟨gB, 0, none⟩)), (6, .pointer (some ⟨gO, 0, none⟩)), (7, .pointer (some ⟨gf, 0, none⟩)), (8, .pointer (some ⟨gs8, 0, none⟩)), (10, .slice A10 (valueOf H first last).length c10), (36, .slice A0 H.length c0), (37, .int .i64 (H.length : Int)), (38, .int .i64 (i : Int)), (11, .int .i64 (i : Int)), (13, .pointer (some ⟨gs13, 0, none⟩))] ⟨rfl, rfl, rfl, rfl, rfl, rfl, rfl, rfl, rfl, rfl, trivial⟩ (hK _ _ ?_)
                        refine ⟨rfl, ?_, ?_, ?_, ?_, ?_, ?_⟩
                        · rw [hnx]; exact hp
                        · exact h
                        · exact hf
                        · exact hbf
                        · exact hfr
                        · exact hv
                    ·
                      rintro _ wn ⟨rfl, hp, h, hf, hbf, hfr, hv⟩
                      refine wc_seq ?_
                      have hpl := hP.len
                      refine wc_region ?_
                      refine wl_hload (i := 3) (by decide) Try.sc33 rfl hp rfl rfl ?_
                      refine wl_move (by decide) rfl ?_
                      refine wl_bsliceE (enc := fun z : Int => .int .i64 z) (xs := [.tmp 84]) (bs := [(i : Int)]) (fun _ => rfl) (by decide) Try.sl33 rfl rfl rfl (by simp) _ (Nat.le_refl _) ?_
                      rintro gt wt hgt hot hEt
                      replace h := h.ext hEt
                      replace hf := hf.ext hEt
                      replace hbf := hbf.ext hEt
                      replace hfr := hfr.ext hEt
                      replace hv := hv.ext hEt
                      replace hp := hp.ext hEt
                      refine wl_happend (i := 4) (m := 1) (news := [.int .i64 (i : Int)]) (by decide) Try.sl33 rfl rfl hp rfl rfl (fun b hb => by cases hb; exact hot.at0) (by simp) (by simp [Value.oneCell']) (by omega) ?_
                      rintro A4 c4 w4 hp4 hC4
                      replace h := h.fz hC4
                      replace hf := hf.fz hC4
                      replace hbf := hbf.fz hC4
                      replace hfr := hfr.fz hC4
                      replace hv := hv.fz hC4
                      replace hp := hp4
                      refine wl_hstore (i := 3) rfl rfl hp rfl Try.sz33 (Nat.le_of_ble_eq_true rfl) (List.all_eq_true.1 rfl) ?_
                      rintro w6 hp6 hC6
                      replace h := h.fz hC6
                      replace hf := hf.fz hC6
                      replace hbf := hbf.fz hC6
                      replace hfr := hfr.fz hC6
                      replace hv := hv.fz hC6
                      replace hp := hp6
                      refine wl_nil ?_
                      refine wk_norm ?_
                      refine wc_seq ?_
                      refine wc_seq ?_
                      refine wc_region ?_
                      refine wl_hload (i := 11) (by decide) Try.sc60 rfl hp rfl rfl ?_
                      refine wl_hloadA (i := 0) (by decide) Try.ag62 rfl hp rfl rfl ?_
                      obtain ⟨hP2, hb2⟩ := bitsS_snoc hP (show i < H.length by omega) (allowS_tb H first ha)
                      have hcn := cntN_or (bitsS p) i (allowS_tb H first ha) H.length
                      rw [if_pos (show i < H.length by omega), ← hb2] at hcn
                      have hgt : bitsS p < bitsS (p ++ [i]) := by
                        rw [hb2, ← add_or (allowS_tb H first ha), Nat.shiftLeft_eq, Nat.one_mul]
                        have := Nat.two_pow_pos i
                        omega
                      have hL2 : LastK H (nextL H last i) := by
                        unfold nextL LastK at *
                        split <;> omega
                      have e6 : (nats (p ++ [i])).map (fun z : Int => Value.int .i64 z) = (nats p).map (fun z : Int => Value.int .i64 z) ++ [.int .i64 (i : Int)] := by rw [nats_append, List.map_append]; rfl
                      have e7 : (p ++ [i]).length = p.length + 1 := by simp
                      have hpc := HP.comm [_, _, _] [_, _, _, _, _, _, _, _, _] FR hp
                      have hcl := ih (cntN H.length (bitsS (p ++ [i]))) (by omega) w0 _ M0 Fz2 _ f2 (p ++ [i]) (nextL H last i) A0 A1 AB A4 c0 c1 cB c4 gE gT gF gL gB gO gf m (by rw [e6, e7]; exact hpc) h hf hbf hP2 hL2 hT12 (fun t ht => (hT2 t ht).elim (fun h1 => (hT t h1).elim .inl (fun h2 => .inr (by omega))) (fun h1 => h1.elim (fun h2 => .inr (by rw [h2]; exact hgt)) .inl)) (Nat.le_refl _)
                      rw [hb2] at hcl
                      refine wl_callv (f := 32) (first := []) (by decide) Try.cl32 rfl rfl hcl ?_
                      clear hcl
                      rintro _ we ⟨b, f5, AO5, cO5, Fz5, r5, rfl, hp5, hs5, hC5, hT15, hG5⟩
                      rw [hb2] at hG5
                      replace h := (h.fz hC5).wid hs5
                      replace hf := (hf.fz hC5).wid hs5
                      replace hbf := (hbf.fz hC5).wid hs5
                      replace hfr := (hfr.fz hC5).wid hs5
                      replace hv := (hv.fz hC5).wid hs5
                      replace hp := (HP.comm [_, _, _, _, _, _, _, _, _] [_, _, _] FR hp5)
                      refine wl_nil ?_
                      refine wk_norm ?_
                      refine wc_cond rfl (fun hb => ?_) (fun hb => ?_)
                      ·
                        try replace hb := of_decide_eq_true hb
                        obtain ⟨q, hr⟩ : ∃ q, G H first (bitsS p ||| 1 <<< i) (nextL H last i) = some q := by
                          cases hg : G H first (bitsS p ||| 1 <<< i) (nextL H last i) with
                          | none => rw [hg] at hG5; exact absurd hG5.1 (by rw [hb]; simp)
                          | some q => exact ⟨q, rfl⟩
                        rw [hr] at hG5
                        refine wc_seq ?_
                        refine wc_region ?_
                        refine wl_assign (by decide) rfl ?_
                        refine wl_nil ?_
                        refine wk_norm ?_
                        refine wc_ret ?_
                        refine wk_then_ret ?_
                        refine wk_blk_ret ?_
                        refine wk_then_ret ?_
                        refine wk_then_ret ?_
                        refine wk_blk_ret ?_
                        refine wk_then_ret ?_
                        refine wk_post1 (.inl rfl) Try.results32 rfl ?_
                        exact ⟨_, rfl, true, f5, AO5, cO5, Fz5, r5, rfl, hp.tail.tail.tail, hfr.sub, hfr.chg, hT15, by rw [G_some H first hw (by omega) ha hr (fun j hj => hall j (by omega))]; exact ⟨rfl, by rw [hG5.2]; simp⟩⟩
                      ·
                        try replace hb := of_decide_eq_false hb
                        have hGn : G H first (bitsS p ||| 1 <<< i) (nextL H last i) = none := by
                          cases hg : G H first (bitsS p ||| 1 <<< i) (nextL H last i) with
                          | none => rfl
                          | some q => rw [hg] at hG5; exact absurd hG5.1 (by rw [hb]; simp)
                        rw [hGn] at hG5
                        obtain ⟨_, hr5, hT5⟩ := hG5
                        subst hr5
                        refine wc_skip ?_
                        refine wk_norm ?_
                        refine wc_region ?_
                        refine wl_hload (i := 3) (by decide) Try.sc33 rfl hp rfl rfl ?_
                        refine wl_hload (i := 3) (by decide) Try.sc33 rfl hp rfl rfl ?_
                        refine wl_len (by decide) Try.underlying33 rfl ?_
                        refine wl_sub (by decide) rfl rfl (w64 (by omega) (by omega)) ?_
                        refine wl_upto (by decide) Try.sl33 rfl rfl p.length (by rw [e7]; omega) (by have := (hp.rowAt (i := 4) rfl).le; omega) ?_
                        refine wl_hstore (i := 3) rfl rfl hp rfl Try.sz33 (Nat.le_of_ble_eq_true rfl) (List.all_eq_true.1 rfl) ?_
                        rintro w7 hp7 hC7
                        replace h := h.fz hC7
                        replace hf := hf.fz hC7
                        replace hbf := hbf.fz hC7
                        replace hfr := hfr.fz hC7
                        replace hv := hv.fz hC7
                        replace hp := hp7
                        replace hp := hp.cutRow (i := 4) rfl p.length (by omega)
                        refine wl_nil ?_
                        refine wk_blk_norm ?_
                        refine wk_norm ?_
                        refine wc_region ?_
                        refine wl_add (by decide) rfl rfl (w64 (by omega) (by omega)) ?_
                        refine wl_move (by decide) rfl ?_
                        refine wl_nil ?_
                        refine wk_norm ?_
                        refine wk_drop [(5, .pointer (some ⟨gB, 0, none⟩)), (6, .pointer (some ⟨gO, 0, none⟩)), (7, .pointer (some ⟨gf, 0, none⟩)), (8, .pointer (some ⟨gs8, 0, none⟩)), (10, .slice A10 (valueOf H first last).length c10), (36, .slice A0 H.length c0), (37, .int .i64 (H.length : Int)), (38, .int .i64 ((i + 1) : Int))] ⟨rfl, rfl, rfl, rfl, rfl, rfl, rfl, rfl, trivial⟩ (hKL1 _ _ (m2 := H.length - (i + 1)) ?_ ?_)
                        ·
                          refine ⟨(i + 1), Fz5, f5, AO5, cO5, rfl, ?_, ?_, ?_, ?_, ?_, ?_, ?_, ?_, ?_, ?_, rfl⟩
                          · omega
                          · intro j hj hja
                            by_cases e : j = i
                            · subst e; exact hGn
                            · exact hall j (by omega) hja
                          · exact hT15
                          · intro t ht
                            rcases hT5 t ht with h1 | h1
                            · exact hT2 t h1
                            · exact .inr (.inr h1)
                          · have e8 : (((nats (p ++ [i])).map (fun z : Int => Value.int .i64 z)).take (p.length * 1)) = (nats p).map (fun z : Int => Value.int .i64 z) := by rw [e6, Nat.mul_one]; exact List.take_left' (by simp [nats])
                            rw [e8] at hp
                            exact hp.tail.tail
                          · exact h
                          · exact hf
                          · exact hbf
                          · exact hfr
                          · exact hv
                        · omega
              ·
                replace h18 := eq_false_of_ne_true h18
                apply wc_drawL [SP.eq _, SP.eq _, SP.eq _, SP.eq (.int .i64 ((bitsS p / 2 ^ i : Nat) : Int)), SP.eq (.int .i64 ((bitsS p / 2 ^ i &&& 1 : Nat) : Int)), SP.eq (.bool false), SP.eq (.bool false), SP.eq _, SP.eq _, SP.eq _, SP.eq _, SP.eq _, SP.eq _, SP.eq (.int .i64 (subN (setN (ahd H i) H.length) (bitsS p) : Int)), SP.eq (.bool false), SP.eq (.bool false), SP.eq (.bool false), SP.eq _, SP.eq (.bool false), SP.eq (.bool true), SP.eq (.bool true), SP.eq _, SP.eq _, SP.eq _, SP.eq _, SP.eq _, SP.eq _, SP.eq _] (by kernel_rfl) (by kernel_rfl)
                · refine ⟨?_, ?_, ?_, ?_, ?_, ?_, ?_, ?_, ?_, ?_, ?_, ?_, ?_, ?_, ?_, ?_, ?_, ?_, ?_, ?_, ?_, ?_, ?_, ?_, ?_, ?_, ?_, ?_, trivial⟩
                  ·
                    intro F wF hER hk
                    have e8 := hk.init 8 _ rfl (by kernel_rfl)
                    refine wl_fld' (o' := 0) (by decide) Try.fld62_0 e8 rfl ?_
                    exact wl_nil (qr_some ⟨Chg.refl _ _, rfl⟩)
                  ·
                    intro F wF hER hk
                    obtain ⟨u43, e43, h43⟩ := hk.pred 0 (by kernel_rfl) 43 rfl
                    obtain rfl := h43
                    refine wl_hload (i := 1) (by decide) Try.sc3 e43 (hp.ext hER) rfl rfl ?_
                    exact wl_nil (qr_some ⟨Chg.refl _ _, rfl⟩)
                  ·
                    intro F wF hER hk
                    have e11 := hk.init 11 _ rfl (by kernel_rfl)
                    refine wl_move (by decide) e11 ?_
                    exact wl_nil (qr_some ⟨Chg.refl _ _, rfl⟩)
                  ·
                    intro F wF hER hk
                    obtain ⟨u44, e44, h44⟩ := hk.pred 1 (by kernel_rfl) 44 rfl
                    obtain rfl := h44
                    obtain ⟨u45, e45, h45⟩ := hk.pred 2 (by kernel_rfl) 45 rfl
                    obtain rfl := h45
                    refine wl_shr (by decide) e44 e45 (by omega) (shrN (bitsS p) i (by omega)) ?_
                    exact wl_nil (qr_some ⟨Chg.refl _ _, rfl⟩)
                  ·
                    intro F wF hER hk
                    obtain ⟨u46, e46, h46⟩ := hk.pred 3 (by kernel_rfl) 46 rfl
                    obtain rfl := h46
                    refine wl_and (by decide) e46 rfl (andN (y := 1) (Nat.lt_of_le_of_lt (Nat.div_le_self _ _) hb63) (by decide)) ?_
                    exact wl_nil (qr_some ⟨Chg.refl _ _, rfl⟩)
                  ·
                    intro F wF hER hk
                    obtain ⟨u47, e47, h47⟩ := hk.pred 4 (by kernel_rfl) 47 rfl
                    obtain rfl := h47
                    refine wl_eql (by decide) e47 rfl ?_
                    refine wl_re (k := 48) (v := .bool false) rfl (congrArg Value.bool (decide_eq_false (by rw [bit1, if_neg h5]; decide))) ?_
                    exact wl_nil (qr_re ⟨Chg.refl _ _, rfl⟩)
                  ·
                    intro F wF hER hk
                    obtain ⟨u48, e48, h48⟩ := hk.pred 5 (by kernel_rfl) 48 rfl
                    obtain rfl := h48
                    refine wl_move (by decide) e48 ?_
                    exact wl_nil (qr_some ⟨Chg.refl _ _, rfl⟩)
                  ·
                    intro F wF hER hk
                    have e5 := hk.init 5 _ rfl (by kernel_rfl)
                    obtain ⟨u49, e49, h49⟩ := hk.pred 6 (by kernel_rfl) 49 rfl
                    obtain rfl := h49
                    refine wl_gyes rfl e49 ?_
                    refine wl_hload (i := 9) (by decide) Try.sc33 e5 (hp.ext hER) rfl rfl ?_
                    exact wl_nil (qr_some ⟨Chg.refl _ _, rfl⟩)
                  ·
                    intro F wF hER hk
                    have e11 := hk.init 11 _ rfl (by kernel_rfl)
                    obtain ⟨u49, e49, h49⟩ := hk.pred 6 (by kernel_rfl) 49 rfl
                    obtain rfl := h49
                    refine wl_gyes rfl e49 ?_
                    refine wl_move (by decide) e11 ?_
                    exact wl_nil (qr_some ⟨Chg.refl _ _, rfl⟩)
                  ·
                    intro F wF hER hk
                    obtain ⟨u50, e50, h50⟩ := hk.pred 7 (by kernel_rfl) 50 rfl
                    obtain rfl := h50
                    obtain ⟨u51, e51, h51⟩ := hk.pred 8 (by kernel_rfl) 51 rfl
                    obtain rfl := h51
                    obtain ⟨u49, e49, h49⟩ := hk.pred 6 (by kernel_rfl) 49 rfl
                    obtain rfl := h49
                    refine wl_gyes rfl e49 ?_
                    refine wl_idx0 (by decide) Try.sl33 e50 e51 hAQ i rfl (by simp [befL]; omega) ?_
                    exact wl_nil (qr_some ⟨Chg.refl _ _, rfl⟩)
                  ·
                    intro F wF hER hk
                    obtain ⟨u52, e52, h52⟩ := hk.pred 9 (by kernel_rfl) 52 rfl
                    obtain rfl := h52
                    obtain ⟨u49, e49, h49⟩ := hk.pred 6 (by kernel_rfl) 49 rfl
                    obtain rfl := h49
                    refine wl_gyes rfl e49 ?_
                    refine wl_load (by decide) Try.sc3 e52 (hatQ.ext hER).head ?_
                    exact wl_nil (qr_some ⟨Chg.refl _ _, rfl⟩)
                  ·
                    intro F wF hER hk
                    have e8 := hk.init 8 _ rfl (by kernel_rfl)
                    obtain ⟨u49, e49, h49⟩ := hk.pred 6 (by kernel_rfl) 49 rfl
                    obtain rfl := h49
                    refine wl_gyes rfl e49 ?_
                    refine wl_fld' (o' := 0) (by decide) Try.fld62_0 e8 rfl ?_
                    exact wl_nil (qr_some ⟨Chg.refl _ _, rfl⟩)
                  ·
                    intro F wF hER hk
                    obtain ⟨u54, e54, h54⟩ := hk.pred 11 (by kernel_rfl) 54 rfl
                    obtain rfl := h54
                    obtain ⟨u49, e49, h49⟩ := hk.pred 6 (by kernel_rfl) 49 rfl
                    obtain rfl := h49
                    refine wl_gyes rfl e49 ?_
                    refine wl_hload (i := 1) (by decide) Try.sc3 e54 (hp.ext hER) rfl rfl ?_
                    exact wl_nil (qr_some ⟨Chg.refl _ _, rfl⟩)
                  ·
                    intro F wF hER hk
                    obtain ⟨u53, e53, h53⟩ := hk.pred 10 (by kernel_rfl) 53 rfl
                    obtain rfl := h53
                    obtain ⟨u55, e55, h55⟩ := hk.pred 12 (by kernel_rfl) 55 rfl
                    obtain rfl := h55
                    obtain ⟨u49, e49, h49⟩ := hk.pred 6 (by kernel_rfl) 49 rfl
                    obtain rfl := h49
                    refine wl_gyes rfl e49 ?_
                    refine wl_andNot (by decide) e53 e55 (andNotN (setN_63 _ (by omega))) ?_
                    exact wl_nil (qr_some ⟨Chg.refl _ _, rfl⟩)
                  ·
                    intro F wF hER hk
                    obtain ⟨u56, e56, h56⟩ := hk.pred 13 (by kernel_rfl) 56 rfl
                    obtain rfl := h56
                    obtain ⟨u49, e49, h49⟩ := hk.pred 6 (by kernel_rfl) 49 rfl
                    obtain rfl := h49
                    refine wl_gyes rfl e49 ?_
                    refine wl_neq (by decide) e56 rfl ?_
                    refine wl_re (k := 57) (v := .bool false) rfl (congrArg Value.bool (decide_eq_false (by omega))) ?_
                    exact wl_nil (qr_re ⟨Chg.refl _ _, rfl⟩)
                  ·
                    intro F wF hER hk
                    obtain ⟨u49, e49, h49⟩ := hk.pred 6 (by kernel_rfl) 49 rfl
                    obtain rfl := h49
                    obtain ⟨u57, e57, h57⟩ := hk.pred 14 (by kernel_rfl) 57 rfl
                    obtain rfl := h57
                    refine wl_pick (by decide) e49 e57 ?_
                    exact wl_nil (qr_some ⟨Chg.refl _ _, rfl⟩)
                  ·
                    intro F wF hER hk
                    obtain ⟨u58, e58, h58⟩ := hk.pred 15 (by kernel_rfl) 58 rfl
                    obtain rfl := h58
                    refine wl_move (by decide) e58 ?_
                    exact wl_nil (qr_some ⟨Chg.refl _ _, rfl⟩)
                  ·
                    intro F wF hER hk
                    have e12 := hk.init 12 _ rfl (by kernel_rfl)
                    obtain ⟨u59, e59, h59⟩ := hk.pred 16 (by kernel_rfl) 59 rfl
                    obtain rfl := h59
                    refine wl_gyes rfl e59 ?_
                    refine wl_fld' (o' := 0) (by decide) Try.fld45_0 e12 rfl ?_
                    exact wl_nil (qr_some ⟨Chg.refl _ _, rfl⟩)
                  ·
                    intro F wF hER hk
                    obtain ⟨u60, e60, h60⟩ := hk.pred 17 (by kernel_rfl) 60 rfl
                    obtain rfl := h60
                    obtain ⟨u59, e59, h59⟩ := hk.pred 16 (by kernel_rfl) 59 rfl
                    obtain rfl := h59
                    refine wl_gyes rfl e59 ?_
                    refine wl_hload (i := 0) (by decide) Try.sc4 e60 (hp.ext hER) rfl rfl ?_
                    refine wl_re (k := 61) (v := .bool false) rfl (congrArg Value.bool h18) ?_
                    exact wl_nil (qr_re ⟨Chg.refl _ _, rfl⟩)
                  ·
                    intro F wF hER hk
                    obtain ⟨u61, e61, h61⟩ := hk.pred 18 (by kernel_rfl) 61 rfl
                    obtain rfl := h61
                    obtain ⟨u59, e59, h59⟩ := hk.pred 16 (by kernel_rfl) 59 rfl
                    obtain rfl := h59
                    refine wl_gyes rfl e59 ?_
                    first | refine wl_notd (by decide) e61 ?_ | refine wl_not (by decide) e61 ?_
                    exact wl_nil (qr_some ⟨Chg.refl _ _, rfl⟩)
                  ·
                    intro F wF hER hk
                    obtain ⟨u62, e62, h62⟩ := hk.pred 19 (by kernel_rfl) 62 rfl
                    obtain rfl := h62
                    obtain ⟨u59, e59, h59⟩ := hk.pred 16 (by kernel_rfl) 59 rfl
                    obtain rfl := h59
                    refine wl_gyes rfl e59 ?_
                    refine wl_move (by decide) e62 ?_
                    exact wl_nil (qr_some ⟨Chg.refl _ _, rfl⟩)
                  ·
                    intro F wF hER hk
                    have e12 := hk.init 12 _ rfl (by kernel_rfl)
                    obtain ⟨u63, e63, h63⟩ := hk.pred 20 (by kernel_rfl) 63 rfl
                    obtain rfl := h63
                    refine wl_gyes rfl e63 ?_
                    refine wl_fld' (o' := 1) (by decide) Try.fld45_1 e12 rfl ?_
                    exact wl_nil (qr_some ⟨Chg.refl _ _, rfl⟩)
                  ·
                    intro F wF hER hk
                    obtain ⟨u64, e64, h64⟩ := hk.pred 21 (by kernel_rfl) 64 rfl
                    obtain rfl := h64
                    obtain ⟨u63, e63, h63⟩ := hk.pred 20 (by kernel_rfl) 63 rfl
                    obtain rfl := h63
                    refine wl_gyes rfl e63 ?_
                    refine wl_hload (i := 0) (by decide) Try.sc23 e64 (hp.ext hER) rfl rfl ?_
                    exact wl_nil (qr_some ⟨Chg.refl _ _, rfl⟩)
                  ·
                    intro F wF hER hk
                    have e10 := hk.init 10 _ rfl (by kernel_rfl)
                    obtain ⟨u63, e63, h63⟩ := hk.pred 20 (by kernel_rfl) 63 rfl
                    obtain rfl := h63
                    refine wl_gyes rfl e63 ?_
                    refine wl_move (by decide) e10 ?_
                    exact wl_nil (qr_some ⟨Chg.refl _ _, rfl⟩)
                  ·
                    intro F wF hER hk
                    obtain ⟨u65, e65, h65⟩ := hk.pred 22 (by kernel_rfl) 65 rfl
                    obtain rfl := h65
                    obtain ⟨u66, e66, h66⟩ := hk.pred 23 (by kernel_rfl) 66 rfl
                    obtain rfl := h66
                    obtain ⟨u63, e63, h63⟩ := hk.pred 20 (by kernel_rfl) 63 rfl
                    obtain rfl := h63
                    refine wl_gyes rfl e63 ?_
                    have hcl := bequal_ok (hvK.ext hER) (hv.ext hER)
                    refine wl_call (by decide) Try.cl33 (by simp only [evs, ev, e65, e66]; first | done | rfl) hcl ?_
                    clear hcl
                    rintro _ w7 ⟨rfl, hE7⟩
                    exact wl_nil (qr_some ⟨hE7, rfl⟩)
                  ·
                    intro F wF hER hk
                    obtain ⟨u67, e67, h67⟩ := hk.pred 24 (by kernel_rfl) 67 rfl
                    obtain rfl := h67
                    obtain ⟨u63, e63, h63⟩ := hk.pred 20 (by kernel_rfl) 63 rfl
                    obtain rfl := h63
                    refine wl_gyes rfl e63 ?_
                    first | refine wl_notd (by decide) e67 ?_ | refine wl_not (by decide) e67 ?_
                    exact wl_nil (qr_some ⟨Chg.refl _ _, rfl⟩)
                  ·
                    intro F wF hER hk
                    obtain ⟨u63, e63, h63⟩ := hk.pred 20 (by kernel_rfl) 63 rfl
                    obtain rfl := h63
                    obtain ⟨u68, e68, h68⟩ := hk.pred 25 (by kernel_rfl) 68 rfl
                    obtain rfl := h68
                    obtain ⟨u59, e59, h59⟩ := hk.pred 16 (by kernel_rfl) 59 rfl
                    obtain rfl := h59
                    refine wl_gyes rfl e59 ?_
                    refine wl_pick (by decide) e63 e68 ?_
                    exact wl_nil (qr_some ⟨Chg.refl _ _, rfl⟩)
                  ·
                    intro F wF hER hk
                    obtain ⟨u59, e59, h59⟩ := hk.pred 16 (by kernel_rfl) 59 rfl
                    obtain rfl := h59
                    obtain ⟨u69, e69, h69⟩ := hk.pred 26 (by kernel_rfl) 69 rfl
                    obtain rfl := h69
                    refine wl_pick (by decide) e59 e69 ?_
                    exact wl_nil (qr_some ⟨Chg.refl _ _, rfl⟩)
                ·
                  intro F wD hED hini hdo
                  have e5 := hini 5 _ rfl (by kernel_rfl)
                  have e6 := hini 6 _ rfl (by kernel_rfl)
                  have e7 := hini 7 _ rfl (by kernel_rfl)
                  have e8 := hini 8 _ rfl (by kernel_rfl)
                  have e10 := hini 10 _ rfl (by kernel_rfl)
                  have e11 := hini 11 _ rfl (by kernel_rfl)
                  have e12 := hini 12 _ rfl (by kernel_rfl)
                  have e36 := hini 36 _ rfl (by kernel_rfl)
                  have e37 := hini 37 _ rfl (by kernel_rfl)
                  have e38 := hini 38 _ rfl (by kernel_rfl)
                  obtain ⟨u70, e70, h70⟩ := hdo 27 70 rfl
                  obtain rfl := h70
                  refine wk_drop [(5, _), (6, _), (7, _), (8, _), (10, _), (11, _), (12, _), (36, _), (37, _), (38, _), (70, _)] ⟨e5, e6, e7, e8, e10, e11, e12, e36, e37, e38, e70, trivial⟩ ?_
                  clear e5 e6 e7 e8 e10 e11 e12 e36 e37 e38 e70 hini hdo
                  replace h := h.ext hED
                  replace hf := hf.ext hED
                  replace hbf := hbf.ext hED
                  replace hfr := hfr.ext hED
                  replace hv := hv.ext hED
                  replace hatK := hatK.ext hED
                  replace hvK := hvK.ext hED
                  replace hatQ := hatQ.ext hED
                  replace hp := hp.ext hED
                  refine wk_norm ?_
                  refine wc_cond rfl (fun hq => ?_) (fun hq => ?_)
                  ·
                    try replace hq := of_decide_eq_true hq
                    have ha := allow_no_val (s := bitsS p) (last := last) (f := first) h18 hq
                    refine wc_exit ?_
                    refine wk_then_exit ?_
                    refine wk_blk_exit ?_
                    refine wk_norm ?_
                    refine wc_region ?_
                    refine wl_add (by decide) rfl rfl (w64 (by omega) (by omega)) ?_
                    refine wl_move (by decide) rfl ?_
                    refine wl_nil ?_
                    refine wk_norm ?_
                    refine wk_drop [(5, .pointer (some ⟨gB, 0, none⟩)), (6, .pointer (some ⟨gO, 0, none⟩)), (7, .pointer (some ⟨gf, 0, none⟩)), (8, .pointer (some ⟨gs8, 0, none⟩)), (10, .slice A10 (valueOf H first last).length c10), (36, .slice A0 H.length c0), (37, .int .i64 (H.length : Int)), (38, .int .i64 ((i + 1) : Int))] ⟨rfl, rfl, rfl, rfl, rfl, rfl, rfl, rfl, trivial⟩ (hKL1 _ _ (m2 := H.length - (i + 1)) ?_ ?_)
                    ·
                      refine ⟨(i + 1), Fz2, f2, AO2, cO2, rfl, ?_, ?_, ?_, ?_, ?_, ?_, ?_, ?_, ?_, ?_, rfl⟩
                      · omega
                      · intro j hj hja
                        by_cases e : j = i
                        · subst e; exact absurd hja (by rw [ha]; simp)
                        · exact hall j (by omega) hja
                      · exact hT12
                      · exact hT2
                      · exact hp.tail
                      · exact h
                      · exact hf
                      · exact hbf
                      · exact hfr
                      · exact hv
                    · omega
                  ·
                    try replace hq := of_decide_eq_false hq
                    have hval : (hop H i).wr = true ∨ (hop H i).val = valueOf H first last := .inr (Decidable.not_not.1 hq)
                    refine wc_skip ?_
                    refine wk_norm ?_
                    refine wc_seq ?_
                    apply wc_drawTL 9 [SP.eq _, SP.eq _, SP.eq _, SP.eq (.int .i64 ((1 <<< i : Nat) : Int)), SP.eq (.int .i64 ((bitsS p ||| 1 <<< i : Nat) : Int)), SP.eq _, SP.eq _, SP.eq _, SP.nb _ 62 (.agg #[.int .i64 0, .int .i64 0] : Value).cells.toList] (by kernel_rfl) (by kernel_rfl)
                    · refine ⟨?_, ?_, ?_, ?_, ?_, ?_, ?_, ?_, ?_, trivial⟩
                      ·
                        intro F wF hER hk
                        have e8 := hk.init 8 _ rfl (by kernel_rfl)
                        refine wl_fld' (o' := 0) (by decide) Try.fld62_0 e8 rfl ?_
                        exact wl_nil (qr_some ⟨Chg.refl _ _, rfl⟩)
                      ·
                        intro F wF hER hk
                        obtain ⟨u71, e71, h71⟩ := hk.pred 0 (by kernel_rfl) 71 rfl
                        obtain rfl := h71
                        refine wl_hload (i := 1) (by decide) Try.sc3 e71 (hp.ext hER) rfl rfl ?_
                        exact wl_nil (qr_some ⟨Chg.refl _ _, rfl⟩)
                      ·
                        intro F wF hER hk
                        have e11 := hk.init 11 _ rfl (by kernel_rfl)
                        refine wl_move (by decide) e11 ?_
                        exact wl_nil (qr_some ⟨Chg.refl _ _, rfl⟩)
                      ·
                        intro F wF hER hk
                        obtain ⟨u73, e73, h73⟩ := hk.pred 2 (by kernel_rfl) 73 rfl
                        obtain rfl := h73
                        refine wl_shl (by decide) rfl e73 (by omega) (shlN (k := i) (by omega)) ?_
                        exact wl_nil (qr_some ⟨Chg.refl _ _, rfl⟩)
                      ·
                        intro F wF hER hk
                        obtain ⟨u72, e72, h72⟩ := hk.pred 1 (by kernel_rfl) 72 rfl
                        obtain rfl := h72
                        obtain ⟨u74, e74, h74⟩ := hk.pred 3 (by kernel_rfl) 74 rfl
                        obtain rfl := h74
                        refine wl_or (by decide) e72 e74 (orN hb63 (shl_63 (by omega))) ?_
                        exact wl_nil (qr_some ⟨Chg.refl _ _, rfl⟩)
                      ·
                        intro F wF hER hk
                        have e8 := hk.init 8 _ rfl (by kernel_rfl)
                        refine wl_fld' (o' := 1) (by decide) Try.fld62_1 e8 rfl ?_
                        exact wl_nil (qr_some ⟨Chg.refl _ _, rfl⟩)
                      ·
                        intro F wF hER hk
                        obtain ⟨u76, e76, h76⟩ := hk.pred 5 (by kernel_rfl) 76 rfl
                        obtain rfl := h76
                        refine wl_hload (i := 1) (by decide) Try.sc3 e76 (hp.ext hER) rfl rfl ?_
                        exact wl_nil (qr_some ⟨Chg.refl _ _, rfl⟩)
                      ·
                        intro F wF hER hk
                        obtain ⟨u75, e75, h75⟩ := hk.pred 4 (by kernel_rfl) 75 rfl
                        obtain rfl := h75
                        obtain ⟨u77, e77, h77⟩ := hk.pred 6 (by kernel_rfl) 77 rfl
                        obtain rfl := h77
                        refine wl_built (ps := [(0, .tmp 75), (1, .tmp 77)]) (by decide) Try.bld62 (by simp only [evp, ev, e75, e77]; first | done | rfl) rfl ?_
                        exact wl_nil (qr_some ⟨Chg.refl _ _, rfl⟩)
                      ·
                        intro F wF hER hk
                        refine wl_alloc (z := .agg #[.int .i64 0, .int .i64 0]) (by decide) (by kernel_rfl) ?_
                        rintro g7 w7 hg7 hb7 hE7
                        exact wl_nil (qr_some ⟨hE7, g7, rfl, by rw [hg7]; exact hER.size, hb7⟩)
                    ·
                      intro F wD hED hini hdo
                      have e5 := hini 5 _ rfl (by kernel_rfl)
                      have e6 := hini 6 _ rfl (by kernel_rfl)
                      have e7 := hini 7 _ rfl (by kernel_rfl)
                      have e8 := hini 8 _ rfl (by kernel_rfl)
                      have e10 := hini 10 _ rfl (by kernel_rfl)
                      have e11 := hini 11 _ rfl (by kernel_rfl)
                      have e12 := hini 12 _ rfl (by kernel_rfl)
                      obtain ⟨u13, e13, h13⟩ := hdo 8 13 (Nat.lt_of_lt_of_eq (by decide) rfl) rfl
                      obtain ⟨gs13, rfl, hge13, hb13⟩ := h13
                      have e36 := hini 36 _ rfl (by kernel_rfl)
                      have e37 := hini 37 _ rfl (by kernel_rfl)
                      have e38 := hini 38 _ rfl (by kernel_rfl)
                      obtain ⟨u78, e78, h78⟩ := hdo 7 78 (Nat.lt_of_lt_of_eq (by decide) rfl) rfl
                      obtain rfl := h78
                      refine wl_drop [(5, _), (6, _), (7, _), (8, _), (10, _), (11, _), (12, _), (13, _), (36, _), (37, _), (38, _), (78, _)] ⟨e5, e6, e7, e8, e10, e11, e12, e13, e36, e37, e38, e78, trivial⟩ ?_
                      clear e5 e6 e7 e8 e10 e11 e12 e13 e36 e37 e38 e78 hini hdo
                      replace h := h.ext hED
                      replace hf := hf.ext hED
                      replace hbf := hbf.ext hED
                      replace hfr := hfr.ext hED
                      replace hv := hv.ext hED
                      replace hatK := hatK.ext hED
                      replace hvK := hvK.ext hED
                      replace hatQ := hatQ.ext hED
                      replace hp := hp.add hED (x := itB gs13 _ _) (K := fun b => b = gs13) ⟨hb13, fun _ => Iff.rfl⟩ (fun b hb => by rw [hb]; exact hge13)
                      have ha : allowS H first (bitsS p) last i = true := allow_yes (by simpa using h5) ((bef_sub hl14 hb63).1 (by omega)) hval
                      refine wl_hstore (i := 0) rfl rfl hp rfl Try.sz62 (Nat.le_of_ble_eq_true rfl) (List.all_eq_true.1 rfl) ?_
                      rintro w8 hp8 hC8
                      replace h := h.fz hC8
                      replace hf := hf.fz hC8
                      replace hbf := hbf.fz hC8
                      replace hfr := hfr.fz hC8
                      replace hv := hv.fz hC8
                      replace hatK := hatK.fz hC8
                      replace hvK := hvK.fz hC8
                      replace hatQ := hatQ.fz hC8
                      replace hp := hp8
                      refine wl_nil ?_
                      refine wk_norm ?_
                      refine wc_seq_cut (fun L' w' => L' = [(5, .pointer (some ⟨gB, 0, none⟩)), (6, .pointer (some ⟨gO, 0, none⟩)), (7, .pointer (some ⟨gf, 0, none⟩)), (8, .pointer (some ⟨gs8, 0, none⟩)), (10, .slice A10 (valueOf H first last).length c10), (36, .slice A0 H.length c0), (37, .int .i64 (H.length : Int)), (38, .int .i64 (i : Int)), (11, .int .i64 (i : Int)), (13, .pointer (some ⟨gs13, 0, none⟩))] ∧ (HP w0 M0 Fz2 w' (itB gs13 62 [.int .i64 ((bitsS p ||| 1 <<< i : Nat) : Int), .int .i64 (nextL H last i)] :: itB gs12 45 [.bool (hop H i).wr, .slice BK (hop H i).val.length dK, .int .i64 (hop H i).b, .int .i64 (hop H i).e] :: itB gs8 62 [.int .i64 (bitsS p : Int), .int .i64 last] :: itB gO 33 [.slice AO2 p.length cO2] :: itR 3 1 AO2 p.length cO2 ((nats p).map fun z : Int => Value.int .i64 z) :: itM Try.prog 62 m f2 :: itB gE 3 [.int .i64 (endN H : Int)] :: itB gT 59 [.map (some m)] :: itB gF 23 [.slice A1 first.length c1] :: itB gL 22 [.slice A0 H.length c0] :: itB gB 33 [.slice AB (befL H).length cB] :: itB gf 60 [capV gE gT gF gL gB gO gf] :: FR)) ∧ (HS Fz2 w' A0 c0 H) ∧ (BS Fz2 w' A1 c1 first) ∧ (IS Fz2 w' AB cB (befL H)) ∧ (Frz Fz Fz2 w w') ∧ (BS Fz2 w' A10 c10 (valueOf H first last))) (fun K hK => ?_) ?_
                      ·
                        refine wc_seq ?_
                        refine wc_region ?_
                        refine wl_fld' (o' := 0) (by decide) Try.fld45_0 rfl rfl ?_
                        refine wl_hload (i := 1) (by decide) Try.sc4 rfl hp rfl rfl ?_
                        refine wl_nil ?_
                        refine wk_norm ?_
                        refine wc_cond rfl (fun hwr => ?_) (fun hwr => ?_)
                        ·
                          try replace hwr := of_decide_eq_true hwr
                          have hnx : nextL H last i = (i : Int) := by rw [nextL, if_pos hwr]
                          refine wc_region ?_
                          refine wl_move (by decide) rfl ?_
                          refine wl_fld' (o' := 1) (by decide) Try.fld62_1 rfl rfl ?_
                          refine wl_hstore (i := 0) rfl rfl hp rfl Try.sz3 (Nat.le_of_ble_eq_true rfl) (List.all_eq_true.1 rfl) ?_
                          rintro w9 hp9 hC9
                          replace h := h.fz hC9
                          replace hf := hf.fz hC9
                          replace hbf := hbf.fz hC9
                          replace hfr := hfr.fz hC9
                          replace hv := hv.fz hC9
                          replace hatK := hatK.fz hC9
                          replace hvK := hvK.fz hC9
                          replace hatQ := hatQ.fz hC9
                          replace hp := hp9
                          refine wl_nil ?_
                          refine wk_norm ?_
                          refine wk_drop [(5, .pointer (some ⟨gB, 0, none⟩)), (6, .pointer (some ⟨gO, 0, none⟩)), (7, .pointer (some ⟨gf, 0, none⟩)), (8, .pointer (some ⟨gs8, 0, none⟩)), (10, .slice A10 (valueOf H first last).length c10), (36, .slice A0 H.length c0), (37, .int .i64 (H.length : Int)), (38, .int .i64 (i : Int)), (11, .int .i64 (i : Int)), (13, .pointer (some ⟨gs13, 0, none⟩))] ⟨rfl, rfl, rfl, rfl, rfl, rfl, rfl, rfl, rfl, rfl, trivial⟩ (hK _ _ ?_)
                          refine ⟨rfl, ?_, ?_, ?_, ?_, ?_, ?_⟩
                          · rw [hnx]; exact hp
                          · exact h
                          · exact hf
                          · exact hbf
                          · exact hfr
                          · exact hv
                        ·
                          try replace hwr := of_decide_eq_false hwr
                          have hnx : nextL H last i = last := by rw [nextL, if_neg (by rw [hwr]; simp)]
                          refine wc_skip ?_
                          refine wk_norm ?_
                          refine wk_drop [(5, .pointer (some ⟨gB, 0, none⟩)), (6, .pointer (some ⟨gO, 0, none⟩)), (7, .pointer (some ⟨gf, 0, none⟩)), (8, .pointer (some ⟨gs8, 0, none⟩)), (10, .slice A10 (valueOf H first last).length c10), (36, .slice A0 H.length c0), (37, .int .i64 (H.length : Int)), (38, .int .i64 (i : Int)), (11, .int .i64 (i : Int)), (13, .pointer (some ⟨gs13, 0, none⟩))] ⟨rfl, rfl, rfl, rfl, rfl, rfl, rfl, rfl, rfl, rfl, trivial⟩ (hK _ _ ?_)
                          refine ⟨rfl, ?_, ?_, ?_, ?_, ?_, ?_⟩
                          · rw [hnx]; exact hp
                          · exact h
                          · exact hf
                          · exact hbf
                          · exact hfr
                          · exact hv
                      ·
                        rintro _ wn ⟨rfl, hp, h, hf, hbf, hfr, hv⟩
                        refine wc_seq ?_
                        have hpl := hP.len
                        refine wc_region ?_
                        refine wl_hload (i := 3) (by decide) Try.sc33 rfl hp rfl rfl ?_
                        refine wl_move (by decide) rfl ?_
                        refine wl_bsliceE (enc := fun z : Int => .int .i64 z) (xs := [.tmp 84]) (bs := [(i : Int)]) (fun _ => rfl) (by decide) Try.sl33 rfl rfl rfl (by simp) _ (Nat.le_refl _) ?_
                        rintro gt wt hgt hot hEt
                        replace h := h.ext hEt
                        replace hf := hf.ext hEt
                        replace hbf := hbf.ext hEt
                        replace hfr := hfr.ext hEt
                        replace hv := hv.ext hEt
                        replace hp := hp.ext hEt
                        refine wl_happend (i := 4) (m := 1) (news := [.int .i64 (i : Int)]) (by decide) Try.sl33 rfl rfl hp rfl rfl (fun b hb => by cases hb; exact hot.at0) (by simp) (by simp [Value.oneCell']) (by omega) ?_
                        rintro A4 c4 w4 hp4 hC4
                        replace h := h.fz hC4
                        replace hf := hf.fz hC4
                        replace hbf := hbf.fz hC4
                        replace hfr := hfr.fz hC4
                        replace hv := hv.fz hC4
                        replace hp := hp4
                        refine wl_hstore (i := 3) rfl rfl hp rfl Try.sz33 (Nat.le_of_ble_eq_true rfl) (List.all_eq_true.1 rfl) ?_
                        rintro w10 hp10 hC10
                        replace h := h.fz hC10
                        replace hf := hf.fz hC10
                        replace hbf := hbf.fz hC10
                        replace hfr := hfr.fz hC10
                        replace hv := hv.fz hC10
                        replace hp := hp10
                        refine wl_nil ?_
                        refine wk_norm ?_
                        refine wc_seq ?_
                        refine wc_seq ?_
                        refine wc_region ?_
                        refine wl_hload (i := 11) (by decide) Try.sc60 rfl hp rfl rfl ?_
                        refine wl_hloadA (i := 0) (by decide) Try.ag62 rfl hp rfl rfl ?_
                        obtain ⟨hP2, hb2⟩ := bitsS_snoc hP (show i < H.length by omega) (allowS_tb H first ha)
                        have hcn := cntN_or (bitsS p) i (allowS_tb H first ha) H.length
                        rw [if_pos (show i < H.length by omega), ← hb2] at hcn
                        have hgt : bitsS p < bitsS (p ++ [i]) := by
                          rw [hb2, ← add_or (allowS_tb H first ha), Nat.shiftLeft_eq, Nat.one_mul]
                          have := Nat.two_pow_pos i
                          omega
                        have hL2 : LastK H (nextL H last i) := by
                          unfold nextL LastK at *
                          split <;> omega
                        have e6 : (nats (p ++ [i])).map (fun z : Int => Value.int .i64 z) = (nats p).map (fun z : Int => Value.int .i64 z) ++ [.int .i64 (i : Int)] := by rw [nats_append, List.map_append]; rfl
                        have e7 : (p ++ [i]).length = p.length + 1 := by simp
                        have hpc := HP.comm [_, _, _] [_, _, _, _, _, _, _, _, _] FR hp
                        have hcl := ih (cntN H.length (bitsS (p ++ [i]))) (by omega) w0 _ M0 Fz2 _ f2 (p ++ [i]) (nextL H last i) A0 A1 AB A4 c0 c1 cB c4 gE gT gF gL gB gO gf m (by rw [e6, e7]; exact hpc) h hf hbf hP2 hL2 hT12 (fun t ht => (hT2 t ht).elim (fun h1 => (hT t h1).elim .inl (fun h2 => .inr (by omega))) (fun h1 => h1.elim (fun h2 => .inr (by rw [h2]; exact hgt)) .inl)) (Nat.le_refl _)
                        rw [hb2] at hcl
                        refine wl_callv (f := 32) (first := []) (by decide) Try.cl32 rfl rfl hcl ?_
                        clear hcl
                        rintro _ we ⟨b, f5, AO5, cO5, Fz5, r5, rfl, hp5, hs5, hC5, hT15, hG5⟩
                        rw [hb2] at hG5
                        replace h := (h.fz hC5).wid hs5
                        replace hf := (hf.fz hC5).wid hs5
                        replace hbf := (hbf.fz hC5).wid hs5
                        replace hfr := (hfr.fz hC5).wid hs5
                        replace hv := (hv.fz hC5).wid hs5
                        replace hp := (HP.comm [_, _, _, _, _, _, _, _, _] [_, _, _] FR hp5)
                        refine wl_nil ?_
                        refine wk_norm ?_
                        refine wc_cond rfl (fun hb => ?_) (fun hb => ?_)
                        ·
                          try replace hb := of_decide_eq_true hb
                          obtain ⟨q, hr⟩ : ∃ q, G H first (bitsS p ||| 1 <<< i) (nextL H last i) = some q := by
                            cases hg : G H first (bitsS p ||| 1 <<< i) (nextL H last i) with
                            | none => rw [hg] at hG5; exact absurd hG5.1 (by rw [hb]; simp)
                            | some q => exact ⟨q, rfl⟩
                          rw [hr] at hG5
                          refine wc_seq ?_
                          refine wc_region ?_
                          refine wl_assign (by decide) rfl ?_
                          refine wl_nil ?_
                          refine wk_norm ?_
                          refine wc_ret ?_
                          refine wk_then_ret ?_
                          refine wk_blk_ret ?_
                          refine wk_then_ret ?_
                          refine wk_then_ret ?_
                          refine wk_blk_ret ?_
                          refine wk_then_ret ?_
                          refine wk_post1 (.inl rfl) Try.results32 rfl ?_
                          exact ⟨_, rfl, true, f5, AO5, cO5, Fz5, r5, rfl, hp.tail.tail.tail, hfr.sub, hfr.chg, hT15, by rw [G_some H first hw (by omega) ha hr (fun j hj => hall j (by omega))]; exact ⟨rfl, by rw [hG5.2]; simp⟩⟩
                        ·
                          try replace hb := of_decide_eq_false hb
                          have hGn : G H first (bitsS p ||| 1 <<< i) (nextL H last i) = none := by
                            cases hg : G H first (bitsS p ||| 1 <<< i) (nextL H last i) with
                            | none => rfl
                            | some q => rw [hg] at hG5; exact absurd hG5.1 (by rw [hb]; simp)
                          rw [hGn] at hG5
                          obtain ⟨_, hr5, hT5⟩ := hG5
                          subst hr5
                          refine wc_skip ?_
                          refine wk_norm ?_
                          refine wc_region ?_
                          refine wl_hload (i := 3) (by decide) Try.sc33 rfl hp rfl rfl ?_
                          refine wl_hload (i := 3) (by decide) Try.sc33 rfl hp rfl rfl ?_
                          refine wl_len (by decide) Try.underlying33 rfl ?_
                          refine wl_sub (by decide) rfl rfl (w64 (by omega) (by omega)) ?_
                          refine wl_upto (by decide) Try.sl33 rfl rfl p.length (by rw [e7]; omega) (by have := (hp.rowAt (i := 4) rfl).le; omega) ?_
                          refine wl_hstore (i := 3) rfl rfl hp rfl Try.sz33 (Nat.le_of_ble_eq_true rfl) (List.all_eq_true.1 rfl) ?_
                          rintro w11 hp11 hC11
                          replace h := h.fz hC11
                          replace hf := hf.fz hC11
                          replace hbf := hbf.fz hC11
                          replace hfr := hfr.fz hC11
                          replace hv := hv.fz hC11
                          replace hp := hp11
                          replace hp := hp.cutRow (i := 4) rfl p.length (by omega)
                          refine wl_nil ?_
                          refine wk_blk_norm ?_
                          refine wk_norm ?_
                          refine wc_region ?_
                          refine wl_add (by decide) rfl rfl (w64 (by omega) (by omega)) ?_
                          refine wl_move (by decide) rfl ?_
                          refine wl_nil ?_
                          refine wk_norm ?_
                          refine wk_drop [(5, .pointer (some ⟨gB, 0, none⟩)), (6, .pointer (some ⟨gO, 0, none⟩)), (7, .pointer (some ⟨gf, 0, none⟩)), (8, .pointer (some ⟨gs8, 0, none⟩)), (10, .slice A10 (valueOf H first last).length c10), (36, .slice A0 H.length c0), (37, .int .i64 (H.length : Int)), (38, .int .i64 ((i + 1) : Int))] ⟨rfl, rfl, rfl, rfl, rfl, rfl, rfl, rfl, trivial⟩ (hKL1 _ _ (m2 := H.length - (i + 1)) ?_ ?_)
                          ·
                            refine ⟨(i + 1), Fz5, f5, AO5, cO5, rfl, ?_, ?_, ?_, ?_, ?_, ?_, ?_, ?_, ?_, ?_, rfl⟩
                            · omega
                            · intro j hj hja
                              by_cases e : j = i
                              · subst e; exact hGn
                              · exact hall j (by omega) hja
                            · exact hT15
                            · intro t ht
                              rcases hT5 t ht with h1 | h1
                              · exact hT2 t h1
                              · exact .inr (.inr h1)
                            · have e8 : (((nats (p ++ [i])).map (fun z : Int => Value.int .i64 z)).take (p.length * 1)) = (nats p).map (fun z : Int => Value.int .i64 z) := by rw [e6, Nat.mul_one]; exact List.take_left' (by simp [nats])
                              rw [e8] at hp
                              exact hp.tail.tail
                            · exact h
                            · exact hf
                            · exact hbf
                            · exact hfr
                            · exact hv
                          · omega
        ·
          try replace hlt := of_decide_eq_false hlt
          have hiH : i = H.length := by omega
          refine wc_exit ?_
          refine wk_then_exit ?_
          refine wk_then_exit ?_
          refine wk_blk_exit ?_
          refine wk_norm ?_
          refine wc_seq ?_
          refine wc_region ?_
          refine wl_assign (by decide) rfl ?_
          refine wl_nil ?_
          refine wk_norm ?_
          refine wc_ret ?_
          refine wk_post1 (.inl rfl) Try.results32 rfl ?_
          have hg : G H first (bitsS p) last = none := G_none H first hw (fun j hj => hall j (by omega))
          exact ⟨_, rfl, false, f2, AO2, cO2, Fz2, p, rfl, hp.tail, hfr.sub, hfr.chg, hT12, by
            rw [hg]
            exact ⟨rfl, rfl, fun t ht => (hT2 t ht).elim .inl (fun h1 => h1.elim (fun h2 => .inr (by rw [h2]; exact hg)) .inr)⟩⟩

end Go.Proofs.Ytnlpibfdobinoaa
