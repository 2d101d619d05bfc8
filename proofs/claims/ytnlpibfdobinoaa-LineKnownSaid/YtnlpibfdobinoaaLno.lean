/- Lno (printed by program: wip/gen) -/
import Derived.Test.YtnlpibfdobinoaaLnf
namespace Go.Proofs.Ytnlpibfdobinoaa
open Go.RowKit Go.Eng

theorem rfind_all {H : List HOp} {first : List UInt8} (hl14 : H.length ≤ 14) (N : Nat) : RFind H first N := by
  induction N using Nat.strongRecOn with
  | _ N ih =>
    intro w0 w M0 Fz F gT T AT cT p last A0 A1 B c0 c1 d hp h hf ho hP hL hM hN
    exact rfind_step hl14 ih hp h hf ho hP hL hM hN
/-- What Order answers. -/
def ordS (H : List HOp) (first : List UInt8) : List Nat × Bool × Int :=
  if chkH H = 0 then (match G H first 0 (-1) with | some r => (r, true, 0) | none => ([], false, 0)) else ([], false, chkH H)
theorem ordS_bad {H : List HOp} {first : List UInt8} (h : ¬ chkH H = 0) : ordS H first = ([], false, chkH H) := by rw [ordS, if_neg h]
theorem ordS_some {H : List HOp} {first : List UInt8} {r : List Nat} (h : chkH H = 0) (hg : G H first 0 (-1) = some r) : ordS H first = (r, true, 0) := by rw [ordS, if_pos h, hg]
theorem ordS_none {H : List HOp} {first : List UInt8} (h : chkH H = 0) (hg : G H first 0 (-1) = none) : ordS H first = ([], false, 0) := by rw [ordS, if_pos h, hg]

theorem rorder_ok {A0 A1 : Option Addr} {c0 c1 : Nat} {H : List HOp} {first : List UInt8} {S S2 : Nat → Prop} {w : World} (h : HS S w A0 c0 H) (hf : BS S2 w A1 c1 first) : Ret Try.prog 18 #[.slice A0 H.length c0, .slice A1 first.length c1] w (fun v w' => ∃ A c, v = .tuple #[.slice A (nats (ordS H first).1).length c, .bool (ordS H first).2.1, .int .i64 (ordS H first).2.2] ∧ IS (fun _ => True) w' A c (nats (ordS H first).1) ∧ Ext w w') := by
  refine ret_of_wk Try.func18 rfl Try.ntmps18 (Nat.le_of_ble_eq_true rfl) ?_
  have hp := HP.begin_ w
  replace h := h.now
  replace hf := hf.now
  refine wc_seq ?_
  refine wc_region ?_
  refine wl_assign (by decide) rfl ?_
  refine wl_assign (by decide) rfl ?_
  refine wl_assign (by decide) rfl ?_
  refine wl_nil ?_
  refine wk_norm ?_
  refine wc_seq ?_
  refine wc_region ?_
  refine wl_move (by decide) rfl ?_
  have hcl := rcheck_ok h
  refine wl_call (by decide) Try.cl13 rfl hcl ?_
  clear hcl
  rintro _ w1 ⟨rfl, hE1⟩
  replace h := h.ext hE1
  replace hf := hf.ext hE1
  replace hp := hp.ext hE1
  refine wl_assign (by decide) rfl ?_
  refine wl_nil ?_
  refine wk_norm ?_
  refine wc_seq ?_
  refine wc_seq ?_
  refine wc_region ?_
  refine wl_move (by decide) rfl ?_
  refine wl_neq (by decide) rfl rfl ?_
  refine wl_nil ?_
  refine wk_norm ?_
  refine wc_cond rfl (fun hq => ?_) (fun hq => ?_)
  ·
    try replace hq := of_decide_eq_true hq
    refine wc_seq ?_
    refine wc_region ?_
    refine wl_move (by decide) rfl ?_
    refine wl_assign (by decide) rfl ?_
    refine wl_assign (by decide) rfl ?_
    refine wl_assign (by decide) rfl ?_
    refine wl_nil ?_
    refine wk_norm ?_
    refine wc_ret ?_
    refine wk_then_ret ?_
    refine wk_post3 (.inl rfl) Try.results18 rfl rfl rfl ?_
    exact ⟨_, rfl, none, 0, by rw [ordS_bad hq]; rfl, by rw [ordS_bad hq]; exact GS.nil _ _ _ _ _, hp.chg⟩
  ·
    try replace hq := of_decide_eq_false hq
    replace hq : chkH H = 0 := Decidable.not_not.1 hq
    have hl14 := (chkH_zero H).1 hq |>.1
    replace hp := hp.noRow 73 2
    refine wc_skip ?_
    refine wk_norm ?_
    refine wc_seq ?_
    skip
    refine wc_region ?_
    refine wl_built (ps := []) (by decide) Try.bld66 rfl rfl ?_
    refine wl_hbox (by decide) rfl hp ?_
    rintro gs17 w2 hp2 hE2
    replace h := h.ext hE2
    replace hf := hf.ext hE2
    replace hp := hp2
    refine wl_assign (by decide) rfl ?_
    refine wl_nil ?_
    refine wk_norm ?_
    refine wc_seq ?_
    refine wc_region ?_
    refine wl_move (by decide) rfl ?_
    refine wl_move (by decide) rfl ?_
    refine wl_move (by decide) rfl ?_
    have hcl := rfind_all (H := H) (first := first) hl14 _ w _ (fun _ => False) _ [] _ [] none 0 [] (-1) A0 A1 none c0 c1 0 hp h hf (GS.nil _ _ _ _ _) ⟨by simp, by simp⟩ ⟨by omega, by omega⟩ ⟨by simp, by simp⟩ (Nat.le_refl _)
    refine wl_call (by decide) Try.cl34 rfl hcl ?_
    clear hcl
    rintro _ we ⟨A5, c5, q, b, T3, AT3, cT3, Fz5, rfl, hp5, hs5, hC5, hq5, hM3, hT3, hG5⟩
    replace h := (h.fz hC5).wid hs5
    replace hf := (hf.fz hC5).wid hs5
    replace hp := hp5
    refine wl_move (by decide) rfl ?_
    refine wl_extract (by decide) rfl rfl ?_
    refine wl_extract (by decide) rfl rfl ?_
    refine wl_assign (by decide) rfl ?_
    refine wl_assign (by decide) rfl ?_
    refine wl_nil ?_
    refine wk_norm ?_
    refine wc_seq ?_
    refine wc_region ?_
    refine wl_move (by decide) rfl ?_
    refine wl_move (by decide) rfl ?_
    refine wl_assign (by decide) rfl ?_
    refine wl_assign (by decide) rfl ?_
    refine wl_assign (by decide) rfl ?_
    refine wl_nil ?_
    refine wk_norm ?_
    refine wc_ret ?_
    refine wk_post3 (.inl rfl) Try.results18 rfl rfl rfl ?_
    cases hg : G H first 0 (-1) with
    | none =>
      rw [show bitsS [] = 0 from rfl, hg] at hG5
      rw [ordS_none hq hg, hG5.1]
      rw [hG5.2] at hq5 ⊢
      exact ⟨_, rfl, A5, c5, rfl, hq5.any, hp.chg⟩
    | some r =>
      rw [show bitsS [] = 0 from rfl, hg] at hG5
      rw [ordS_some hq hg, hG5.1]
      have hqr : q = r := by rw [hG5.2]; rfl
      rw [hqr] at hq5 ⊢
      exact ⟨_, rfl, A5, c5, rfl, hq5.any, hp.chg⟩

theorem rlinear_ok {A0 A1 : Option Addr} {c0 c1 : Nat} {H : List HOp} {first : List UInt8} {S S2 : Nat → Prop} {w : World} (h : HS S w A0 c0 H) (hf : BS S2 w A1 c1 first) : Ret Try.prog 20 #[.slice A0 H.length c0, .slice A1 first.length c1] w (fun v w' => v = .tuple #[.bool (ordS H first).2.1, .int .i64 (ordS H first).2.2] ∧ Ext w w') := by
  refine ret_of_wk Try.func20 rfl Try.ntmps20 (Nat.le_of_ble_eq_true rfl) ?_
  refine wc_seq ?_
  refine wc_region ?_
  refine wl_assign (by decide) rfl ?_
  refine wl_assign (by decide) rfl ?_
  refine wl_nil ?_
  refine wk_norm ?_
  refine wc_seq ?_
  refine wc_region ?_
  refine wl_move (by decide) rfl ?_
  refine wl_move (by decide) rfl ?_
  have hcl := rorder_ok h hf
  refine wl_call (by decide) Try.cl18 rfl hcl ?_
  clear hcl
  rintro _ w1 ⟨A, c, rfl, ho, hE⟩
  refine wl_move (by decide) rfl ?_
  refine wl_extract (by decide) rfl rfl ?_
  refine wl_extract (by decide) rfl rfl ?_
  refine wl_extract (by decide) rfl rfl ?_
  refine wl_assign (by decide) rfl ?_
  refine wl_assign (by decide) rfl ?_
  refine wl_assign (by decide) rfl ?_
  refine wl_nil ?_
  refine wk_norm ?_
  refine wc_seq ?_
  refine wc_region ?_
  refine wl_move (by decide) rfl ?_
  refine wl_move (by decide) rfl ?_
  refine wl_assign (by decide) rfl ?_
  refine wl_assign (by decide) rfl ?_
  refine wl_nil ?_
  refine wk_norm ?_
  refine wc_ret ?_
  refine wk_post2 (.inl rfl) Try.results20 rfl rfl ?_
  exact ⟨_, rfl, rfl, hE⟩

end Go.Proofs.Ytnlpibfdobinoaa
