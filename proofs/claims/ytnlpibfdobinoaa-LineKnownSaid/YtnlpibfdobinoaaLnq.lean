/- Lnq (printed by program: wip/gen) -/
import Derived.Test.YtnlpibfdobinoaaLnp
namespace Go.Proofs.Ytnlpibfdobinoaa
open Go.RowKit Go.Eng

theorem pfind_all {H : List HOp} {first : List UInt8} (hl14 : H.length ≤ 14) (N : Nat) : PFind H first N := by
  induction N using Nat.strongRecOn with
  | _ N ih =>
    intro w0 w M0 Fz FR f p last A0 A1 AB AO c0 c1 cB cO gE gT gF gL gB gO gf m hp h hf hbf hP hL hT1 hT hN
    exact pfind_step hl14 ih hp h hf hbf hP hL hT1 hT hN

theorem porder_ok {A0 A1 : Option Addr} {c0 c1 : Nat} {H : List HOp} {first : List UInt8} {S S2 : Nat → Prop} {w : World} (h : HS S w A0 c0 H) (hf : BS S2 w A1 c1 first) : Ret Try.prog 17 #[.slice A0 H.length c0, .slice A1 first.length c1] w (fun v w' => ∃ A c, v = .tuple #[.slice A (nats (ordS H first).1).length c, .bool (ordS H first).2.1, .int .i64 (ordS H first).2.2] ∧ IS (fun _ => True) w' A c (nats (ordS H first).1) ∧ Ext w w') := by
  refine ret_of_wk Try.func17 rfl Try.ntmps17 (Nat.le_of_ble_eq_true rfl) ?_
  have hp := HP.begin_ w
  replace h := h.now
  replace hf := hf.now
  refine wc_seq ?_
  refine wc_region ?_
  refine wl_hbox (by decide) rfl hp ?_
  rintro gs2 w1 hp1 hE1
  replace h := h.ext hE1
  replace hf := hf.ext hE1
  replace hp := hp1
  refine wl_hbox (by decide) rfl hp ?_
  rintro gs3 w2 hp2 hE2
  replace h := h.ext hE2
  replace hf := hf.ext hE2
  replace hp := hp2
  refine wl_assign (by decide) rfl ?_
  refine wl_assign (by decide) rfl ?_
  refine wl_assign (by decide) rfl ?_
  refine wl_nil ?_
  refine wk_norm ?_
  refine wc_seq ?_
  refine wc_seq ?_
  refine wc_region ?_
  refine wl_hload (i := 1) (by decide) Try.sc22 rfl hp rfl rfl ?_
  have hcl := check_ok h
  refine wl_call (by decide) Try.cl12 rfl hcl ?_
  clear hcl
  rintro _ w3 ⟨rfl, hE3⟩
  replace h := h.ext hE3
  replace hf := hf.ext hE3
  replace hp := hp.ext hE3
  refine wl_assign (by decide) rfl ?_
  refine wl_nil ?_
  refine wk_norm ?_
  refine wc_seq ?_
  refine wc_region ?_
  refine wl_move (by decide) rfl ?_
  refine wl_neq (by decide) rfl rfl ?_
  refine wl_nil ?_
  refine wk_norm ?_
  refine wc_cond rfl (fun hq => ?_) (fun hq => ?_)
  ·
    try replace hq := of_decide_eq_true hq
    refine wc_seq ?_
    refine wc_region ?_
    refine wl_move (by decide) rfl ?_
    refine wl_assign (by decide) rfl ?_
    refine wl_assign (by decide) rfl ?_
    refine wl_assign (by decide) rfl ?_
    refine wl_nil ?_
    refine wk_norm ?_
    refine wc_ret ?_
    refine wk_then_ret ?_
    refine wk_post3 (.inl rfl) Try.results17 rfl rfl rfl ?_
    exact ⟨_, rfl, none, 0, by rw [ordS_bad hq]; rfl, by rw [ordS_bad hq]; exact GS.nil _ _ _ _ _, hp.chg⟩
  ·
    try replace hq := of_decide_eq_false hq
    replace hq : chkH H = 0 := Decidable.not_not.1 hq
    have hl14 := (chkH_zero H).1 hq |>.1
    refine wc_skip ?_
    refine wk_norm ?_
    refine wc_seq ?_
    refine wc_region ?_
    refine wl_hload (i := 1) (by decide) Try.sc22 rfl hp rfl rfl ?_
    have hcl := ahead_ok h hl14
    refine wl_call (by decide) Try.cl31 rfl hcl ?_
    clear hcl
    rintro _ wa ⟨AB, cB, rfl, hbo, hEa⟩
    have hbf : IS _ _ AB cB (befL H) := OwnRow.gs1 hbo
    have hsz4 := hp.chg.size
    obtain ⟨Fz4, hp4, hsub4, hnew4, hup4⟩ := hp.frz hEa
    replace hp := hp4
    replace h := (h.ext hEa).wid hsub4
    replace hf := (hf.ext hEa).wid hsub4
    replace hbf := hbf.frz hnew4
    refine wl_move (by decide) rfl ?_
    refine wl_extract (by decide) rfl rfl ?_
    refine wl_extract (by decide) rfl rfl ?_
    refine wl_halloc (z := .slice none 0 0) (by decide) (by kernel_rfl) hp ?_
    rintro gs8 w5 hp5 hE5
    replace h := h.ext hE5
    replace hf := hf.ext hE5
    replace hbf := hbf.ext hE5
    replace hp := hp5
    refine wl_halloc (z := .int .i64 0) (by decide) (by kernel_rfl) hp ?_
    rintro gs9 w6 hp6 hE6
    replace h := h.ext hE6
    replace hf := hf.ext hE6
    replace hbf := hbf.ext hE6
    replace hp := hp6
    refine wl_hstore (i := 1) rfl rfl hp rfl Try.sz33 (Nat.le_of_ble_eq_true rfl) (List.all_eq_true.1 rfl) ?_
    rintro w7 hp7 hC7
    replace h := h.fz hC7
    replace hf := hf.fz hC7
    replace hbf := hbf.fz hC7
    replace hp := hp7
    refine wl_hstore (i := 0) rfl rfl hp rfl Try.sz3 (Nat.le_of_ble_eq_true rfl) (List.all_eq_true.1 rfl) ?_
    rintro w8 hp8 hC8
    replace h := h.fz hC8
    replace hf := hf.fz hC8
    replace hbf := hbf.fz hC8
    replace hp := hp8
    refine wl_nil ?_
    refine wk_norm ?_
    refine wc_seq ?_
    refine wc_region ?_
    refine wl_hmakeMap (P := Try.prog) (k := 62) (by decide) hp ?_
    rintro gm wm hpm hEm
    replace h := h.ext hEm
    replace hf := hf.ext hEm
    replace hbf := hbf.ext hEm
    replace hp := hpm
    refine wl_halloc (z := .map none) (by decide) (by kernel_rfl) hp ?_
    rintro gs10 w9 hp9 hE9
    replace h := h.ext hE9
    replace hf := hf.ext hE9
    replace hbf := hbf.ext hE9
    replace hp := hp9
    refine wl_hstore (i := 0) rfl rfl hp rfl Try.sz59 (Nat.le_of_ble_eq_true rfl) (List.all_eq_true.1 rfl) ?_
    rintro w10 hp10 hC10
    replace h := h.fz hC10
    replace hf := hf.fz hC10
    replace hbf := hbf.fz hC10
    replace hp := hp10
    refine wl_nil ?_
    refine wk_norm ?_
    refine wc_seq ?_
    refine wc_region ?_
    refine wl_halloc (z := .slice none 0 0) (by decide) (by kernel_rfl) hp ?_
    rintro gs11 w11 hp11 hE11
    replace h := h.ext hE11
    replace hf := hf.ext hE11
    replace hbf := hbf.ext hE11
    replace hp := hp11
    refine wl_nil ?_
    refine wk_norm ?_
    refine wc_seq ?_
    refine wc_region ?_
    refine wl_halloc (z := .nilFunc) (by decide) (by kernel_rfl) hp ?_
    rintro gs12 w12 hp12 hE12
    replace h := h.ext hE12
    replace hf := hf.ext hE12
    replace hbf := hbf.ext hE12
    replace hp := hp12
    refine wl_nil ?_
    refine wk_norm ?_
    refine wc_seq ?_
    refine wc_region ?_
    refine wl_makeFunc (first := []) (cap := [.tmp 9, .tmp 10, .tmp 3, .tmp 2, .tmp 8, .tmp 11, .tmp 12]) (by decide) rfl rfl ?_
    refine wl_hstore (i := 0) rfl rfl hp rfl Try.sz60 (Nat.le_of_ble_eq_true rfl) (List.all_eq_true.1 rfl) ?_
    rintro w13 hp13 hC13
    replace h := h.fz hC13
    replace hf := hf.fz hC13
    replace hbf := hbf.fz hC13
    replace hp := hp13
    replace hp := hp.noRow 3 1
    refine wl_nil ?_
    refine wk_norm ?_
    refine wc_seq ?_
    refine wc_seq ?_
    refine wc_region ?_
    refine wl_hload (i := 1) (by decide) Try.sc60 rfl hp rfl rfl ?_
    refine wl_built (ps := [(0, .const (.int .i64 0)), (1, .const (.int .i64 (-1)))]) (by decide) Try.bld62 rfl rfl ?_
    have hpk : HP w (fun _ => False) _ _ [_, _, _, _, _, _, _, _, _] := hp.pick [2, 0, 4, 5, 3, 7, 8, 6, 1] (by decide) rfl (by
      intro k j hkj
      match k, hkj with
      | 0, h => cases h; exact ⟨rfl, Nat.le_of_ble_eq_true rfl⟩
      | 1, h => cases h; exact ⟨rfl, Nat.le_of_ble_eq_true rfl⟩
      | 2, h => cases h; exact ⟨rfl, Nat.le_of_ble_eq_true rfl⟩
      | 3, h => cases h; exact ⟨rfl, Nat.le_of_ble_eq_true rfl⟩
      | 4, h => cases h; exact ⟨rfl, Nat.le_of_ble_eq_true rfl⟩
      | 5, h => cases h; exact ⟨rfl, Nat.le_of_ble_eq_true rfl⟩
      | 6, h => cases h; exact ⟨rfl, Nat.le_of_ble_eq_true rfl⟩
      | 7, h => cases h; exact ⟨rfl, Nat.le_of_ble_eq_true rfl⟩
      | 8, h => cases h; exact ⟨rfl, Nat.le_of_ble_eq_true rfl⟩
      | k + 9, h => simp at h)
    have hcl := pfind_all (H := H) (first := first) hl14 _ w _ (fun _ => False) _ [] (fun _ => none) [] (-1) A0 A1 AB none c0 c1 cB 0 gs9 gs10 gs3 gs2 gs8 gs11 gs12 gm hpk h hf hbf ⟨by simp, by simp⟩ ⟨by omega, by omega⟩ (by intro key v hk; cases hk) (by intro t ht; simp at ht) (Nat.le_refl _)
    refine wl_callv (f := 32) (first := []) (by decide) Try.cl32 rfl rfl hcl ?_
    clear hcl
    rintro _ we ⟨b, f5, AO5, cO5, Fz5, r5, rfl, hp5, hs5, hC5, hT15, hG5⟩
    replace h := (h.fz hC5).wid hs5
    replace hf := (hf.fz hC5).wid hs5
    replace hbf := (hbf.fz hC5).wid hs5
    replace hp := hp5
    first | refine wl_notd (by decide) rfl ?_ | refine wl_not (by decide) rfl ?_
    refine wl_nil ?_
    refine wk_norm ?_
    refine wc_cond rfl (fun hb => ?_) (fun hb => ?_)
    ·
      try replace hb := of_decide_eq_true hb
      refine wc_seq ?_
      refine wc_region ?_
      refine wl_assign (by decide) rfl ?_
      refine wl_assign (by decide) rfl ?_
      refine wl_assign (by decide) rfl ?_
      refine wl_nil ?_
      refine wk_norm ?_
      refine wc_ret ?_
      refine wk_then_ret ?_
      refine wk_post3 (.inl rfl) Try.results17 rfl rfl rfl ?_
      cases hg : G H first 0 (-1) with
      | none => rw [ordS_none hq hg]; exact ⟨_, rfl, none, 0, rfl, GS.nil _ _ _ _ _, hp.chg⟩
      | some r =>
        rw [show bitsS [] = 0 from rfl, hg] at hG5
        rw [hG5.1] at hb
        simp at hb
    ·
      try replace hb := of_decide_eq_false hb
      refine wc_skip ?_
      refine wk_norm ?_
      refine wc_seq ?_
      refine wc_region ?_
      refine wl_hload (i := 0) (by decide) Try.sc33 rfl hp rfl rfl ?_
      refine wl_assign (by decide) rfl ?_
      refine wl_assign (by decide) rfl ?_
      refine wl_assign (by decide) rfl ?_
      refine wl_nil ?_
      refine wk_norm ?_
      refine wc_ret ?_
      refine wk_post3 (.inl rfl) Try.results17 rfl rfl rfl ?_
      cases hg : G H first 0 (-1) with
      | none =>
        rw [show bitsS [] = 0 from rfl, hg] at hG5
        rw [hG5.1] at hb
        simp at hb
      | some r =>
        rw [show bitsS [] = 0 from rfl, hg] at hG5
        rw [ordS_some hq hg]
        have hqr : r5 = r := by rw [hG5.2]; rfl
        subst hqr
        have hro := hp.rowAt (i := 1) rfl
        have hgs : IS (fun _ => True) _ AO5 cO5 (nats r5) := (OwnRow.gs1 (enc := fun z : Int => .int .i64 z) (by rw [nats_len]; exact hro)).any
        exact ⟨_, rfl, AO5, cO5, by rw [nats_len], hgs, hp.chg⟩

theorem plinear_ok {A0 A1 : Option Addr} {c0 c1 : Nat} {H : List HOp} {first : List UInt8} {S S2 : Nat → Prop} {w : World} (h : HS S w A0 c0 H) (hf : BS S2 w A1 c1 first) : Ret Try.prog 19 #[.slice A0 H.length c0, .slice A1 first.length c1] w (fun v w' => v = .tuple #[.bool (ordS H first).2.1, .int .i64 (ordS H first).2.2] ∧ Ext w w') := by
  refine ret_of_wk Try.func19 rfl Try.ntmps19 (Nat.le_of_ble_eq_true rfl) ?_
  refine wc_seq ?_
  refine wc_region ?_
  refine wl_assign (by decide) rfl ?_
  refine wl_assign (by decide) rfl ?_
  refine wl_nil ?_
  refine wk_norm ?_
  refine wc_seq ?_
  refine wc_region ?_
  refine wl_move (by decide) rfl ?_
  refine wl_move (by decide) rfl ?_
  have hcl := porder_ok h hf
  refine wl_call (by decide) Try.cl17 rfl hcl ?_
  clear hcl
  rintro _ w1 ⟨A, c, rfl, ho, hE⟩
  refine wl_move (by decide) rfl ?_
  refine wl_extract (by decide) rfl rfl ?_
  refine wl_extract (by decide) rfl rfl ?_
  refine wl_extract (by decide) rfl rfl ?_
  refine wl_assign (by decide) rfl ?_
  refine wl_assign (by decide) rfl ?_
  refine wl_assign (by decide) rfl ?_
  refine wl_nil ?_
  refine wk_norm ?_
  refine wc_seq ?_
  refine wc_region ?_
  refine wl_move (by decide) rfl ?_
  refine wl_move (by decide) rfl ?_
  refine wl_assign (by decide) rfl ?_
  refine wl_assign (by decide) rfl ?_
  refine wl_nil ?_
  refine wk_norm ?_
  refine wc_ret ?_
  refine wk_post2 (.inl rfl) Try.results19 rfl rfl ?_
  exact ⟨_, rfl, rfl, hE⟩

end Go.Proofs.Ytnlpibfdobinoaa
