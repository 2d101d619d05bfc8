/- Lnv (printed by program: wip/gen) -/
import Derived.Test.YtnlpibfdobinoaaLnu
namespace Go.Proofs.Ytnlpibfdobinoaa
open Go.RowKit Go.Eng

theorem ordS_err (H : List HOp) (first : List UInt8) : (ordS H first).2.2 = chkH H := by
  by_cases h : chkH H = 0
  · cases hg : G H first 0 (-1) with
    | none => rw [ordS_none h hg, h]
    | some r => rw [ordS_some h hg, h]
  · rw [ordS_bad h]
theorem ordS_is {H : List HOp} {first : List UInt8} (h : chkH H = 0) : (ordS H first).2.1 = linB H first := by
  cases hg : G H first 0 (-1) with
  | none => rw [ordS_none h hg, linB, hg]; rfl
  | some r => rw [ordS_some h hg, linB, hg]; rfl
theorem ordS_yes {H : List HOp} {first : List UInt8} (h : (ordS H first).2.1 = true) : ∃ r, G H first 0 (-1) = some r ∧ ordS H first = (r, true, 0) := by
  by_cases hc : chkH H = 0
  · cases hg : G H first 0 (-1) with
    | none => rw [ordS_none hc hg] at h; cases h
    | some r => exact ⟨r, rfl, ordS_some hc hg⟩
  · rw [ordS_bad hc] at h; cases h
theorem ordS_no {H : List HOp} {first : List UInt8} (h : (ordS H first).2.1 = false) : (ordS H first).1 = [] := by
  by_cases hc : chkH H = 0
  · cases hg : G H first 0 (-1) with
    | none => rw [ordS_none hc hg]
    | some r => rw [ordS_some hc hg] at h; cases h
  · rw [ordS_bad hc]
theorem ordS_bad1 {H : List HOp} {first : List UInt8} (h : (ordS H first).2.2 ≠ 0) : (ordS H first).1 = [] := by
  rw [ordS_err] at h
  rw [ordS_bad h]
theorem ex0 {H : List HOp} {v : List UInt8} {q : List Int} : explR H (fun _ => false) v q = explR H (Nat.testBit 0) v q := explR_congr H (fun k => by simp) v q
theorem ordS_not {H : List HOp} {first : List UInt8} (h : chkH H = 0) (hn : (ordS H first).2.1 = false) (q : List Int) : explR H (fun _ => false) first q = false := by
  cases he : explR H (fun _ => false) first q
  · rfl
  · rw [ordS_is h] at hn
    have := (linB_iff H first).2 ⟨q, he⟩
    rw [hn] at this
    cases this
theorem G_ex {H : List HOp} {first : List UInt8} {r : List Nat} (h : G H first 0 (-1) = some r) : explR H (fun _ => false) first (nats r) = true := by
  have := G_explains H first r 0 (-1) h
  rw [show valueOf H first (-1) = first by simp [valueOf]] at this
  rw [ex0]
  exact this

theorem lineOrder_ok {A B : Option Addr} {c d : Nat} {H : List HOp} {first : List UInt8} {S S2 : Nat → Prop} {w : World} (h : HS S w A c H) (hbd : H.length * 48 ≤ 140737488355328) (hf : BS S2 w B d first) : Ret Try.prog 3 #[.slice A H.length c, .slice B first.length d] w (fun v w' => v = .bool true ∧ Ext w w') := by
  replace h := h.any
  replace hf := hf.any
  refine ret_of_wk Try.func3 rfl Try.ntmps3 (Nat.le_of_ble_eq_true rfl) ?_
  have hEc : Ext w w := Chg.refl _ _
  refine wc_seq ?_
  refine wc_region ?_
  refine wl_assign (by decide) rfl ?_
  refine wl_nil ?_
  refine wk_norm ?_
  refine wc_seq ?_
  refine wc_region ?_
  refine wl_move (by decide) rfl ?_
  have hcl := copied_ok h hbd
  refine wl_call (by decide) Try.cl10 rfl hcl ?_
  clear hcl
  rintro _ wm1 ⟨Am1, cm1, rfl, hO1, hEm1⟩
  replace hO1 := hO1.gs.any
  replace h := h.ext hEm1
  replace hf := hf.ext hEm1
  replace hEc := hEc.trans hEm1
  refine wl_move (by decide) rfl ?_
  have hcl := copyBytes_ok hf
  refine wl_call (by decide) Try.cl11 rfl hcl ?_
  clear hcl
  rintro _ w1 ⟨A1, c1, rfl, ho1, hE1⟩
  replace ho1 := ho1.bs.any
  replace h := h.ext hE1
  replace hf := hf.ext hE1
  replace hO1 := hO1.ext hE1
  replace hEc := hEc.trans hE1
  refine wl_assign (by decide) rfl ?_
  refine wl_assign (by decide) rfl ?_
  refine wl_nil ?_
  refine wk_norm ?_
  refine wc_seq ?_
  refine wc_seq ?_
  refine wc_region ?_
  refine wl_move (by decide) rfl ?_
  have hcl := check_ok hO1
  refine wl_call (by decide) Try.cl12 rfl hcl ?_
  clear hcl
  rintro _ w2 ⟨rfl, hE2⟩
  replace h := h.ext hE2
  replace hf := hf.ext hE2
  replace hO1 := hO1.ext hE2
  replace ho1 := ho1.ext hE2
  replace hEc := hEc.trans hE2
  refine wl_move (by decide) rfl ?_
  have hcl := meant_ok h hbd
  refine wl_call (by decide) Try.cl14 rfl hcl ?_
  clear hcl
  rintro _ wm2 ⟨Am2, cm2, rfl, hO2, hEm2⟩
  replace hO2 := hO2.gs.any
  replace h := h.ext hEm2
  replace hf := hf.ext hEm2
  replace hO1 := hO1.ext hEm2
  replace ho1 := ho1.ext hEm2
  replace hEc := hEc.trans hEm2
  have hcl := rcheck_ok hO2
  refine wl_call (by decide) Try.cl13 rfl hcl ?_
  clear hcl
  rintro _ w3 ⟨rfl, hE3⟩
  replace h := h.ext hE3
  replace hf := hf.ext hE3
  replace hO1 := hO1.ext hE3
  replace ho1 := ho1.ext hE3
  replace hO2 := hO2.ext hE3
  replace hEc := hEc.trans hE3
  refine wl_neq (by decide) rfl rfl ?_
  refine wl_re (k := 26) (v := .bool false) rfl (congrArg Value.bool (decide_eq_false (by simp))) ?_
  refine wl_nil ?_
  refine wk_norm ?_
  refine wc_cond_f rfl ?_
  refine wc_skip ?_
  refine wk_norm ?_
  refine wc_seq ?_
  refine wc_seq ?_
  refine wc_region ?_
  refine wl_move (by decide) rfl ?_
  refine wl_len (by decide) Try.underlying22 rfl ?_
  refine wl_gtr (by decide) rfl rfl ?_
  refine wl_nil ?_
  refine wk_norm ?_
  refine wc_cond rfl (fun hc1 => ?_) (fun hc1 => ?_)
  ·
    try replace hc1 := of_decide_eq_true hc1
    refine wc_seq ?_
    refine wc_region ?_
    refine wl_move (by decide) rfl ?_
    refine wl_move (by decide) rfl ?_
    have hcl := same_ok hO1 h
    refine wl_call (by decide) Try.cl15 rfl hcl ?_
    clear hcl
    rintro _ w4 ⟨rfl, hE4⟩
    replace h := h.ext hE4
    replace hf := hf.ext hE4
    replace hO1 := hO1.ext hE4
    replace ho1 := ho1.ext hE4
    replace hO2 := hO2.ext hE4
    replace hEc := hEc.trans hE4
    refine wl_re (k := 32) (v := .bool true) rfl (congrArg Value.bool (decide_eq_true (by rfl))) ?_
    refine wl_move (by decide) rfl ?_
    refine wl_gyes rfl rfl ?_
    refine wl_call (by decide) Try.cl16 rfl (works28_ok) ?_
    rintro _ w5 ⟨rfl, hE5⟩
    replace h := h.ext hE5
    replace hf := hf.ext hE5
    replace hO1 := hO1.ext hE5
    replace ho1 := ho1.ext hE5
    replace hO2 := hO2.ext hE5
    replace hEc := hEc.trans hE5
    refine wl_pick (by decide) rfl rfl ?_
    refine wl_assign (by decide) rfl ?_
    refine wl_nil ?_
    refine wk_norm ?_
    refine wc_ret ?_
    refine wk_then_ret ?_
    refine wk_post1 (.inl rfl) Try.results3 rfl ?_
    exact ⟨_, rfl, rfl, hEc⟩
  ·
    try replace hc1 := of_decide_eq_false hc1
    refine wc_skip ?_
    refine wk_norm ?_
    refine wc_seq ?_
    refine wc_region ?_
    refine wl_move (by decide) rfl ?_
    refine wl_move (by decide) rfl ?_
    have hcl := porder_ok hO1 ho1
    refine wl_call (by decide) Try.cl17 rfl hcl ?_
    clear hcl
    rintro _ w6 ⟨A6, c6, rfl, ho6, hE6⟩
    replace h := h.ext hE6
    replace hf := hf.ext hE6
    replace hO1 := hO1.ext hE6
    replace ho1 := ho1.ext hE6
    replace hO2 := hO2.ext hE6
    replace hEc := hEc.trans hE6
    refine wl_move (by decide) rfl ?_
    refine wl_extract (by decide) rfl rfl ?_
    refine wl_extract (by decide) rfl rfl ?_
    refine wl_extract (by decide) rfl rfl ?_
    refine wl_assign (by decide) rfl ?_
    refine wl_assign (by decide) rfl ?_
    refine wl_assign (by decide) rfl ?_
    refine wl_nil ?_
    refine wk_norm ?_
    refine wc_seq ?_
    refine wc_region ?_
    refine wl_move (by decide) rfl ?_
    have hcl := meant_ok h hbd
    refine wl_call (by decide) Try.cl14 rfl hcl ?_
    clear hcl
    rintro _ wm3 ⟨Am3, cm3, rfl, hO3, hEm3⟩
    replace hO3 := hO3.gs.any
    replace h := h.ext hEm3
    replace hf := hf.ext hEm3
    replace hO1 := hO1.ext hEm3
    replace ho1 := ho1.ext hEm3
    replace hO2 := hO2.ext hEm3
    replace ho6 := ho6.ext hEm3
    replace hEc := hEc.trans hEm3
    refine wl_move (by decide) rfl ?_
    have hcl := rorder_ok hO3 hf
    refine wl_call (by decide) Try.cl18 rfl hcl ?_
    clear hcl
    rintro _ w7 ⟨A7, c7, rfl, ho7, hE7⟩
    replace h := h.ext hE7
    replace hf := hf.ext hE7
    replace hO1 := hO1.ext hE7
    replace ho1 := ho1.ext hE7
    replace hO2 := hO2.ext hE7
    replace ho6 := ho6.ext hE7
    replace hO3 := hO3.ext hE7
    replace hEc := hEc.trans hE7
    refine wl_move (by decide) rfl ?_
    refine wl_extract (by decide) rfl rfl ?_
    refine wl_extract (by decide) rfl rfl ?_
    refine wl_extract (by decide) rfl rfl ?_
    refine wl_assign (by decide) rfl ?_
    refine wl_assign (by decide) rfl ?_
    refine wl_assign (by decide) rfl ?_
    refine wl_nil ?_
    refine wk_norm ?_
    refine wc_seq ?_
    refine wc_region ?_
    refine wl_move (by decide) rfl ?_
    refine wl_move (by decide) rfl ?_
    have hcl := plinear_ok hO1 ho1
    refine wl_call (by decide) Try.cl19 rfl hcl ?_
    clear hcl
    rintro _ w8 ⟨rfl, hE8⟩
    replace h := h.ext hE8
    replace hf := hf.ext hE8
    replace hO1 := hO1.ext hE8
    replace ho1 := ho1.ext hE8
    replace hO2 := hO2.ext hE8
    replace ho6 := ho6.ext hE8
    replace hO3 := hO3.ext hE8
    replace ho7 := ho7.ext hE8
    replace hEc := hEc.trans hE8
    refine wl_move (by decide) rfl ?_
    refine wl_extract (by decide) rfl rfl ?_
    refine wl_extract (by decide) rfl rfl ?_
    refine wl_assign (by decide) rfl ?_
    refine wl_assign (by decide) rfl ?_
    refine wl_nil ?_
    refine wk_norm ?_
    refine wc_seq ?_
    refine wc_region ?_
    refine wl_move (by decide) rfl ?_
    have hcl := meant_ok h hbd
    refine wl_call (by decide) Try.cl14 rfl hcl ?_
    clear hcl
    rintro _ wm4 ⟨Am4, cm4, rfl, hO4, hEm4⟩
    replace hO4 := hO4.gs.any
    replace h := h.ext hEm4
    replace hf := hf.ext hEm4
    replace hO1 := hO1.ext hEm4
    replace ho1 := ho1.ext hEm4
    replace hO2 := hO2.ext hEm4
    replace ho6 := ho6.ext hEm4
    replace hO3 := hO3.ext hEm4
    replace ho7 := ho7.ext hEm4
    replace hEc := hEc.trans hEm4
    refine wl_move (by decide) rfl ?_
    have hcl := rlinear_ok hO4 hf
    refine wl_call (by decide) Try.cl20 rfl hcl ?_
    clear hcl
    rintro _ w9 ⟨rfl, hE9⟩
    replace h := h.ext hE9
    replace hf := hf.ext hE9
    replace hO1 := hO1.ext hE9
    replace ho1 := ho1.ext hE9
    replace hO2 := hO2.ext hE9
    replace ho6 := ho6.ext hE9
    replace hO3 := hO3.ext hE9
    replace ho7 := ho7.ext hE9
    replace hO4 := hO4.ext hE9
    replace hEc := hEc.trans hE9
    refine wl_move (by decide) rfl ?_
    refine wl_extract (by decide) rfl rfl ?_
    refine wl_extract (by decide) rfl rfl ?_
    refine wl_assign (by decide) rfl ?_
    refine wl_assign (by decide) rfl ?_
    refine wl_nil ?_
    refine wk_norm ?_
    refine wc_seq ?_
    refine wc_region ?_
    refine wl_move (by decide) rfl ?_
    refine wl_move (by decide) rfl ?_
    have hcl := eqInts_ok ho6 ho7
    refine wl_call (by decide) Try.cl21 rfl hcl ?_
    clear hcl
    rintro _ w10 ⟨rfl, hE10⟩
    replace h := h.ext hE10
    replace hf := hf.ext hE10
    replace hO1 := hO1.ext hE10
    replace ho1 := ho1.ext hE10
    replace hO2 := hO2.ext hE10
    replace ho6 := ho6.ext hE10
    replace hO3 := hO3.ext hE10
    replace ho7 := ho7.ext hE10
    replace hO4 := hO4.ext hE10
    replace hEc := hEc.trans hE10
    refine wl_re (k := 66) (v := .bool true) rfl (congrArg Value.bool (decide_eq_true (by rfl))) ?_
    refine wl_move (by decide) rfl ?_
    refine wl_gyes rfl rfl ?_
    refine wl_move (by decide) rfl ?_
    refine wl_gyes rfl rfl ?_
    refine wl_move (by decide) rfl ?_
    refine wl_gyes rfl rfl ?_
    refine wl_eqlb (by decide) Try.bo4 rfl rfl ?_
    refine wl_re (k := 70) (v := .bool true) rfl (congrArg Value.bool (decide_eq_true (by rfl))) ?_
    refine wl_pick (by decide) rfl rfl ?_
    refine wl_move (by decide) rfl ?_
    refine wl_gyes rfl rfl ?_
    refine wl_move (by decide) rfl ?_
    refine wl_gyes rfl rfl ?_
    refine wl_move (by decide) rfl ?_
    refine wl_gyes rfl rfl ?_
    refine wl_eql (by decide) rfl rfl ?_
    refine wl_re (k := 75) (v := .bool true) rfl (congrArg Value.bool (decide_eq_true (by rfl))) ?_
    refine wl_pick (by decide) rfl rfl ?_
    refine wl_move (by decide) rfl ?_
    refine wl_gyes rfl rfl ?_
    refine wl_move (by decide) rfl ?_
    refine wl_gyes rfl rfl ?_
    refine wl_move (by decide) rfl ?_
    refine wl_gyes rfl rfl ?_
    refine wl_eqlb (by decide) Try.bo4 rfl rfl ?_
    refine wl_re (k := 80) (v := .bool true) rfl (congrArg Value.bool (decide_eq_true (by rfl))) ?_
    refine wl_pick (by decide) rfl rfl ?_
    refine wl_move (by decide) rfl ?_
    refine wl_gyes rfl rfl ?_
    refine wl_move (by decide) rfl ?_
    refine wl_gyes rfl rfl ?_
    refine wl_move (by decide) rfl ?_
    refine wl_gyes rfl rfl ?_
    refine wl_eql (by decide) rfl rfl ?_
    refine wl_re (k := 85) (v := .bool true) rfl (congrArg Value.bool (decide_eq_true (by rfl))) ?_
    refine wl_pick (by decide) rfl rfl ?_
    refine wl_move (by decide) rfl ?_
    refine wl_gyes rfl rfl ?_
    refine wl_move (by decide) rfl ?_
    refine wl_gyes rfl rfl ?_
    refine wl_move (by decide) rfl ?_
    refine wl_gyes rfl rfl ?_
    have hcl := same_ok hO1 h
    refine wl_call (by decide) Try.cl15 rfl hcl ?_
    clear hcl
    rintro _ w11 ⟨rfl, hE11⟩
    replace h := h.ext hE11
    replace hf := hf.ext hE11
    replace hO1 := hO1.ext hE11
    replace ho1 := ho1.ext hE11
    replace hO2 := hO2.ext hE11
    replace ho6 := ho6.ext hE11
    replace hO3 := hO3.ext hE11
    replace ho7 := ho7.ext hE11
    replace hO4 := hO4.ext hE11
    replace hEc := hEc.trans hE11
    refine wl_re (k := 90) (v := .bool true) rfl (congrArg Value.bool (decide_eq_true (by rfl))) ?_
    refine wl_pick (by decide) rfl rfl ?_
    refine wl_move (by decide) rfl ?_
    refine wl_gyes rfl rfl ?_
    refine wl_move (by decide) rfl ?_
    refine wl_gyes rfl rfl ?_
    refine wl_move (by decide) rfl ?_
    refine wl_gyes rfl rfl ?_
    have hcl := eqBytes_ok ho1 hf
    refine wl_call (by decide) Try.cl22 rfl hcl ?_
    clear hcl
    rintro _ w12 ⟨rfl, hE12⟩
    replace h := h.ext hE12
    replace hf := hf.ext hE12
    replace hO1 := hO1.ext hE12
    replace ho1 := ho1.ext hE12
    replace hO2 := hO2.ext hE12
    replace ho6 := ho6.ext hE12
    replace hO3 := hO3.ext hE12
    replace ho7 := ho7.ext hE12
    replace hO4 := hO4.ext hE12
    replace hEc := hEc.trans hE12
    refine wl_re (k := 95) (v := .bool true) rfl (congrArg Value.bool (decide_eq_true (by rfl))) ?_
    refine wl_pick (by decide) rfl rfl ?_
    refine wl_move (by decide) rfl ?_
    refine wl_gyes rfl rfl ?_
    refine wl_call (by decide) Try.cl16 rfl (works28_ok) ?_
    rintro _ w13 ⟨rfl, hE13⟩
    replace h := h.ext hE13
    replace hf := hf.ext hE13
    replace hO1 := hO1.ext hE13
    replace ho1 := ho1.ext hE13
    replace hO2 := hO2.ext hE13
    replace ho6 := ho6.ext hE13
    replace hO3 := hO3.ext hE13
    replace ho7 := ho7.ext hE13
    replace hO4 := hO4.ext hE13
    replace hEc := hEc.trans hE13
    refine wl_pick (by decide) rfl rfl ?_
    refine wl_assign (by decide) rfl ?_
    refine wl_nil ?_
    refine wk_norm ?_
    refine wc_ret ?_
    refine wk_post1 (.inl rfl) Try.results3 rfl ?_
    exact ⟨_, rfl, rfl, hEc⟩

theorem lineExplains_ok {A B : Option Addr} {c d : Nat} {H : List HOp} {first : List UInt8} {S S2 : Nat → Prop} {w : World} (h : HS S w A c H) (hf : BS S2 w B d first) : Ret Try.prog 4 #[.slice A H.length c, .slice B first.length d] w (fun v w' => v = .bool true ∧ Ext w w') := by
  replace h := h.any
  replace hf := hf.any
  refine ret_of_wk Try.func4 rfl Try.ntmps4 (Nat.le_of_ble_eq_true rfl) ?_
  have hEc : Ext w w := Chg.refl _ _
  refine wc_seq ?_
  refine wc_region ?_
  refine wl_assign (by decide) rfl ?_
  refine wl_nil ?_
  refine wk_norm ?_
  refine wc_seq ?_
  refine wc_seq ?_
  refine wc_region ?_
  refine wl_call (by decide) Try.cl16 rfl (works28_ok) ?_
  rintro _ w1 ⟨rfl, hE1⟩
  replace h := h.ext hE1
  replace hf := hf.ext hE1
  replace hEc := hEc.trans hE1
  first | refine wl_notd (by decide) rfl ?_ | refine wl_not (by decide) rfl ?_
  refine wl_nil ?_
  refine wk_norm ?_
  refine wc_cond_f rfl ?_
  refine wc_skip ?_
  refine wk_norm ?_
  refine wc_seq ?_
  refine wc_region ?_
  refine wl_move (by decide) rfl ?_
  refine wl_move (by decide) rfl ?_
  have hcl := porder_ok h hf
  refine wl_call (by decide) Try.cl17 rfl hcl ?_
  clear hcl
  rintro _ wo1 ⟨Ao1, co1, rfl, ho, hEo1⟩
  replace h := h.ext hEo1
  replace hf := hf.ext hEo1
  replace hEc := hEc.trans hEo1
  refine wl_move (by decide) rfl ?_
  refine wl_extract (by decide) rfl rfl ?_
  refine wl_extract (by decide) rfl rfl ?_
  refine wl_extract (by decide) rfl rfl ?_
  refine wl_assign (by decide) rfl ?_
  refine wl_assign (by decide) rfl ?_
  refine wl_assign (by decide) rfl ?_
  refine wl_nil ?_
  refine wk_norm ?_
  refine wc_seq ?_
  refine wc_seq ?_
  refine wc_region ?_
  refine wl_move (by decide) rfl ?_
  refine wl_neq (by decide) rfl rfl ?_
  refine wl_move (by decide) rfl ?_
  refine wl_gsplit (dj := 19) rfl (fun he => ?_) (fun he => ?_)
  ·
    try replace he := of_decide_eq_true he
    have hq := ordS_bad1 he
    have hc := ordS_err H first
    refine wl_gno (by decide) rfl rfl (.inl rfl) ?_
    refine wl_gno (by decide) rfl rfl (.inl rfl) ?_
    refine wl_pick (by decide) rfl rfl ?_
    refine wl_nil ?_
    refine wk_norm ?_
    refine wc_cond_t rfl ?_
    refine wc_seq ?_
    refine wc_region ?_
    refine wl_move (by decide) rfl ?_
    refine wl_len (by decide) Try.underlying33 rfl ?_
    refine wl_eql (by decide) rfl rfl ?_
    refine wl_re (k := 25) (v := .bool true) rfl (congrArg Value.bool (decide_eq_true (by rw [hq]; rfl))) ?_
    refine wl_move (by decide) rfl ?_
    refine wl_gyes rfl rfl ?_
    refine wl_move (by decide) rfl ?_
    refine wl_gyes rfl rfl ?_
    refine wl_neq (by decide) rfl rfl ?_
    refine wl_gyes rfl rfl ?_
    refine wl_move (by decide) rfl ?_
    refine wl_gyes rfl rfl ?_
    have hcl := check_ok h
    refine wl_call (by decide) Try.cl12 rfl hcl ?_
    clear hcl
    rintro _ w2 ⟨rfl, hE2⟩
    replace h := h.ext hE2
    replace hf := hf.ext hE2
    replace ho := ho.ext hE2
    replace hEc := hEc.trans hE2
    refine wl_gyes rfl rfl ?_
    refine wl_neq (by decide) rfl rfl ?_
    refine wl_gyes rfl rfl ?_
    refine wl_eqlb (by decide) Try.bo4 rfl rfl ?_
    refine wl_re (k := 32) (v := .bool true) rfl (congrArg Value.bool (decide_eq_true (by rw [hc]))) ?_
    refine wl_pick (by decide) rfl rfl ?_
    refine wl_assign (by decide) rfl ?_
    refine wl_nil ?_
    refine wk_norm ?_
    refine wc_ret ?_
    refine wk_then_ret ?_
    refine wk_post1 (.inl rfl) Try.results4 rfl ?_
    exact ⟨_, rfl, rfl, hEc⟩
  ·
    try replace he := of_decide_eq_false he
    have hc := ordS_err H first
    refine wl_gyes rfl rfl ?_
    refine wl_move (by decide) rfl ?_
    refine wl_gyes rfl rfl ?_
    first | refine wl_notd (by decide) rfl ?_ | refine wl_not (by decide) rfl ?_
    refine wl_pick (by decide) rfl rfl ?_
    refine wl_nil ?_
    refine wk_norm ?_
    refine wc_cond rfl (fun his => ?_) (fun his => ?_)
    ·
      try replace his := of_decide_eq_true his
      replace his : (ordS H first).2.1 = false := by simpa using his
      have hq := ordS_no his
      refine wc_seq ?_
      refine wc_region ?_
      refine wl_move (by decide) rfl ?_
      refine wl_len (by decide) Try.underlying33 rfl ?_
      refine wl_eql (by decide) rfl rfl ?_
      refine wl_re (k := 25) (v := .bool true) rfl (congrArg Value.bool (decide_eq_true (by rw [hq]; rfl))) ?_
      refine wl_move (by decide) rfl ?_
      refine wl_gyes rfl rfl ?_
      refine wl_move (by decide) rfl ?_
      refine wl_gyes rfl rfl ?_
      refine wl_neq (by decide) rfl rfl ?_
      refine wl_gyes rfl rfl ?_
      refine wl_move (by decide) rfl ?_
      refine wl_gyes rfl rfl ?_
      have hcl := check_ok h
      refine wl_call (by decide) Try.cl12 rfl hcl ?_
      clear hcl
      rintro _ w3 ⟨rfl, hE3⟩
      replace h := h.ext hE3
      replace hf := hf.ext hE3
      replace ho := ho.ext hE3
      replace hEc := hEc.trans hE3
      refine wl_gyes rfl rfl ?_
      refine wl_neq (by decide) rfl rfl ?_
      refine wl_gyes rfl rfl ?_
      refine wl_eqlb (by decide) Try.bo4 rfl rfl ?_
      refine wl_re (k := 32) (v := .bool true) rfl (congrArg Value.bool (decide_eq_true (by rw [hc]))) ?_
      refine wl_pick (by decide) rfl rfl ?_
      refine wl_assign (by decide) rfl ?_
      refine wl_nil ?_
      refine wk_norm ?_
      refine wc_ret ?_
      refine wk_then_ret ?_
      refine wk_post1 (.inl rfl) Try.results4 rfl ?_
      exact ⟨_, rfl, rfl, hEc⟩
    ·
      try replace his := of_decide_eq_false his
      replace his : (ordS H first).2.1 = true := by simpa using his
      obtain ⟨r, hG, hz⟩ := ordS_yes his
      have z1 : (ordS H first).1 = r := by rw [hz]
      rw [z1] at ho ⊢
      have hex := G_ex hG
      refine wc_skip ?_
      refine wk_norm ?_
      refine wc_seq ?_
      refine wc_region ?_
      refine wl_move (by decide) rfl ?_
      refine wl_move (by decide) rfl ?_
      refine wl_move (by decide) rfl ?_
      have hcl := explains_ok h hf ho
      refine wl_call (by decide) Try.cl23 rfl hcl ?_
      clear hcl
      rintro _ w4 ⟨rfl, hE4⟩
      replace h := h.ext hE4
      replace hf := hf.ext hE4
      replace ho := ho.ext hE4
      replace hEc := hEc.trans hE4
      refine wl_re (k := 37) (v := .bool true) rfl (congrArg Value.bool hex) ?_
      refine wl_move (by decide) rfl ?_
      refine wl_gyes rfl rfl ?_
      refine wl_move (by decide) rfl ?_
      refine wl_gyes rfl rfl ?_
      refine wl_len (by decide) Try.underlying33 rfl ?_
      refine wl_gyes rfl rfl ?_
      refine wl_eql (by decide) rfl rfl ?_
      refine wl_gyes rfl rfl ?_
      refine wl_move (by decide) rfl ?_
      refine wl_gsplit (dj := 42) rfl (fun h0 => ?_) (fun h0 => ?_)
      ·
        try replace h0 := of_decide_eq_true h0
        refine wl_gno (by decide) rfl rfl (.inl rfl) ?_
        refine wl_gno (by decide) rfl rfl (.inl rfl) ?_
        refine wl_gno (by decide) rfl rfl (.inl rfl) ?_
        refine wl_gno (by decide) rfl rfl (.inl rfl) ?_
        refine wl_gno (by decide) rfl rfl (.inl rfl) ?_
        refine wl_gno (by decide) rfl rfl (.inl rfl) ?_
        refine wl_gno (by decide) rfl rfl (.inl rfl) ?_
        refine wl_gno (by decide) rfl rfl (.inl rfl) ?_
        refine wl_gno (by decide) rfl rfl (.inl rfl) ?_
        refine wl_gno (by decide) rfl rfl (.inl rfl) ?_
        refine wl_gno (by decide) rfl rfl (.inl rfl) ?_
        refine wl_gyes rfl rfl ?_
        refine wl_pick (by decide) rfl rfl ?_
        refine wl_pick (by decide) rfl rfl ?_
        refine wl_assign (by decide) rfl ?_
        refine wl_nil ?_
        refine wk_norm ?_
        refine wc_ret ?_
        refine wk_post1 (.inl rfl) Try.results4 rfl ?_
        exact ⟨_, rfl, rfl, hEc⟩
      ·
        try replace h0 := of_decide_eq_false h0
        have h0r : r ≠ [] := fun e => h0 (by rw [e]; rfl)
        obtain ⟨m, hm⟩ : ∃ m : Nat, r.length = m + 1 := ⟨r.length - 1, by have := List.length_pos_iff.2 h0r; omega⟩
        obtain ⟨aK, hAK, hatK⟩ := GS.el1 ho m (by rw [nats_len]; omega)
        have hmx := ho.mx
        have hnl := nats_len r
        rw [nats_len] at hmx
        obtain ⟨j, hj⟩ : ∃ j, j = r[m]'(by omega) := ⟨_, rfl⟩
        have hrm : (nats r)[m]'(by rw [nats_len]; omega) = (j : Int) := by rw [hj]; simp [nats]
        rw [hrm] at hatK
        have htg := G_tight H first r 0 (-1) hG j (by rw [List.getLast?_eq_getElem?, show r.length - 1 = m by omega, hj]; exact List.getElem?_eq_getElem _)
        obtain ⟨aL, BL, dL, hAL, hatL, hvL⟩ := HS.el h j htg.1
        refine wl_gyes rfl rfl ?_
        refine wl_move (by decide) rfl ?_
        refine wl_gyes rfl rfl ?_
        refine wl_move (by decide) rfl ?_
        refine wl_gyes rfl rfl ?_
        refine wl_move (by decide) rfl ?_
        refine wl_gyes rfl rfl ?_
        refine wl_len (by decide) Try.underlying33 rfl ?_
        refine wl_gyes rfl rfl ?_
        refine wl_sub (by decide) rfl rfl (w64 (by omega) (by omega)) ?_
        refine wl_gyes rfl rfl ?_
        refine wl_idx0 (by decide) Try.sl33 rfl rfl hAK m (by rw [nats_len]; omega) (by rw [nats_len]; omega) ?_
        refine wl_gyes rfl rfl ?_
        refine wl_load (by decide) Try.sc3 rfl hatK.head ?_
        refine wl_gyes rfl rfl ?_
        refine wl_idx0 (by decide) Try.sl22 rfl rfl hAL j rfl htg.1 ?_
        refine wl_gyes rfl rfl ?_
        refine wl_fld (by decide) Try.fld45_3 rfl ?_
        refine wl_gyes rfl rfl ?_
        refine wl_load (by decide) Try.sc3 rfl (hatL.get rfl) ?_
        refine wl_gyes rfl rfl ?_
        refine wl_gtr (by decide) rfl rfl ?_
        refine wl_re (k := 53) (v := .bool true) rfl (congrArg Value.bool (decide_eq_true (by exact htg.2))) ?_
        refine wl_gyes rfl rfl ?_
        refine wl_pick (by decide) rfl rfl ?_
        refine wl_pick (by decide) rfl rfl ?_
        refine wl_assign (by decide) rfl ?_
        refine wl_nil ?_
        refine wk_norm ?_
        refine wc_ret ?_
        refine wk_post1 (.inl rfl) Try.results4 rfl ?_
        exact ⟨_, rfl, rfl, hEc⟩

theorem lineTold_ok {A B C : Option Addr} {c d e : Nat} {H : List HOp} {first : List UInt8} {order : List Int} {S S2 S3 : Nat → Prop} {w : World} (h : HS S w A c H) (hf : BS S2 w B d first) (ho : IS S3 w C e order) : Ret Try.prog 5 #[.slice A H.length c, .slice B first.length d, .slice C order.length e] w (fun v w' => v = .bool true ∧ Ext w w') := by
  replace h := h.any
  replace hf := hf.any
  replace ho := ho.any
  refine ret_of_wk Try.func5 rfl Try.ntmps5 (Nat.le_of_ble_eq_true rfl) ?_
  have hEc : Ext w w := Chg.refl _ _
  refine wc_seq ?_
  refine wc_region ?_
  refine wl_assign (by decide) rfl ?_
  refine wl_nil ?_
  refine wk_norm ?_
  refine wc_seq ?_
  refine wc_seq ?_
  refine wc_region ?_
  refine wl_call (by decide) Try.cl16 rfl (works28_ok) ?_
  rintro _ w1 ⟨rfl, hE1⟩
  replace h := h.ext hE1
  replace hf := hf.ext hE1
  replace ho := ho.ext hE1
  replace hEc := hEc.trans hE1
  first | refine wl_notd (by decide) rfl ?_ | refine wl_not (by decide) rfl ?_
  refine wl_nil ?_
  refine wk_norm ?_
  refine wc_cond_f rfl ?_
  refine wc_skip ?_
  refine wk_norm ?_
  refine wc_seq ?_
  refine wc_seq ?_
  refine wc_region ?_
  refine wl_move (by decide) rfl ?_
  have hcl := check_ok h
  refine wl_call (by decide) Try.cl12 rfl hcl ?_
  clear hcl
  rintro _ w2 ⟨rfl, hE2⟩
  replace h := h.ext hE2
  replace hf := hf.ext hE2
  replace ho := ho.ext hE2
  replace hEc := hEc.trans hE2
  refine wl_neq (by decide) rfl rfl ?_
  refine wl_nil ?_
  refine wk_norm ?_
  refine wc_cond rfl (fun hck => ?_) (fun hck => ?_)
  ·
    try replace hck := of_decide_eq_true hck
    refine wc_seq ?_
    refine wc_region ?_
    refine wl_assign (by decide) rfl ?_
    refine wl_nil ?_
    refine wk_norm ?_
    refine wc_ret ?_
    refine wk_then_ret ?_
    refine wk_post1 (.inl rfl) Try.results5 rfl ?_
    exact ⟨_, rfl, rfl, hEc⟩
  ·
    try replace hck := of_decide_eq_false hck
    replace hck : chkH H = 0 := Decidable.not_not.1 hck
    refine wc_skip ?_
    refine wk_norm ?_
    refine wc_seq ?_
    refine wc_region ?_
    refine wl_move (by decide) rfl ?_
    refine wl_move (by decide) rfl ?_
    have hcl := plinear_ok h hf
    refine wl_call (by decide) Try.cl19 rfl hcl ?_
    clear hcl
    rintro _ w3 ⟨rfl, hE3⟩
    replace h := h.ext hE3
    replace hf := hf.ext hE3
    replace ho := ho.ext hE3
    replace hEc := hEc.trans hE3
    refine wl_move (by decide) rfl ?_
    refine wl_extract (by decide) rfl rfl ?_
    refine wl_extract (by decide) rfl rfl ?_
    refine wl_assign (by decide) rfl ?_
    refine wl_assign (by decide) rfl ?_
    refine wl_nil ?_
    refine wk_norm ?_
    refine wc_seq ?_
    refine wc_region ?_
    refine wl_move (by decide) rfl ?_
    refine wl_eql (by decide) rfl rfl ?_
    refine wl_re (k := 21) (v := .bool true) rfl (congrArg Value.bool (decide_eq_true (by rw [ordS_err]; exact hck))) ?_
    refine wl_move (by decide) rfl ?_
    refine wl_gyes rfl rfl ?_
    refine wl_move (by decide) rfl ?_
    refine wl_gyes rfl rfl ?_
    refine wl_move (by decide) rfl ?_
    refine wl_gsplit (dj := 24) rfl (fun his => ?_) (fun his => ?_)
    ·
      try replace his := of_decide_eq_true his
      refine wl_gno (by decide) rfl rfl (.inl rfl) ?_
      refine wl_gno (by decide) rfl rfl (.inl rfl) ?_
      refine wl_gno (by decide) rfl rfl (.inl rfl) ?_
      refine wl_gno (by decide) rfl rfl (.inl rfl) ?_
      refine wl_gno (by decide) rfl rfl (.inl rfl) ?_
      refine wl_gyes rfl rfl ?_
      refine wl_pick (by decide) rfl rfl ?_
      refine wl_pick (by decide) rfl rfl ?_
      refine wl_assign (by decide) rfl ?_
      refine wl_nil ?_
      refine wk_norm ?_
      refine wc_ret ?_
      refine wk_post1 (.inl rfl) Try.results5 rfl ?_
      exact ⟨_, rfl, rfl, hEc⟩
    ·
      try replace his := of_decide_eq_false his
      refine wl_gyes rfl rfl ?_
      refine wl_move (by decide) rfl ?_
      refine wl_gyes rfl rfl ?_
      refine wl_move (by decide) rfl ?_
      refine wl_gyes rfl rfl ?_
      refine wl_move (by decide) rfl ?_
      refine wl_gyes rfl rfl ?_
      have hcl := explains_ok h hf ho
      refine wl_call (by decide) Try.cl23 rfl hcl ?_
      clear hcl
      rintro _ w4 ⟨rfl, hE4⟩
      replace h := h.ext hE4
      replace hf := hf.ext hE4
      replace ho := ho.ext hE4
      replace hEc := hEc.trans hE4
      refine wl_re (k := 28) (v := .bool false) rfl (congrArg Value.bool (ordS_not hck his _)) ?_
      refine wl_gyes rfl rfl ?_
      first | refine wl_notd (by decide) rfl ?_ | refine wl_not (by decide) rfl ?_
      refine wl_gyes rfl rfl ?_
      refine wl_pick (by decide) rfl rfl ?_
      refine wl_pick (by decide) rfl rfl ?_
      refine wl_assign (by decide) rfl ?_
      refine wl_nil ?_
      refine wk_norm ?_
      refine wc_ret ?_
      refine wk_post1 (.inl rfl) Try.results5 rfl ?_
      exact ⟨_, rfl, rfl, hEc⟩

end Go.Proofs.Ytnlpibfdobinoaa
