/- Lws (printed by program: wip/gen) -/
import Derived.Test.YtifnbemboednaaaBin
import Derived.Test.YtifnbemboednaaaLaw
namespace Go.Proofs.Ytifnbemboednaaa
open Go.RowKit Go.Eng

theorem spoil_ok {A : Option Addr} {c : Nat} {l : List UInt8} {S : Nat → Prop} {lo : Nat} {w : World} (h : BS S w A c l) (hw : Wr lo w A l.length) : Ret Try.prog 23 #[.slice A l.length c] w (fun v w' => v = .tuple #[] ∧ Spl lo w w') := by
  refine ret_of_wk Try.func23 rfl Try.ntmps23 (Nat.le_of_ble_eq_true rfl) ?_
  refine wc_seq ?_
  refine wc_region ?_
  refine wl_assign (by decide) rfl ?_
  refine wl_nil ?_
  refine wk_norm ?_
  refine wc_block ?_
  refine wc_loop (fun L' w' mes => ∃ (k : Nat), L' = [(0, .slice A l.length c), (2, .int .i64 (k : Int))] ∧ (k ≤ l.length) ∧ (Spl lo w w') ∧ l.length - k = mes) [(0, .slice A l.length c), (2, .int .i64 (0 : Int))] (l.length - 0) (by
      refine ⟨0, rfl, ?_, ?_, rfl⟩
      · omega
      · exact Spl.refl _ _) ⟨rfl, rfl, trivial⟩ ?_
  rintro _ wr _ ⟨k, rfl, hk, hS, rfl⟩ KL1 hKL1
  have hmx := h.mx
  refine wc_seq ?_
  refine wc_seq ?_
  refine wc_region ?_
  refine wl_move (by decide) rfl ?_
  refine wl_move (by decide) rfl ?_
  refine wl_len (by decide) Try.underlying22 rfl ?_
  refine wl_lss (by decide) rfl rfl ?_
  refine wl_nil ?_
  refine wk_norm ?_
  refine wc_cond rfl (fun hlt => ?_) (fun hlt => ?_)
  ·
    try replace hlt := of_decide_eq_true hlt
    refine wc_skip ?_
    refine wk_norm ?_
    refine wc_seq ?_
    refine wc_block ?_
    refine wc_region ?_
    refine wl_move (by decide) rfl ?_
    refine wl_move (by decide) rfl ?_
    refine wl_move (by decide) rfl ?_
    refine wl_move (by decide) rfl ?_
    obtain ⟨a, hAa, hla, ⟨x, hcx⟩, hfx⟩ := hS.wr A l.length hw k (by omega)
    refine wl_idx0 (by decide) Try.sl22 rfl rfl hAa k rfl (by omega) ?_
    rw [Nat.mul_one]
    refine wl_load (by decide) Try.sc5 rfl hcx ?_
    refine wl_add (by decide) rfl rfl (wrap_u8 _) ?_
    refine wl_idx0 (by decide) Try.sl22 rfl rfl hAa k rfl (by omega) ?_
    rw [Nat.mul_one]
    refine wl_store (v := bv (u8Of ((x.toNat : Int) + 1))) Try.sz5 rfl rfl rfl hcx hfx ?_
    refine wl_nil ?_
    refine wk_blk_norm ?_
    refine wk_norm ?_
    refine wc_region ?_
    refine wl_move (by decide) rfl ?_
    refine wl_add (by decide) rfl rfl (w64 (by omega) (by omega)) ?_
    refine wl_assign (by decide) rfl ?_
    refine wl_nil ?_
    refine wk_norm ?_
    refine wk_drop [(0, .slice A l.length c), (2, .int .i64 ((k + 1) : Int))] ⟨rfl, rfl, trivial⟩ (hKL1 _ _ (m2 := l.length - (k + 1)) ?_ ?_)
    ·
      refine ⟨(k + 1), rfl, ?_, ?_, rfl⟩
      · omega
      · exact hS.setCell (by rw [block_add]; exact hla) hcx
    · omega
  ·
    try replace hlt := of_decide_eq_false hlt
    refine wc_exit ?_
    refine wk_then_exit ?_
    refine wk_then_exit ?_
    refine wk_blk_exit ?_
    refine wk_post0 (.inr rfl) Try.results23  ?_
    exact ⟨_, rfl, rfl, hS⟩

theorem works_ok {w : World} : Ret Try.prog 24 #[] w (fun v w' => v = .bool true ∧ Ext w w') := by
  refine ret_of_wk Try.func24 rfl Try.ntmps24 (Nat.le_of_ble_eq_true rfl) ?_
  have hEc : Ext w w := Chg.refl _ _
  refine wc_seq ?_
  refine wc_region ?_
  refine wl_assign (by decide) rfl ?_
  refine wl_nil ?_
  refine wk_norm ?_
  refine wc_seq ?_
  refine wc_region ?_
  refine wl_call (by decide) Try.cl17 rfl (num_ok (by decide) (by decide)) ?_
  rintro _ w1 ⟨A1, c1, rfl, ho1, hE1⟩
  have e1 : numS 256 = ([2, 1, 0], 0) := by decide +kernel
  rw [e1] at ho1 ⊢
  replace ho1 := ho1.bs.any
  replace hEc := hEc.trans hE1
  refine wl_move (by decide) rfl ?_
  refine wl_extract (by decide) rfl rfl ?_
  refine wl_extract (by decide) rfl rfl ?_
  refine wl_assign (by decide) rfl ?_
  refine wl_assign (by decide) rfl ?_
  refine wl_nil ?_
  refine wk_norm ?_
  refine wc_seq ?_
  refine wc_region ?_
  refine wl_bsliceB (xs := [.const (.int .u8 170), .const (.int .u8 187)]) (bs := [170, 187]) (by decide) Try.sl22 rfl rfl rfl (by simp) w1.heap.size (Nat.le_refl _) ?_
  rintro g2 w2 hg2 ho2 hE2
  replace ho2 := ho2.bs.any
  replace ho1 := ho1.ext hE2
  replace hEc := hEc.trans hE2
  have hcl := str_ok ho2
  refine wl_call (by decide) Try.cl25 rfl hcl ?_
  clear hcl
  rintro _ w3 ⟨A3, c3, rfl, ho3, hE3⟩
  have e3 : strS [170, 187] = ([1, 2, 170, 187], 0) := by decide +kernel
  rw [e3] at ho3 ⊢
  replace ho3 := ho3.bs.any
  replace ho1 := ho1.ext hE3
  replace ho2 := ho2.ext hE3
  replace hEc := hEc.trans hE3
  refine wl_move (by decide) rfl ?_
  refine wl_extract (by decide) rfl rfl ?_
  refine wl_extract (by decide) rfl rfl ?_
  refine wl_assign (by decide) rfl ?_
  refine wl_assign (by decide) rfl ?_
  refine wl_nil ?_
  refine wk_norm ?_
  refine wc_seq ?_
  refine wc_region ?_
  refine wl_bsliceB (xs := [.const (.int .u8 2), .const (.int .u8 1), .const (.int .u8 0), .const (.int .u8 9)]) (bs := [2, 1, 0, 9]) (by decide) Try.sl22 rfl rfl rfl (by simp) w3.heap.size (Nat.le_refl _) ?_
  rintro g4 w4 hg4 ho4 hE4
  replace ho4 := ho4.bs.any
  replace ho1 := ho1.ext hE4
  replace ho2 := ho2.ext hE4
  replace ho3 := ho3.ext hE4
  replace hEc := hEc.trans hE4
  have hcl := takeNum_ok ho4
  refine wl_call (by decide) Try.cl20 rfl hcl ?_
  clear hcl
  rintro _ w5 ⟨A5, c5, rfl, ho5, hE5⟩
  have e5 : takeS [2, 1, 0, 9] = (256, [9], 0) := by decide +kernel
  rw [e5] at ho5 ⊢
  replace ho5 := ho5.bs.any
  replace ho1 := ho1.ext hE5
  replace ho2 := ho2.ext hE5
  replace ho3 := ho3.ext hE5
  replace ho4 := ho4.ext hE5
  replace hEc := hEc.trans hE5
  refine wl_move (by decide) rfl ?_
  refine wl_extract (by decide) rfl rfl ?_
  refine wl_extract (by decide) rfl rfl ?_
  refine wl_extract (by decide) rfl rfl ?_
  refine wl_assign (by decide) rfl ?_
  refine wl_assign (by decide) rfl ?_
  refine wl_assign (by decide) rfl ?_
  refine wl_nil ?_
  refine wk_norm ?_
  refine wc_seq ?_
  refine wc_region ?_
  refine wl_bsliceB (xs := [.const (.int .u8 1), .const (.int .u8 2), .const (.int .u8 170), .const (.int .u8 187), .const (.int .u8 204)]) (bs := [1, 2, 170, 187, 204]) (by decide) Try.sl22 rfl rfl rfl (by simp) w5.heap.size (Nat.le_refl _) ?_
  rintro g6 w6 hg6 ho6 hE6
  replace ho6 := ho6.bs.any
  replace ho1 := ho1.ext hE6
  replace ho2 := ho2.ext hE6
  replace ho3 := ho3.ext hE6
  replace ho4 := ho4.ext hE6
  replace ho5 := ho5.ext hE6
  replace hEc := hEc.trans hE6
  have hcl := takeStr_ok (most := 2) ho6
  refine wl_call (by decide) Try.cl27 rfl hcl ?_
  clear hcl
  rintro _ w7 ⟨A7, c7, A8, c8, rfl, ho7, ho8, hE7⟩
  have e7 : takeStrS [1, 2, 170, 187, 204] 2 = ([170, 187], [204], 0) := by decide +kernel
  rw [e7] at ho7 ho8 ⊢
  replace ho7 := ho7.bs.any
  replace ho8 := ho8.bs.any
  replace ho1 := ho1.ext hE7
  replace ho2 := ho2.ext hE7
  replace ho3 := ho3.ext hE7
  replace ho4 := ho4.ext hE7
  replace ho5 := ho5.ext hE7
  replace ho6 := ho6.ext hE7
  replace hEc := hEc.trans hE7
  refine wl_move (by decide) rfl ?_
  refine wl_extract (by decide) rfl rfl ?_
  refine wl_extract (by decide) rfl rfl ?_
  refine wl_extract (by decide) rfl rfl ?_
  refine wl_assign (by decide) rfl ?_
  refine wl_assign (by decide) rfl ?_
  refine wl_assign (by decide) rfl ?_
  refine wl_nil ?_
  refine wk_norm ?_
  refine wc_seq ?_
  refine wc_region ?_
  refine wl_move (by decide) rfl ?_
  refine wl_eql (by decide) rfl rfl ?_
  refine wl_re (k := 33) (v := .bool true) rfl (by simp) ?_
  refine wl_move (by decide) rfl ?_
  refine wl_gyes rfl rfl ?_
  refine wl_move (by decide) rfl ?_
  refine wl_gyes rfl rfl ?_
  refine wl_bsliceB (xs := [.const (.int .u8 2), .const (.int .u8 1), .const (.int .u8 0)]) (bs := [2, 1, 0]) (by decide) Try.sl22 rfl rfl rfl (by simp) w7.heap.size (Nat.le_refl _) ?_
  rintro g10 w10 hg10 ho10 hE10
  replace ho10 := ho10.bs.any
  replace ho1 := ho1.ext hE10
  replace ho2 := ho2.ext hE10
  replace ho3 := ho3.ext hE10
  replace ho4 := ho4.ext hE10
  replace ho5 := ho5.ext hE10
  replace ho6 := ho6.ext hE10
  replace ho7 := ho7.ext hE10
  replace ho8 := ho8.ext hE10
  replace hEc := hEc.trans hE10
  refine wl_gyes rfl rfl ?_
  have hcl := eqBytes_ok ho1 ho10
  refine wl_call (by decide) Try.cl22 rfl hcl ?_
  clear hcl
  rintro _ w11 ⟨rfl, hE11⟩
  replace ho1 := ho1.ext hE11
  replace ho2 := ho2.ext hE11
  replace ho3 := ho3.ext hE11
  replace ho4 := ho4.ext hE11
  replace ho5 := ho5.ext hE11
  replace ho6 := ho6.ext hE11
  replace ho7 := ho7.ext hE11
  replace ho8 := ho8.ext hE11
  replace ho10 := ho10.ext hE11
  replace hEc := hEc.trans hE11
  refine wl_re (k := 37) (v := .bool true) rfl (by simp) ?_
  refine wl_pick (by decide) rfl rfl ?_
  refine wl_move (by decide) rfl ?_
  refine wl_gyes rfl rfl ?_
  refine wl_move (by decide) rfl ?_
  refine wl_gyes rfl rfl ?_
  refine wl_eql (by decide) rfl rfl ?_
  refine wl_re (k := 41) (v := .bool true) rfl (by simp) ?_
  refine wl_pick (by decide) rfl rfl ?_
  refine wl_move (by decide) rfl ?_
  refine wl_gyes rfl rfl ?_
  refine wl_move (by decide) rfl ?_
  refine wl_gyes rfl rfl ?_
  refine wl_bsliceB (xs := [.const (.int .u8 1), .const (.int .u8 2), .const (.int .u8 170), .const (.int .u8 187)]) (bs := [1, 2, 170, 187]) (by decide) Try.sl22 rfl rfl rfl (by simp) w11.heap.size (Nat.le_refl _) ?_
  rintro g12 w12 hg12 ho12 hE12
  replace ho12 := ho12.bs.any
  replace ho1 := ho1.ext hE12
  replace ho2 := ho2.ext hE12
  replace ho3 := ho3.ext hE12
  replace ho4 := ho4.ext hE12
  replace ho5 := ho5.ext hE12
  replace ho6 := ho6.ext hE12
  replace ho7 := ho7.ext hE12
  replace ho8 := ho8.ext hE12
  replace ho10 := ho10.ext hE12
  replace hEc := hEc.trans hE12
  refine wl_gyes rfl rfl ?_
  have hcl := eqBytes_ok ho3 ho12
  refine wl_call (by decide) Try.cl22 rfl hcl ?_
  clear hcl
  rintro _ w13 ⟨rfl, hE13⟩
  replace ho1 := ho1.ext hE13
  replace ho2 := ho2.ext hE13
  replace ho3 := ho3.ext hE13
  replace ho4 := ho4.ext hE13
  replace ho5 := ho5.ext hE13
  replace ho6 := ho6.ext hE13
  replace ho7 := ho7.ext hE13
  replace ho8 := ho8.ext hE13
  replace ho10 := ho10.ext hE13
  replace ho12 := ho12.ext hE13
  replace hEc := hEc.trans hE13
  refine wl_re (k := 46) (v := .bool true) rfl (by simp) ?_
  refine wl_pick (by decide) rfl rfl ?_
  refine wl_move (by decide) rfl ?_
  refine wl_gyes rfl rfl ?_
  refine wl_move (by decide) rfl ?_
  refine wl_gyes rfl rfl ?_
  refine wl_eql (by decide) rfl rfl ?_
  refine wl_re (k := 50) (v := .bool true) rfl (by simp) ?_
  refine wl_pick (by decide) rfl rfl ?_
  refine wl_move (by decide) rfl ?_
  refine wl_gyes rfl rfl ?_
  refine wl_move (by decide) rfl ?_
  refine wl_gyes rfl rfl ?_
  refine wl_eql (by decide) rfl rfl ?_
  refine wl_re (k := 54) (v := .bool true) rfl (by simp) ?_
  refine wl_pick (by decide) rfl rfl ?_
  refine wl_move (by decide) rfl ?_
  refine wl_gyes rfl rfl ?_
  refine wl_move (by decide) rfl ?_
  refine wl_gyes rfl rfl ?_
  refine wl_bsliceB (xs := [.const (.int .u8 9)]) (bs := [9]) (by decide) Try.sl22 rfl rfl rfl (by simp) w13.heap.size (Nat.le_refl _) ?_
  rintro g14 w14 hg14 ho14 hE14
  replace ho14 := ho14.bs.any
  replace ho1 := ho1.ext hE14
  replace ho2 := ho2.ext hE14
  replace ho3 := ho3.ext hE14
  replace ho4 := ho4.ext hE14
  replace ho5 := ho5.ext hE14
  replace ho6 := ho6.ext hE14
  replace ho7 := ho7.ext hE14
  replace ho8 := ho8.ext hE14
  replace ho10 := ho10.ext hE14
  replace ho12 := ho12.ext hE14
  replace hEc := hEc.trans hE14
  refine wl_gyes rfl rfl ?_
  have hcl := eqBytes_ok ho5 ho14
  refine wl_call (by decide) Try.cl22 rfl hcl ?_
  clear hcl
  rintro _ w15 ⟨rfl, hE15⟩
  replace ho1 := ho1.ext hE15
  replace ho2 := ho2.ext hE15
  replace ho3 := ho3.ext hE15
  replace ho4 := ho4.ext hE15
  replace ho5 := ho5.ext hE15
  replace ho6 := ho6.ext hE15
  replace ho7 := ho7.ext hE15
  replace ho8 := ho8.ext hE15
  replace ho10 := ho10.ext hE15
  replace ho12 := ho12.ext hE15
  replace ho14 := ho14.ext hE15
  replace hEc := hEc.trans hE15
  refine wl_re (k := 59) (v := .bool true) rfl (by simp) ?_
  refine wl_pick (by decide) rfl rfl ?_
  refine wl_move (by decide) rfl ?_
  refine wl_gyes rfl rfl ?_
  refine wl_move (by decide) rfl ?_
  refine wl_gyes rfl rfl ?_
  refine wl_eql (by decide) rfl rfl ?_
  refine wl_re (k := 63) (v := .bool true) rfl (by simp) ?_
  refine wl_pick (by decide) rfl rfl ?_
  refine wl_move (by decide) rfl ?_
  refine wl_gyes rfl rfl ?_
  refine wl_move (by decide) rfl ?_
  refine wl_gyes rfl rfl ?_
  refine wl_bsliceB (xs := [.const (.int .u8 170), .const (.int .u8 187)]) (bs := [170, 187]) (by decide) Try.sl22 rfl rfl rfl (by simp) w15.heap.size (Nat.le_refl _) ?_
  rintro g16 w16 hg16 ho16 hE16
  replace ho16 := ho16.bs.any
  replace ho1 := ho1.ext hE16
  replace ho2 := ho2.ext hE16
  replace ho3 := ho3.ext hE16
  replace ho4 := ho4.ext hE16
  replace ho5 := ho5.ext hE16
  replace ho6 := ho6.ext hE16
  replace ho7 := ho7.ext hE16
  replace ho8 := ho8.ext hE16
  replace ho10 := ho10.ext hE16
  replace ho12 := ho12.ext hE16
  replace ho14 := ho14.ext hE16
  replace hEc := hEc.trans hE16
  refine wl_gyes rfl rfl ?_
  have hcl := eqBytes_ok ho7 ho16
  refine wl_call (by decide) Try.cl22 rfl hcl ?_
  clear hcl
  rintro _ w17 ⟨rfl, hE17⟩
  replace ho1 := ho1.ext hE17
  replace ho2 := ho2.ext hE17
  replace ho3 := ho3.ext hE17
  replace ho4 := ho4.ext hE17
  replace ho5 := ho5.ext hE17
  replace ho6 := ho6.ext hE17
  replace ho7 := ho7.ext hE17
  replace ho8 := ho8.ext hE17
  replace ho10 := ho10.ext hE17
  replace ho12 := ho12.ext hE17
  replace ho14 := ho14.ext hE17
  replace ho16 := ho16.ext hE17
  replace hEc := hEc.trans hE17
  refine wl_re (k := 68) (v := .bool true) rfl (by simp) ?_
  refine wl_pick (by decide) rfl rfl ?_
  refine wl_move (by decide) rfl ?_
  refine wl_gyes rfl rfl ?_
  refine wl_move (by decide) rfl ?_
  refine wl_gyes rfl rfl ?_
  refine wl_bsliceB (xs := [.const (.int .u8 204)]) (bs := [204]) (by decide) Try.sl22 rfl rfl rfl (by simp) w17.heap.size (Nat.le_refl _) ?_
  rintro g18 w18 hg18 ho18 hE18
  replace ho18 := ho18.bs.any
  replace ho1 := ho1.ext hE18
  replace ho2 := ho2.ext hE18
  replace ho3 := ho3.ext hE18
  replace ho4 := ho4.ext hE18
  replace ho5 := ho5.ext hE18
  replace ho6 := ho6.ext hE18
  replace ho7 := ho7.ext hE18
  replace ho8 := ho8.ext hE18
  replace ho10 := ho10.ext hE18
  replace ho12 := ho12.ext hE18
  replace ho14 := ho14.ext hE18
  replace ho16 := ho16.ext hE18
  replace hEc := hEc.trans hE18
  refine wl_gyes rfl rfl ?_
  have hcl := eqBytes_ok ho8 ho18
  refine wl_call (by decide) Try.cl22 rfl hcl ?_
  clear hcl
  rintro _ w19 ⟨rfl, hE19⟩
  replace ho1 := ho1.ext hE19
  replace ho2 := ho2.ext hE19
  replace ho3 := ho3.ext hE19
  replace ho4 := ho4.ext hE19
  replace ho5 := ho5.ext hE19
  replace ho6 := ho6.ext hE19
  replace ho7 := ho7.ext hE19
  replace ho8 := ho8.ext hE19
  replace ho10 := ho10.ext hE19
  replace ho12 := ho12.ext hE19
  replace ho14 := ho14.ext hE19
  replace ho16 := ho16.ext hE19
  replace ho18 := ho18.ext hE19
  replace hEc := hEc.trans hE19
  refine wl_re (k := 73) (v := .bool true) rfl (by simp) ?_
  refine wl_pick (by decide) rfl rfl ?_
  refine wl_assign (by decide) rfl ?_
  refine wl_nil ?_
  refine wk_norm ?_
  refine wc_ret ?_
  refine wk_post1 (.inl rfl) Try.results24 rfl ?_
  exact ⟨_, rfl, rfl, hEc⟩

theorem binAgain_ok {A : Option Addr} {c : Nat} {b : List UInt8} {S : Nat → Prop} {w : World} (hb : BS S w A c b) : Ret Try.prog 8 #[.slice A b.length c] w (fun v w' => v = .bool true ∧ Ext w w') := by
  replace hb := hb.any
  refine ret_of_wk Try.func8 rfl Try.ntmps8 (Nat.le_of_ble_eq_true rfl) ?_
  have hEc : Ext w w := Chg.refl _ _
  refine wc_seq ?_
  refine wc_region ?_
  refine wl_assign (by decide) rfl ?_
  refine wl_nil ?_
  refine wk_norm ?_
  refine wc_seq ?_
  refine wc_seq ?_
  refine wc_region ?_
  refine wl_call (by decide) Try.cl24 rfl (works_ok) ?_
  rintro _ w1 ⟨rfl, hE1⟩
  replace hb := hb.ext hE1
  replace hEc := hEc.trans hE1
  first | refine wl_notd (by decide) rfl ?_ | refine wl_not (by decide) rfl ?_
  refine wl_nil ?_
  refine wk_norm ?_
  refine wc_cond_f rfl ?_
  refine wc_skip ?_
  refine wk_norm ?_
  refine wc_seq ?_
  refine wc_region ?_
  refine wl_move (by decide) rfl ?_
  have hcl := takeNum_ok hb
  refine wl_call (by decide) Try.cl20 rfl hcl ?_
  clear hcl
  rintro _ w2 ⟨A2, c2, rfl, ho2, hE2⟩
  replace ho2 := ho2.bs.any
  replace hb := hb.ext hE2
  replace hEc := hEc.trans hE2
  refine wl_move (by decide) rfl ?_
  refine wl_extract (by decide) rfl rfl ?_
  refine wl_extract (by decide) rfl rfl ?_
  refine wl_extract (by decide) rfl rfl ?_
  refine wl_assign (by decide) rfl ?_
  refine wl_assign (by decide) rfl ?_
  refine wl_assign (by decide) rfl ?_
  refine wl_nil ?_
  refine wk_norm ?_
  refine wc_seq ?_
  refine wc_seq ?_
  refine wc_region ?_
  refine wl_move (by decide) rfl ?_
  refine wl_neq (by decide) rfl rfl ?_
  refine wl_nil ?_
  refine wk_norm ?_
  refine wc_cond rfl (fun he => ?_) (fun he => ?_)
  ·
    try replace he := of_decide_eq_true he
    have hz := takeS_err b he
    have hlim := takeS_lim b
    refine wc_seq ?_
    refine wc_region ?_
    refine wl_move (by decide) rfl ?_
    refine wl_eql (by decide) rfl rfl ?_
    refine wl_re (k := 19) (v := .bool true) rfl (congrArg Value.bool (decide_eq_true (by first | omega | (simp [hz.2])))) ?_
    refine wl_move (by decide) rfl ?_
    refine wl_gyes rfl rfl ?_
    refine wl_move (by decide) rfl ?_
    refine wl_gyes rfl rfl ?_
    refine wl_len (by decide) Try.underlying22 rfl ?_
    refine wl_gyes rfl rfl ?_
    refine wl_eql (by decide) rfl rfl ?_
    refine wl_re (k := 23) (v := .bool true) rfl (congrArg Value.bool (decide_eq_true (by first | omega | (simp [hz.2])))) ?_
    refine wl_pick (by decide) rfl rfl ?_
    refine wl_assign (by decide) rfl ?_
    refine wl_nil ?_
    refine wk_norm ?_
    refine wc_ret ?_
    refine wk_then_ret ?_
    refine wk_post1 (.inl rfl) Try.results8 rfl ?_
    exact ⟨_, rfl, rfl, hEc⟩
  ·
    try replace he := of_decide_eq_false he
    have hbk := takeS_back b (by omega)
    have hlim := takeS_lim b
    have hns : numS (takeS b).1 = (numL (takeS b).1.toNat, 0) := by rw [numS, if_neg (by omega)]
    have hbl := congrArg List.length hbk.1
    rw [List.length_append] at hbl
    have hmx := hb.mx
    refine wc_skip ?_
    refine wk_norm ?_
    refine wc_seq ?_
    refine wc_region ?_
    refine wl_move (by decide) rfl ?_
    refine wl_call (by decide) Try.cl17 rfl (num_ok (by omega) (by omega)) ?_
    rintro _ w3 ⟨A3, c3, rfl, ho3, hE3⟩
    replace ho3 := ho3.bs.any
    replace hb := hb.ext hE3
    replace ho2 := ho2.ext hE3
    replace hEc := hEc.trans hE3
    rw [hns] at ho3 ⊢
    refine wl_move (by decide) rfl ?_
    refine wl_extract (by decide) rfl rfl ?_
    refine wl_extract (by decide) rfl rfl ?_
    refine wl_assign (by decide) rfl ?_
    refine wl_assign (by decide) rfl ?_
    refine wl_nil ?_
    refine wk_norm ?_
    refine wc_seq ?_
    refine wc_region ?_
    refine wl_move (by decide) rfl ?_
    refine wl_eql (by decide) rfl rfl ?_
    refine wl_re (k := 31) (v := .bool true) rfl (congrArg Value.bool (decide_eq_true (by first | rfl | (simpa using hbk.1.symm)))) ?_
    refine wl_move (by decide) rfl ?_
    refine wl_gyes rfl rfl ?_
    refine wl_move (by decide) rfl ?_
    refine wl_gyes rfl rfl ?_
    refine wl_move (by decide) rfl ?_
    refine wl_gyes rfl rfl ?_
    refine wl_bsliceS (xs := [.tmp 33, .tmp 34]) (by decide) Try.sl45 rfl rfl (by rfl) (by decide) (SlicesOf.cons ho3 (SlicesOf.cons ho2 SlicesOf.nil)) ?_
    rintro g4 w4 hs4 hE4
    replace hb := hb.ext hE4
    replace ho2 := ho2.ext hE4
    replace ho3 := ho3.ext hE4
    replace hEc := hEc.trans hE4
    refine wl_gyes rfl rfl ?_
    have hcl := join_ok hs4 (by simp; omega)
    refine wl_call (by decide) Try.cl31 rfl hcl ?_
    clear hcl
    rintro _ w5 ⟨A5, c5, rfl, ho5, hE5⟩
    replace ho5 := ho5.bs.any
    replace hb := hb.ext hE5
    replace ho2 := ho2.ext hE5
    replace ho3 := ho3.ext hE5
    replace hs4 := hs4.ext hE5
    replace hEc := hEc.trans hE5
    refine wl_gyes rfl rfl ?_
    refine wl_move (by decide) rfl ?_
    refine wl_gyes rfl rfl ?_
    have hcl := eqBytes_ok ho5 hb
    refine wl_call (by decide) Try.cl22 rfl hcl ?_
    clear hcl
    rintro _ w6 ⟨rfl, hE6⟩
    replace hb := hb.ext hE6
    replace ho2 := ho2.ext hE6
    replace ho3 := ho3.ext hE6
    replace hs4 := hs4.ext hE6
    replace ho5 := ho5.ext hE6
    replace hEc := hEc.trans hE6
    refine wl_re (k := 38) (v := .bool true) rfl (congrArg Value.bool (decide_eq_true (by first | rfl | (simpa using hbk.1.symm)))) ?_
    refine wl_pick (by decide) rfl rfl ?_
    refine wl_assign (by decide) rfl ?_
    refine wl_nil ?_
    refine wk_norm ?_
    refine wc_ret ?_
    refine wk_post1 (.inl rfl) Try.results8 rfl ?_
    exact ⟨_, rfl, rfl, hEc⟩

theorem binTaken_ok {A : Option Addr} {c : Nat} {b : List UInt8} {S : Nat → Prop} {most : Int} {w : World} (hb : BS S w A c b) : Ret Try.prog 10 #[.slice A b.length c, .int .i64 most] w (fun v w' => v = .bool true ∧ Ext w w') := by
  replace hb := hb.any
  refine ret_of_wk Try.func10 rfl Try.ntmps10 (Nat.le_of_ble_eq_true rfl) ?_
  have hEc : Ext w w := Chg.refl _ _
  refine wc_seq ?_
  refine wc_region ?_
  refine wl_assign (by decide) rfl ?_
  refine wl_nil ?_
  refine wk_norm ?_
  refine wc_seq ?_
  refine wc_seq ?_
  refine wc_region ?_
  refine wl_call (by decide) Try.cl24 rfl (works_ok) ?_
  rintro _ w1 ⟨rfl, hE1⟩
  replace hb := hb.ext hE1
  replace hEc := hEc.trans hE1
  first | refine wl_notd (by decide) rfl ?_ | refine wl_not (by decide) rfl ?_
  refine wl_nil ?_
  refine wk_norm ?_
  refine wc_cond_f rfl ?_
  refine wc_skip ?_
  refine wk_norm ?_
  refine wc_seq ?_
  refine wc_region ?_
  refine wl_move (by decide) rfl ?_
  refine wl_move (by decide) rfl ?_
  refine wl_call (by decide) Try.cl27 rfl (takeStr_ok hb) ?_
  rintro _ w2 ⟨A2, c2, B2, d2, rfl, ho2, hp2, hE2⟩
  replace ho2 := ho2.bs.any
  replace hp2 := hp2.bs.any
  replace hb := hb.ext hE2
  replace hEc := hEc.trans hE2
  refine wl_move (by decide) rfl ?_
  refine wl_extract (by decide) rfl rfl ?_
  refine wl_extract (by decide) rfl rfl ?_
  refine wl_extract (by decide) rfl rfl ?_
  refine wl_assign (by decide) rfl ?_
  refine wl_assign (by decide) rfl ?_
  refine wl_assign (by decide) rfl ?_
  refine wl_nil ?_
  refine wk_norm ?_
  refine wc_seq ?_
  refine wc_seq ?_
  refine wc_region ?_
  refine wl_move (by decide) rfl ?_
  refine wl_neq (by decide) rfl rfl ?_
  refine wl_nil ?_
  refine wk_norm ?_
  refine wc_cond rfl (fun he => ?_) (fun he => ?_)
  ·
    try replace he := of_decide_eq_true he
    have hz := takeStr_err b most he
    refine wc_seq ?_
    refine wc_region ?_
    refine wl_move (by decide) rfl ?_
    refine wl_len (by decide) Try.underlying22 rfl ?_
    refine wl_eql (by decide) rfl rfl ?_
    refine wl_re (k := 23) (v := .bool true) rfl (congrArg Value.bool (decide_eq_true (by simp [hz.1, hz.2]))) ?_
    refine wl_move (by decide) rfl ?_
    refine wl_gyes rfl rfl ?_
    refine wl_move (by decide) rfl ?_
    refine wl_gyes rfl rfl ?_
    refine wl_len (by decide) Try.underlying22 rfl ?_
    refine wl_gyes rfl rfl ?_
    refine wl_eql (by decide) rfl rfl ?_
    refine wl_re (k := 27) (v := .bool true) rfl (congrArg Value.bool (decide_eq_true (by simp [hz.1, hz.2]))) ?_
    refine wl_pick (by decide) rfl rfl ?_
    refine wl_assign (by decide) rfl ?_
    refine wl_nil ?_
    refine wk_norm ?_
    refine wc_ret ?_
    refine wk_then_ret ?_
    refine wk_post1 (.inl rfl) Try.results10 rfl ?_
    exact ⟨_, rfl, rfl, hEc⟩
  ·
    try replace he := of_decide_eq_false he
    have hbk := takeStr_back b most (by omega)
    have hss : strS (takeStrS b most).1 = (numL (takeStrS b most).1.length ++ (takeStrS b most).1, 0) := by simp only [strS]; rw [if_neg (by omega)]
    have hbl := congrArg List.length hbk.1
    simp only [List.length_append] at hbl
    have hmx := hb.mx
    refine wc_skip ?_
    refine wk_norm ?_
    refine wc_seq ?_
    refine wc_region ?_
    refine wl_move (by decide) rfl ?_
    have hcl := str_ok ho2
    refine wl_call (by decide) Try.cl25 rfl hcl ?_
    clear hcl
    rintro _ w3 ⟨A3, c3, rfl, ho3, hE3⟩
    replace ho3 := ho3.bs.any
    replace hb := hb.ext hE3
    replace ho2 := ho2.ext hE3
    replace hp2 := hp2.ext hE3
    replace hEc := hEc.trans hE3
    rw [hss] at ho3 ⊢
    refine wl_move (by decide) rfl ?_
    refine wl_extract (by decide) rfl rfl ?_
    refine wl_extract (by decide) rfl rfl ?_
    refine wl_assign (by decide) rfl ?_
    refine wl_assign (by decide) rfl ?_
    refine wl_nil ?_
    refine wk_norm ?_
    refine wc_seq ?_
    refine wc_region ?_
    refine wl_move (by decide) rfl ?_
    refine wl_eql (by decide) rfl rfl ?_
    refine wl_re (k := 35) (v := .bool true) rfl (congrArg Value.bool (decide_eq_true (by rfl))) ?_
    refine wl_move (by decide) rfl ?_
    refine wl_gyes rfl rfl ?_
    refine wl_move (by decide) rfl ?_
    refine wl_gyes rfl rfl ?_
    refine wl_len (by decide) Try.underlying22 rfl ?_
    refine wl_gyes rfl rfl ?_
    refine wl_move (by decide) rfl ?_
    refine wl_gyes rfl rfl ?_
    refine wl_leq (by decide) rfl rfl ?_
    refine wl_re (k := 40) (v := .bool true) rfl (congrArg Value.bool (decide_eq_true (by omega))) ?_
    refine wl_pick (by decide) rfl rfl ?_
    refine wl_move (by decide) rfl ?_
    refine wl_gyes rfl rfl ?_
    refine wl_move (by decide) rfl ?_
    refine wl_gyes rfl rfl ?_
    refine wl_move (by decide) rfl ?_
    refine wl_gyes rfl rfl ?_
    refine wl_bsliceS (xs := [.tmp 43, .tmp 44]) (by decide) Try.sl45 rfl rfl (by rfl) (by decide) (SlicesOf.cons ho3 (SlicesOf.cons hp2 SlicesOf.nil)) ?_
    rintro g4 w4 hs4 hE4
    replace hb := hb.ext hE4
    replace ho2 := ho2.ext hE4
    replace hp2 := hp2.ext hE4
    replace ho3 := ho3.ext hE4
    replace hEc := hEc.trans hE4
    refine wl_gyes rfl rfl ?_
    have hcl := join_ok hs4 (by simp; omega)
    refine wl_call (by decide) Try.cl31 rfl hcl ?_
    clear hcl
    rintro _ w5 ⟨A5, c5, rfl, ho5, hE5⟩
    replace ho5 := ho5.bs.any
    replace hb := hb.ext hE5
    replace ho2 := ho2.ext hE5
    replace hp2 := hp2.ext hE5
    replace ho3 := ho3.ext hE5
    replace hs4 := hs4.ext hE5
    replace hEc := hEc.trans hE5
    refine wl_gyes rfl rfl ?_
    refine wl_move (by decide) rfl ?_
    refine wl_gyes rfl rfl ?_
    have hcl := eqBytes_ok ho5 hb
    refine wl_call (by decide) Try.cl22 rfl hcl ?_
    clear hcl
    rintro _ w6 ⟨rfl, hE6⟩
    replace hb := hb.ext hE6
    replace ho2 := ho2.ext hE6
    replace hp2 := hp2.ext hE6
    replace ho3 := ho3.ext hE6
    replace hs4 := hs4.ext hE6
    replace ho5 := ho5.ext hE6
    replace hEc := hEc.trans hE6
    refine wl_re (k := 48) (v := .bool true) rfl (congrArg Value.bool (decide_eq_true (by simpa using hbk.1.symm))) ?_
    refine wl_pick (by decide) rfl rfl ?_
    refine wl_assign (by decide) rfl ?_
    refine wl_nil ?_
    refine wk_norm ?_
    refine wc_ret ?_
    refine wk_post1 (.inl rfl) Try.results10 rfl ?_
    exact ⟨_, rfl, rfl, hEc⟩

theorem binBack_ok {A : Option Addr} {c : Nat} {b : List UInt8} {S : Nat → Prop} {n : Int} {w : World} (h1 : -9223372036854775808 ≤ n) (h2 : n ≤ 9223372036854775807) (hb : BS S w A c b) : Ret Try.prog 7 #[.int .i64 n, .slice A b.length c] w (fun v w' => v = .bool true ∧ Ext w w') := by
  replace hb := hb.any
  refine ret_of_wk Try.func7 rfl Try.ntmps7 (Nat.le_of_ble_eq_true rfl) ?_
  have hEc : Ext w w := Chg.refl _ _
  refine wc_seq ?_
  refine wc_region ?_
  refine wl_assign (by decide) rfl ?_
  refine wl_nil ?_
  refine wk_norm ?_
  refine wc_seq ?_
  refine wc_seq ?_
  refine wc_region ?_
  refine wl_call (by decide) Try.cl24 rfl (works_ok) ?_
  rintro _ w1 ⟨rfl, hE1⟩
  replace hb := hb.ext hE1
  replace hEc := hEc.trans hE1
  first | refine wl_notd (by decide) rfl ?_ | refine wl_not (by decide) rfl ?_
  refine wl_nil ?_
  refine wk_norm ?_
  refine wc_cond_f rfl ?_
  refine wc_skip ?_
  refine wk_norm ?_
  refine wc_seq ?_
  refine wc_region ?_
  refine wl_move (by decide) rfl ?_
  refine wl_move (by decide) rfl ?_
  refine wl_len (by decide) Try.underlying22 rfl ?_
  refine wl_min (by decide) rfl rfl ?_
  refine wl_to (by decide) Try.sl22 rfl rfl hb (min b.length 1000) (by omega) (by omega) ?_
  intro hb1
  have hbl1 : (b.take (min b.length 1000)).length ≤ 1000 := by rw [List.length_take]; omega
  generalize b.take (min b.length 1000) = b1 at hb1 hbl1 ⊢
  refine wl_assign (by decide) rfl ?_
  refine wl_nil ?_
  refine wk_norm ?_
  refine wc_seq ?_
  refine wc_region ?_
  refine wl_move (by decide) rfl ?_
  refine wl_call (by decide) Try.cl17 rfl (num_ok (by omega) (by omega)) ?_
  rintro _ w2 ⟨A2, c2, rfl, ho2, hE2⟩
  replace ho2 := ho2.bs.any
  replace hb := hb.ext hE2
  replace hb1 := hb1.ext hE2
  replace hEc := hEc.trans hE2
  have hns0 : (n < 0 ∨ 9007199254740991 < n) → numS n = ([], 9) := fun h => by rw [numS, if_pos h]
  have hns1 : ¬ (n < 0 ∨ 9007199254740991 < n) → numS n = (numL n.toNat, 0) := fun h => by rw [numS, if_neg h]
  refine wl_move (by decide) rfl ?_
  refine wl_extract (by decide) rfl rfl ?_
  refine wl_extract (by decide) rfl rfl ?_
  refine wl_assign (by decide) rfl ?_
  refine wl_assign (by decide) rfl ?_
  refine wl_nil ?_
  refine wk_norm ?_
  refine wc_seq ?_
  refine wc_seq ?_
  refine wc_region ?_
  refine wl_move (by decide) rfl ?_
  refine wl_neq (by decide) rfl rfl ?_
  refine wl_nil ?_
  refine wk_norm ?_
  refine wc_cond rfl (fun he => ?_) (fun he => ?_)
  ·
    try replace he := of_decide_eq_true he
    have hor : n < 0 ∨ 9007199254740991 < n := Decidable.byContradiction fun h => he (by rw [hns1 h])
    have hns := hns0 hor
    refine wc_seq ?_
    refine wc_region ?_
    refine wl_move (by decide) rfl ?_
    refine wl_eql (by decide) rfl rfl ?_
    refine wl_re (k := 25) (v := .bool true) rfl (congrArg Value.bool (decide_eq_true (by rw [hns]))) ?_
    refine wl_move (by decide) rfl ?_
    refine wl_gyes rfl rfl ?_
    refine wl_move (by decide) rfl ?_
    refine wl_gyes rfl rfl ?_
    refine wl_len (by decide) Try.underlying22 rfl ?_
    refine wl_gyes rfl rfl ?_
    refine wl_eql (by decide) rfl rfl ?_
    refine wl_re (k := 29) (v := .bool true) rfl (congrArg Value.bool (decide_eq_true (by rw [hns]; rfl))) ?_
    refine wl_pick (by decide) rfl rfl ?_
    refine wl_move (by decide) rfl ?_
    refine wl_gyes rfl rfl ?_
    refine wl_move (by decide) rfl ?_
    refine wl_gyes rfl rfl ?_
    refine wl_lss (by decide) rfl rfl ?_
    refine wl_gyes rfl rfl ?_
    refine wl_move (by decide) rfl ?_
    refine wl_gsplit (dj := 34) rfl (fun hlo => ?_) (fun hlo => ?_)
    ·
      try replace hlo := of_decide_eq_true hlo
      refine wl_gno (by decide) rfl rfl (.inl rfl) ?_
      refine wl_gno (by decide) rfl rfl (.inl rfl) ?_
      refine wl_gyes rfl rfl ?_
      refine wl_pick (by decide) rfl rfl ?_
      refine wl_pick (by decide) rfl rfl ?_
      refine wl_assign (by decide) rfl ?_
      refine wl_nil ?_
      refine wk_norm ?_
      refine wc_ret ?_
      refine wk_then_ret ?_
      refine wk_post1 (.inl rfl) Try.results7 rfl ?_
      exact ⟨_, rfl, rfl, hEc⟩
    ·
      try replace hlo := of_decide_eq_false hlo
      refine wl_gyes rfl rfl ?_
      refine wl_move (by decide) rfl ?_
      refine wl_gyes rfl rfl ?_
      refine wl_gtr (by decide) rfl rfl ?_
      refine wl_re (k := 36) (v := .bool true) rfl (congrArg Value.bool (decide_eq_true (by omega))) ?_
      refine wl_gyes rfl rfl ?_
      refine wl_pick (by decide) rfl rfl ?_
      refine wl_pick (by decide) rfl rfl ?_
      refine wl_assign (by decide) rfl ?_
      refine wl_nil ?_
      refine wk_norm ?_
      refine wc_ret ?_
      refine wk_then_ret ?_
      refine wk_post1 (.inl rfl) Try.results7 rfl ?_
      exact ⟨_, rfl, rfl, hEc⟩
  ·
    try replace he := of_decide_eq_false he
    have hin : ¬ (n < 0 ∨ 9007199254740991 < n) := fun h => he (by rw [hns0 h]; decide)
    have hns := hns1 hin
    have hna : (numS n).1 = numL n.toNat := by rw [hns]
    rw [hna] at ho2 ⊢
    have hnl := numL_len n.toNat (by omega)
    have htk := takeS_num n.toNat (by omega) b1
    have hfl : [numL n.toNat, b1].flatten = numL n.toNat ++ b1 := by simp
    refine wc_skip ?_
    refine wk_norm ?_
    refine wc_seq ?_
    refine wc_region ?_
    refine wl_move (by decide) rfl ?_
    refine wl_move (by decide) rfl ?_
    refine wl_bsliceS (xs := [.tmp 40, .tmp 41]) (by decide) Try.sl45 rfl rfl (by rfl) (by decide) (SlicesOf.cons ho2 (SlicesOf.cons hb1 SlicesOf.nil)) ?_
    rintro g3 w3 hs3 hE3
    replace hb := hb.ext hE3
    replace hb1 := hb1.ext hE3
    replace ho2 := ho2.ext hE3
    replace hEc := hEc.trans hE3
    have hcl := join_ok hs3 (by simp; omega)
    refine wl_call (by decide) Try.cl31 rfl hcl ?_
    clear hcl
    rintro _ w4 ⟨A4, c4, rfl, ho4, hE4⟩
    replace ho4 := ho4.bs.any
    replace hb := hb.ext hE4
    replace hb1 := hb1.ext hE4
    replace ho2 := ho2.ext hE4
    replace hs3 := hs3.ext hE4
    replace hEc := hEc.trans hE4
    rw [hfl] at ho4 ⊢
    have hcl := takeNum_ok ho4
    refine wl_call (by decide) Try.cl20 rfl hcl ?_
    clear hcl
    rintro _ w5 ⟨A5, c5, rfl, ho5, hE5⟩
    replace ho5 := ho5.bs.any
    replace hb := hb.ext hE5
    replace hb1 := hb1.ext hE5
    replace ho2 := ho2.ext hE5
    replace hs3 := hs3.ext hE5
    replace ho4 := ho4.ext hE5
    replace hEc := hEc.trans hE5
    rw [htk] at ho5 ⊢
    refine wl_move (by decide) rfl ?_
    refine wl_extract (by decide) rfl rfl ?_
    refine wl_extract (by decide) rfl rfl ?_
    refine wl_extract (by decide) rfl rfl ?_
    refine wl_assign (by decide) rfl ?_
    refine wl_assign (by decide) rfl ?_
    refine wl_assign (by decide) rfl ?_
    refine wl_nil ?_
    refine wk_norm ?_
    refine wc_seq ?_
    refine wc_region ?_
    refine wl_move (by decide) rfl ?_
    refine wl_eql (by decide) rfl rfl ?_
    refine wl_re (k := 49) (v := .bool true) rfl (congrArg Value.bool (decide_eq_true (by rfl))) ?_
    refine wl_move (by decide) rfl ?_
    refine wl_gyes rfl rfl ?_
    refine wl_move (by decide) rfl ?_
    refine wl_gyes rfl rfl ?_
    refine wl_move (by decide) rfl ?_
    refine wl_gyes rfl rfl ?_
    refine wl_eql (by decide) rfl rfl ?_
    refine wl_re (k := 53) (v := .bool true) rfl (congrArg Value.bool (decide_eq_true (by omega))) ?_
    refine wl_pick (by decide) rfl rfl ?_
    refine wl_move (by decide) rfl ?_
    refine wl_gyes rfl rfl ?_
    refine wl_move (by decide) rfl ?_
    refine wl_gyes rfl rfl ?_
    refine wl_move (by decide) rfl ?_
    refine wl_gyes rfl rfl ?_
    have hcl := eqBytes_ok ho5 hb1
    refine wl_call (by decide) Try.cl22 rfl hcl ?_
    clear hcl
    rintro _ w6 ⟨rfl, hE6⟩
    replace hb := hb.ext hE6
    replace hb1 := hb1.ext hE6
    replace ho2 := ho2.ext hE6
    replace hs3 := hs3.ext hE6
    replace ho4 := ho4.ext hE6
    replace ho5 := ho5.ext hE6
    replace hEc := hEc.trans hE6
    refine wl_re (k := 58) (v := .bool true) rfl (congrArg Value.bool (decide_eq_true (by rfl))) ?_
    refine wl_pick (by decide) rfl rfl ?_
    refine wl_move (by decide) rfl ?_
    refine wl_gyes rfl rfl ?_
    refine wl_move (by decide) rfl ?_
    refine wl_gyes rfl rfl ?_
    refine wl_len (by decide) Try.underlying22 rfl ?_
    refine wl_gyes rfl rfl ?_
    refine wl_geq (by decide) rfl rfl ?_
    refine wl_re (k := 63) (v := .bool true) rfl (congrArg Value.bool (decide_eq_true (by simp [numL]; omega))) ?_
    refine wl_pick (by decide) rfl rfl ?_
    refine wl_move (by decide) rfl ?_
    refine wl_gyes rfl rfl ?_
    refine wl_move (by decide) rfl ?_
    refine wl_gyes rfl rfl ?_
    refine wl_len (by decide) Try.underlying22 rfl ?_
    refine wl_gyes rfl rfl ?_
    refine wl_leq (by decide) rfl rfl ?_
    refine wl_re (k := 68) (v := .bool true) rfl (congrArg Value.bool (decide_eq_true (by omega))) ?_
    refine wl_pick (by decide) rfl rfl ?_
    refine wl_assign (by decide) rfl ?_
    refine wl_nil ?_
    refine wk_norm ?_
    refine wc_ret ?_
    refine wk_post1 (.inl rfl) Try.results7 rfl ?_
    exact ⟨_, rfl, rfl, hEc⟩

end Go.Proofs.Ytifnbemboednaaa
