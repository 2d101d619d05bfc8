/- Lws (printed by program: wip/gen) -/
import Derived.Test.YtifnbemboednaaaBin
import Derived.Test.YtifnbemboednaaaLaw
namespace Go.Proofs.Ytifnbemboednaaa
open Go.RowKit Go.Eng

theorem spoil_ok {A : Option Addr} {c : Nat} {l : List UInt8} {S : Nat → Prop} {lo : Nat} {w : World} (h : BS S w A c l) (hw : Wr lo w A l.length) : Ret Try.prog 23 #[.slice A l.length c] w (fun v w' => v = .tuple #[] ∧ Spl lo w w') := by
  refine ret_of_wk Try.func23 rfl Try.ntmps23 (Nat.le_of_ble_eq_true rfl) ?_
  refine wc_seq ?_
  refine wc_region ?_
  refine wl_assign (by decide) rfl ?_
  refine wl_nil ?_
  refine wk_norm ?_
  refine wc_block ?_
  refine wc_loop (fun L' w' mes => ∃ (k : Nat), L' = [(0, .slice A l.length c), (2, .int .i64 (k : Int))] ∧ (k ≤ l.length) ∧ (Spl lo w w') ∧ l.length - k = mes) [(0, .slice A l.length c), (2, .int .i64 (0 : Int))] (l.length - 0) (by
      refine ⟨0, rfl, ?_, ?_, rfl⟩
      · omega
      · exact Spl.refl _ _) ⟨rfl, rfl, trivial⟩ ?_
  rintro _ wr _ ⟨k, rfl, hk, hS, rfl⟩ KL1 hKL1
  have hmx := h.mx
  refine wc_seq ?_
  refine wc_seq ?_
  refine wc_region ?_
  refine wl_move (by decide) rfl ?_
  refine wl_move (by decide) rfl ?_
  refine wl_len (by decide) Try.underlying22 rfl ?_
  refine wl_lss (by decide) rfl rfl ?_
  refine wl_nil ?_
  refine wk_norm ?_
  refine wc_cond rfl (fun hlt => ?_) (fun hlt => ?_)
  ·
    try replace hlt := of_decide_eq_true hlt
    refine wc_skip ?_
    refine wk_norm ?_
    refine wc_seq ?_
    refine wc_block ?_
    refine wc_region ?_
    refine wl_move (by decide) rfl ?_
    refine wl_move (by decide) rfl ?_
    refine wl_move (by decide) rfl ?_
    refine wl_move (by decide) rfl ?_
    obtain ⟨a, hAa, hla, ⟨x, hcx⟩, hfx⟩ := hS.wr A l.length hw k (by omega)
    refine wl_idx0 (by decide) Try.sl22 rfl rfl hAa k rfl (by omega) ?_
    rw [Nat.mul_one]
    refine wl_load (by decide) Try.sc5 rfl hcx ?_
    refine wl_add (by decide) rfl rfl (wrap_u8 _) ?_
    refine wl_idx0 (by decide) Try.sl22 rfl rfl hAa k rfl (by omega) ?_
    rw [Nat.mul_one]
    refine wl_store (v := bv (u8Of ((x.toNat : Int) + 1))) Try.sz5 rfl rfl rfl hcx hfx ?_
    refine wl_nil ?_
    refine wk_blk_norm ?_
    refine wk_norm ?_
    refine wc_region ?_
    refine wl_move (by decide) rfl ?_
    refine wl_add (by decide) rfl rfl (w64 (by omega) (by omega)) ?_
    refine wl_assign (by decide) rfl ?_
    refine wl_nil ?_
    refine wk_norm ?_
    refine wk_drop [(0, .slice A l.length c), (2, .int .i64 ((k + 1) : Int))] ⟨rfl, rfl, trivial⟩ (hKL1 _ _ (m2 := l.length - (k + 1)) ?_ ?_)
    ·
      refine ⟨(k + 1), rfl, ?_, ?_, rfl⟩
      · omega
      · exact hS.setCell (by rw [block_add]; exact hla) hcx
    · omega
  ·
    try replace hlt := of_decide_eq_false hlt
    refine wc_exit ?_
    refine wk_then_exit ?_
    refine wk_then_exit ?_
    refine wk_blk_exit ?_
    refine wk_post0 (.inr rfl) Try.results23  ?_
    exact ⟨_, rfl, rfl, hS⟩

theorem works_ok {w : World} : Ret Try.prog 24 #[] w (fun v w' => v = .bool true ∧ Ext w w') := by
  refine ret_of_wk Try.func24 rfl Try.ntmps24 (Nat.le_of_ble_eq_true rfl) ?_
  have hEc : Ext w w := Chg.refl _ _
  refine wc_seq ?_
  refine wc_region ?_
  refine wl_assign (by decide) rfl ?_
  refine wl_nil ?_
  refine wk_norm ?_
  refine wc_seq ?_
  refine wc_region ?_
  refine wl_call (by decide) Try.cl17 rfl (num_ok (by decide) (by decide)) ?_
  rintro _ w1 ⟨A1, c1, rfl, ho1, hE1⟩
  have e1 : numS 256 = ([2, 1, 0], 0) := by decide +kernel
  rw [e1] at ho1 ⊢
  replace ho1 := ho1.bs.any
  replace hEc := hEc.trans hE1
  refine wl_move (by decide) rfl ?_
  refine wl_extract (by decide) rfl rfl ?_
  refine wl_extract (by decide) rfl rfl ?_
  refine wl_assign (by decide) rfl ?_
  refine wl_assign (by decide) rfl ?_
  refine wl_nil ?_
  refine wk_norm ?_
  refine wc_seq ?_
  refine wc_region ?_
  refine wl_bsliceB (xs := [.const (.int .u8 170), .const (.int .u8 187)]) (bs := [170, 187]) (by decide) Try.sl22 rfl rfl rfl (by simp) w1.heap.size (Nat.le_refl _) ?_
  rintro g2 w2 hg2 ho2 hE2
  replace ho2 := ho2.bs.any
  replace ho1 := ho1.ext hE2
  replace hEc := hEc.trans hE2
  have hcl := str_ok ho2
  refine wl_call (by decide) Try.cl25 rfl hcl ?_
  clear hcl
  rintro _ w3 ⟨A3, c3, rfl, ho3, hE3⟩
  have e3 : strS [170, 187] = ([1, 2, 170, 187], 0) := by decide +kernel
  rw [e3] at ho3 ⊢
  replace ho3 := ho3.bs.any
  replace ho1 := ho1.ext hE3
  replace ho2 := ho2.ext hE3
  replace hEc := hEc.trans hE3
  refine wl_move (by decide) rfl ?_
  refine wl_extract (by decide) rfl rfl ?_
  refine wl_extract (by decide) rfl rfl ?_
  refine wl_assign (by decide) rfl ?_
  refine wl_assign (by decide) rfl ?_
  refine wl_nil ?_
  refine wk_norm ?_
  refine wc_seq ?_
  refine wc_region ?_
  refine wl_bsliceB (xs := [.const (.int .u8 2), .const (.int .u8 1), .const (.int .u8 0), .const (.int .u8 9)]) (bs := [2, 1, 0, 9]) (by decide) Try.sl22 rfl rfl rfl (by simp) w3.heap.size (Nat.le_refl _) ?_
  rintro g4 w4 hg4 ho4 hE4
  replace ho4 := ho4.bs.any
  replace ho1 := ho1.ext hE4
  replace ho2 := ho2.ext hE4
  replace ho3 := ho3.ext hE4
  replace hEc := hEc.trans hE4
  have hcl := takeNum_ok ho4
  refine wl_call (by decide) Try.cl20 rfl hcl ?_
  clear hcl
  rintro _ w5 ⟨A5, c5, rfl, ho5, hE5⟩
  have e5 : takeS [2, 1, 0, 9] = (256, [9], 0) := by decide +kernel
  rw [e5] at ho5 ⊢
  replace ho5 := ho5.bs.any
  replace ho1 := ho1.ext hE5
  replace ho2 := ho2.ext hE5
  replace ho3 := ho3.ext hE5
  replace ho4 := ho4.ext hE5
  replace hEc := hEc.trans hE5
  refine wl_move (by decide) rfl ?_
  refine wl_extract (by decide) rfl rfl ?_
  refine wl_extract (by decide) rfl rfl ?_
  refine wl_extract (by decide) rfl rfl ?_
  refine wl_assign (by decide) rfl ?_
  refine wl_assign (by decide) rfl ?_
  refine wl_assign (by decide) rfl ?_
  refine wl_nil ?_
  refine wk_norm ?_
  refine wc_seq ?_
  refine wc_region ?_
  refine wl_bsliceB (xs := [.const (.int .u8 1), .const (.int .u8 2), .const (.int .u8 170), .const (.int .u8 187), .const (.int .u8 204)]) (bs := [1, 2, 170, 187, 204]) (by decide) Try.sl22 rfl rfl rfl (by simp) w5.heap.size (Nat.le_refl _) ?_
  rintro g6 w6 hg6 ho6 hE6
  replace ho6 := ho6.bs.any
  replace ho1 := ho1.ext hE6
  replace ho2 := ho2.ext hE6
  replace ho3 := ho3.ext hE6
  replace ho4 := ho4.ext hE6
  replace ho5 := ho5.ext hE6
  replace hEc := hEc.trans hE6
  have hcl := takeStr_ok (most := 2) ho6
  refine wl_call (by decide) Try.cl27 rfl hcl ?_
  clear hcl
  rintro _ w7 ⟨A7, c7, A8, c8, rfl, ho7, ho8, hE7⟩
  have e7 : takeStrS [1, 2, 170, 187, 204] 2 = ([170, 187], [204], 0) := by decide +kernel
  rw [e7] at ho7 ho8 ⊢
  replace ho7 := ho7.bs.any
  replace ho8 := ho8.bs.any
  replace ho1 := ho1.ext hE7
  replace ho2 := ho2.ext hE7
  replace ho3 := ho3.ext hE7
  replace ho4 := ho4.ext hE7
  replace ho5 := ho5.ext hE7
  replace ho6 := ho6.ext hE7
  replace hEc := hEc.trans hE7
  refine wl_move (by decide) rfl ?_
  refine wl_extract (by decide) rfl rfl ?_
  refine wl_extract (by decide) rfl rfl ?_
  refine wl_extract (by decide) rfl rfl ?_
  refine wl_assign (by decide) rfl ?_
  refine wl_assign (by decide) rfl ?_
  refine wl_assign (by decide) rfl ?_
  refine wl_nil ?_
  refine wk_norm ?_
  refine wc_seq ?_
  refine wc_region ?_
  refine wl_move (by decide) rfl ?_
  refine wl_eql (by decide) rfl rfl ?_
  refine wl_re (k := 33) (v := .bool true) rfl (by simp) ?_
  refine wl_move (by decide) rfl ?_
  refine wl_gyes rfl rfl ?_
  refine wl_move (by decide) rfl ?_
  refine wl_gyes rfl rfl ?_
  refine wl_bsliceB (xs := [.const (.int .u8 2), .const (.int .u8 1), .const (.int .u8 0)]) (bs := [2, 1, 0]) (by decide) Try.sl22 rfl rfl rfl (by simp) w7.heap.size (Nat.le_refl _) ?_
  rintro g10 w10 hg10 ho10 hE10
  replace ho10 := ho10.bs.any
  replace ho1 := ho1.ext hE10
  replace ho2 := ho2.ext hE10
  replace ho3 := ho3.ext hE10
  replace ho4 := ho4.ext hE10
  replace ho5 := ho5.ext hE10
  replace ho6 := ho6.ext hE10
  replace ho7 := ho7.ext hE10
  replace ho8 := ho8.ext hE10
  replace hEc := hEc.trans hE10
  refine wl_gyes rfl rfl ?_
  have hcl := eqBytes_ok ho1 ho10
  refine wl_call (by decide) Try.cl22 rfl hcl ?_
  clear hcl
  rintro _ w11 ⟨rfl, hE11⟩
  replace ho1 := ho1.ext hE11
  replace ho2 := ho2.ext hE11
  replace ho3 := ho3.ext hE11
  replace ho4 := ho4.ext hE11
  replace ho5 := ho5.ext hE11
  replace ho6 := ho6.ext hE11
  replace ho7 := ho7.ext hE11
  replace ho8 := ho8.ext hE11
  replace ho10 := ho10.ext hE11
  replace hEc := hEc.trans hE11
  refine wl_re (k := 37) (v := .bool true) rfl (by simp) ?_
  refine wl_pick (by decide) rfl rfl ?_
  refine wl_move (by decide) rfl ?_
  refine wl_gyes rfl rfl ?_
  refine wl_move (by decide) rfl ?_
  refine wl_gyes rfl rfl ?_
  refine wl_eql (by decide) rfl rfl ?_
  refine wl_re (k := 41) (v := .bool true) rfl (by simp) ?_
  refine wl_pick (by decide) rfl rfl ?_
  refine wl_move (by decide) rfl ?_
  refine wl_gyes rfl rfl ?_
  refine wl_move (by decide) rfl ?_
  refine wl_gyes rfl rfl ?_
  refine wl_bsliceB (xs := [.const (.int .u8 1), .const (.int .u8 2), .const (.int .u8 170), .const (.int .u8 187)]) (bs := [1, 2, 170, 187]) (by decide) Try.sl22 rfl rfl rfl (by simp) w11.heap.size (Nat.le_refl _) ?_
  rintro g12 w12 hg12 ho12 hE12
  replace ho12 := ho12.bs.any
  replace ho1 := ho1.ext hE12
  replace ho2 := ho2.ext hE12
  replace ho3 := ho3.ext hE12
  replace ho4 := ho4.ext hE12
  replace ho5 := ho5.ext hE12
  replace ho6 := ho6.ext hE12
  replace ho7 := ho7.ext hE12
  replace ho8 := ho8.ext hE12
  replace ho10 := ho10.ext hE12
  replace hEc := hEc.trans hE12
  refine wl_gyes rfl rfl ?_
  have hcl := eqBytes_ok ho3 ho12
  refine wl_call (by decide) Try.cl22 rfl hcl ?_
  clear hcl
  rintro _ w13 ⟨rfl, hE13⟩
  replace ho1 := ho1.ext hE13
  replace ho2 := ho2.ext hE13
  replace ho3 := ho3.ext hE13
  replace ho4 := ho4.ext hE13
  replace ho5 := ho5.ext hE13
  replace ho6 := ho6.ext hE13
  replace ho7 := ho7.ext hE13
  replace ho8 := ho8.ext hE13
  replace ho10 := ho10.ext hE13
  replace ho12 := ho12.ext hE13
  replace hEc := hEc.trans hE13
  refine wl_re (k := 46) (v := .bool true) rfl (by simp) ?_
  refine wl_pick (by decide) rfl rfl ?_
  refine wl_move (by decide) rfl ?_
  refine wl_gyes rfl rfl ?_
  refine wl_move (by decide) rfl ?_
  refine wl_gyes rfl rfl ?_
  refine wl_eql (by decide) rfl rfl ?_
  refine wl_re (k := 50) (v := .bool true) rfl (by simp) ?_
  refine wl_pick (by decide) rfl rfl ?_
  refine wl_move (by decide) rfl ?_
  refine wl_gyes rfl rfl ?_
  refine wl_move (by decide) rfl ?_
  refine wl_gyes rfl rfl ?_
  refine wl_eql (by decide) rfl rfl ?_
  refine wl_re (k := 54) (v := .bool true) rfl (by simp) ?_
  refine wl_pick (by decide) rfl rfl ?_
  refine wl_move (by decide) rfl ?_
  refine wl_gyes rfl rfl ?_
  refine wl_move (by decide) rfl ?_
  refine wl_gyes rfl rfl ?_
  refine wl_bsliceB (xs := [.const (.int .u8 9)]) (bs := [9]) (by decide) Try.sl22 rfl rfl rfl (by simp) w13.heap.size (Nat.le_refl _) ?_
  rintro g14 w14 hg14 ho14 hE14
  replace ho14 := ho14.bs.any
  replace ho1 := ho1.ext hE14
  replace ho2 := ho2.ext hE14
  replace ho3 := ho3.ext hE14
  replace ho4 := ho4.ext hE14
  replace ho5 := ho5.ext hE14
  replace ho6 := ho6.ext hE14
  replace ho7 := ho7.ext hE14
  replace ho8 := ho8.ext hE14
  replace ho10 := ho10.ext hE14
  replace ho12 := ho12.ext hE14
  replace hEc := hEc.trans hE14
  refine wl_gyes rfl rfl ?_
  have hcl := eqBytes_ok ho5 ho14
  refine wl_call (by decide) Try.cl22 rfl hcl ?_
  clear hcl
  rintro _ w15 ⟨rfl, hE15⟩
  replace ho1 := ho1.ext hE15
  replace ho2 := ho2.ext hE15
  replace ho3 := ho3.ext hE15
  replace ho4 := ho4.ext hE15
  replace ho5 := ho5.ext hE15
  replace ho6 := ho6.ext hE15
  replace ho7 := ho7.ext hE15
  replace ho8 := ho8.ext hE15
  replace ho10 := ho10.ext hE15
  replace ho12 := ho12.ext hE15
  replace ho14 := ho14.ext hE15
  replace hEc := hEc.trans hE15
  refine wl_re (k := 59) (v := .bool true) rfl (by simp) ?_
  refine wl_pick (by decide) rfl rfl ?_
  refine wl_move (by decide) rfl ?_
  refine wl_gyes rfl rfl ?_
  refine wl_move (by decide) rfl ?_
  refine wl_gyes rfl rfl ?_
  refine wl_eql (by decide) rfl rfl ?_
  refine wl_re (k := 63) (v := .bool true) rfl (by simp) ?_
  refine wl_pick (by decide) rfl rfl ?_
  refine wl_move (by decide) rfl ?_
  refine wl_gyes rfl rfl ?_
  refine wl_move (by decide) rfl ?_
  refine wl_gyes rfl rfl ?_
  refine wl_bsliceB (xs := [.const (.int .u8 170), .const (.int .u8 187)]) (bs := [170, 187]) (by decide) Try.sl22 rfl rfl rfl (by simp) w15.heap.size (Nat.le_refl _) ?_
  rintro g16 w16 hg16 ho16 hE16
  replace ho16 := ho16.bs.any
  replace ho1 := ho1.ext hE16
  replace ho2 := ho2.ext hE16
  replace ho3 := ho3.ext hE16
  replace ho4 := ho4.ext hE16
  replace ho5 := ho5.ext hE16
  replace ho6 := ho6.ext hE16
  replace ho7 := ho7.ext hE16
  replace ho8 := ho8.ext hE16
  replace ho10 := ho10.ext hE16
  replace ho12 := ho12.ext hE16
  replace ho14 := ho14.ext hE16
  replace hEc := hEc.trans hE16
  refine wl_gyes rfl rfl ?_
  have hcl := eqBytes_ok ho7 ho16
  refine wl_call (by decide) Try.cl22 rfl hcl ?_
  clear hcl
  rintro _ w17 ⟨rfl, hE17⟩
  replace ho1 := ho1.ext hE17
  replace ho2 := ho2.ext hE17
  replace ho3 := ho3.ext hE17
  replace ho4 := ho4.ext hE17
  replace ho5 := ho5.ext hE17
  replace ho6 := ho6.ext hE17
  replace ho7 := ho7.ext hE17
  replace ho8 := ho8.ext hE17
  replace ho10 := ho10.ext hE17
  replace ho12 := ho12.ext hE17
  replace ho14 := ho14.ext hE17
  replace ho16 := ho16.ext hE17
  replace hEc := hEc.trans hE17
  refine wl_re (k := 68) (v := .bool true) rfl (by simp) ?_
  refine wl_pick (by decide) rfl rfl ?_
  refine wl_move (by decide) rfl ?_
  refine wl_gyes rfl rfl ?_
  refine wl_move (by decide) rfl ?_
  refine wl_gyes rfl rfl ?_
  refine wl_bsliceB (xs := [.const (.int .u8 204)]) (bs := [204]) (by decide) Try.sl22 rfl rfl rfl (by simp) w17.heap.size (Nat.le_refl _) ?_
  rintro g18 w18 hg18 ho18 hE18
  replace ho18 := ho18.bs.any
  replace ho1 := ho1.ext hE18
  replace ho2 := ho2.ext hE18
  replace ho3 := ho3.ext hE18
  replace ho4 := ho4.ext hE18
  replace ho5 := ho5.ext hE18
  replace ho6 := ho6.ext hE18
  replace ho7 := ho7.ext hE18
  replace ho8 := ho8.ext hE18
  replace ho10 := ho10.ext hE18
  replace ho12 := ho12.ext hE18
  replace ho14 := ho14.ext hE18
  replace ho16 := ho16.ext hE18
  replace hEc := hEc.trans hE18
  refine wl_gyes rfl rfl ?_
  have hcl := eqBytes_ok ho8 ho18
  refine wl_call (by decide) Try.cl22 rfl hcl ?_
  clear hcl
  rintro _ w19 ⟨rfl, hE19⟩
  replace ho1 := ho1.ext hE19
  replace ho2 := ho2.ext hE19
  replace ho3 := ho3.ext hE19
  replace ho4 := ho4.ext hE19
  replace ho5 := ho5.ext hE19
  replace ho6 := ho6.ext hE19
  replace ho7 := ho7.ext hE19
  replace ho8 := ho8.ext hE19
  replace ho10 := ho10.ext hE19
  replace ho12 := ho12.ext hE19
  replace ho14 := ho14.ext hE19
  replace ho16 := ho16.ext hE19
  replace ho18 := ho18.ext hE19
  replace hEc := hEc.trans hE19
  refine wl_re (k := 73) (v := .bool true) rfl (by simp) ?_
  refine wl_pick (by decide) rfl rfl ?_
  refine wl_assign (by decide) rfl ?_
  refine wl_nil ?_
  refine wk_norm ?_
  refine wc_ret ?_
  refine wk_post1 (.inl rfl) Try.results24 rfl ?_
  exact ⟨_, rfl, rfl, hEc⟩

theorem binAgain_ok {A : Option Addr} {c : Nat} {b : List UInt8} {S : Nat → Prop} {w : World} (hb : BS S w A c b) : Ret Try.prog 8 #[.slice A b.length c] w (fun v w' => v = .bool true ∧ Ext w w') := by
  replace hb := hb.any
  refine ret_of_wk Try.func8 rfl Try.ntmps8 (Nat.le_of_ble_eq_true rfl) ?_
  have hEc : Ext w w := Chg.refl _ _
  refine wc_seq ?_
  refine wc_region ?_
  refine wl_assign (by decide) rfl ?_
  refine wl_nil ?_
  refine wk_norm ?_
  refine wc_seq ?_
  refine wc_seq ?_
  refine wc_region ?_
  refine wl_call (by decide) Try.cl24 rfl (works_ok) ?_
  rintro _ w1 ⟨rfl, hE1⟩
  replace hb := hb.ext hE1
  replace hEc := hEc.trans hE1
  first | refine wl_notd (by decide) rfl ?_ | refine wl_not (by decide) rfl ?_
  refine wl_nil ?_
  refine wk_norm ?_
  refine wc_cond_f rfl ?_
  refine wc_skip ?_
  refine wk_norm ?_
  refine wc_seq ?_
  refine wc_region ?_
  refine wl_move (by decide) rfl ?_
  have hcl := takeNum_ok hb
  refine wl_call (by decide) Try.cl20 rfl hcl ?_
  clear hcl
  rintro _ w2 ⟨A2, c2, rfl, ho2, hE2⟩
  replace ho2 := ho2.bs.any
  replace hb := hb.ext hE2
  replace hEc := hEc.trans hE2
  refine wl_move (by decide) rfl ?_
  refine wl_extract (by decide) rfl rfl ?_
  refine wl_extract (by decide) rfl rfl ?_
  refine wl_extract (by decide) rfl rfl ?_
  refine wl_assign (by decide) rfl ?_
  refine wl_assign (by decide) rfl ?_
  refine wl_assign (by decide) rfl ?_
  refine wl_nil ?_
  refine wk_norm ?_
  refine wc_seq ?_
  refine wc_seq ?_
  refine wc_region ?_
  refine wl_move (by decide) rfl ?_
  refine wl_neq (by decide) rfl rfl ?_
  refine wl_nil ?_
  refine wk_norm ?_
  refine wc_cond rfl (fun he => ?_) (fun he => ?_)
  ·
    try replace he := of_decide_eq_true he
    have hz := takeS_err b he
    have hlim := takeS_lim b
    refine wc_seq ?_
    refine wc_region ?_
    refine wl_move (by decide) rfl ?_
    refine wl_eql (by decide) rfl rfl ?_
    refine wl_re (k := 19) (v := .bool true) rfl (congrArg Value.bool (decide_eq_true (by first | omega | (simp [hz.2])))) ?_
    refine wl_move (by decide) rfl ?_
    refine wl_gyes rfl rfl ?_
    refine wl_move (by decide) rfl ?_
    refine wl_gyes rfl rfl ?_
    refine wl_len (by decide) Try.underlying22 rfl ?_
    refine wl_gyes rfl rfl ?_
    refine wl_eql (by decide) rfl rfl ?_
    refine wl_re (k := 23) (v := .bool true) rfl (congrArg Value.bool (decide_eq_true (by first | omega | (simp [hz.2])))) ?_
    refine wl_pick (by decide) rfl rfl ?_
    refine wl_assign (by decide) rfl ?_
    refine wl_nil ?_
    refine wk_norm ?_
    refine wc_ret ?_
    refine wk_then_ret ?_
    refine wk_post1 (.inl rfl) Try.results8 rfl ?_
    exact ⟨_, rfl, rfl, hEc⟩
  ·
    try replace he := of_decide_eq_false he
    have hbk := takeS_back b (by omega)
    have hlim := takeS_lim b
    have hns : numS (takeS b).1 = (numL (takeS b).1.toNat, 0) := by rw [numS, if_neg (by omega)]
    have hbl := congrArg List.length hbk.1
    rw [List.length_append] at hbl
    have hmx := hb.mx
    refine wc_skip ?_
    refine wk_norm ?_
    refine wc_seq ?_
    refine wc_region ?_
    refine wl_move (by decide) rfl ?_
    refine wl_call (by decide) Try.cl17 rfl (num_ok (by omega) (by omega)) ?_
    rintro _ w3 ⟨A3, c3, rfl, ho3, hE3⟩
    replace ho3 := ho3.bs.any
    replace hb := hb.ext hE3
    replace ho2 := ho2.ext hE3
    replace hEc := hEc.trans hE3
    rw [hns] at ho3 ⊢
    refine wl_move (by decide) rfl ?_
    refine wl_extract (by decide) rfl rfl ?_
    refine wl_extract (by decide) rfl rfl ?_
    refine wl_assign (by decide) rfl ?_
    refine wl_assign (by decide) rfl ?_
    refine wl_nil ?_
    refine wk_norm ?_
    refine wc_seq ?_
    refine wc_region ?_
    refine wl_move (by decide) rfl ?_
    refine wl_eql (by decide) rfl rfl ?_
    refine wl_re (k := 31) (v := .bool true) rfl (congrArg Value.bool (decide_eq_true (by first | rfl | (simpa using hbk.1.symm)))) ?_
    refine wl_move (by decide) rfl ?_
    refine wl_gyes rfl rfl ?_
    refine wl_move (by decide) rfl ?_
    refine wl_gyes rfl rfl ?_
    refine wl_move (by decide) rfl ?_
    refine wl_gyes rfl rfl ?_
    refine wl_bsliceS (xs := [.tmp 33, .tmp 34]) (by decide) Try.sl45 rfl rfl (by rfl) (by decide) (SlicesOf.cons ho3 (SlicesOf.cons ho2 SlicesOf.nil)) ?_
    rintro g4 w4 hs4 hE4
    replace hb := hb.ext hE4
    replace ho2 := ho2.ext hE4
    replace ho3 := ho3.ext hE4
    replace hEc := hEc.trans hE4
    refine wl_gyes rfl rfl ?_
    have hcl := join_ok hs4 (by simp; omega)
    refine wl_call (by decide) Try.cl31 rfl hcl ?_
    clear hcl
    rintro _ w5 ⟨A5, c5, rfl, ho5, hE5⟩
    replace ho5 := ho5.bs.any
    replace hb := hb.ext hE5
    replace ho2 := ho2.ext hE5
    replace ho3 := ho3.ext hE5
    replace hs4 := hs4.ext hE5
    replace hEc := hEc.trans hE5
    refine wl_gyes rfl rfl ?_
    refine wl_move (by decide) rfl ?_
    refine wl_gyes rfl rfl ?_
    have hcl := eqBytes_ok ho5 hb
    refine wl_call (by decide) Try.cl22 rfl hcl ?_
    clear hcl
    rintro _ w6 ⟨rfl, hE6⟩
    replace hb := hb.ext hE6
    replace ho2 := ho2.ext hE6
    replace ho3 := ho3.ext hE6
    replace hs4 := hs4.ext hE6
    replace ho5 := ho5.ext hE6
    replace hEc := hEc.trans hE6
    refine wl_re (k := 38) (v := .bool true) rfl (congrArg Value.bool (decide_eq_true (by first | rfl | (simpa using hbk.1.symm)))) ?_
    refine wl_pick (by decide) rfl rfl ?_
    refine wl_assign (by decide) rfl ?_
    refine wl_nil ?_
    refine wk_norm ?_
    refine wc_ret ?_
    refine wk_post1 (.inl rfl) Try.results8 rfl ?_
    exact ⟨_, rfl, rfl, hEc⟩

theorem binTaken_ok {A : Option Addr} {c : Nat} {b : List UInt8} {S : Nat → Prop} {most : Int} {w : World} (hb : BS S w A c b) : Ret Try.prog 10 #[.slice A b.length c, .int .i64 most] w (fun v w' => v = .bool true ∧ Ext w w') := by
  replace hb := hb.any
  refine ret_of_wk Try.func10 rfl Try.ntmps10 (Nat.le_of_ble_eq_true rfl) ?_
  have hEc : Ext w w := Chg.refl _ _
  refine wc_seq ?_
  refine wc_region ?_
  refine wl_assign (by decide) rfl ?_
  refine wl_nil ?_
  refine wk_norm ?_
  refine wc_seq ?_
  refine wc_seq ?_
  refine wc_region ?_
  refine wl_call (by decide) Try.cl24 rfl (works_ok) ?_
  rintro _ w1 ⟨rfl, hE1⟩
  replace hb := hb.ext hE1
  replace hEc := hEc.trans hE1
  first | refine wl_notd (by decide) rfl ?_ | refine wl_not (by decide) rfl ?_
  refine wl_nil ?_
  refine wk_norm ?_
  refine wc_cond_f rfl ?_
  refine wc_skip ?_
  refine wk_norm ?_
  refine wc_seq ?_
  refine wc_region ?_
  refine wl_move (by decide) rfl ?_
  refine wl_move (by decide) rfl ?_
  refine wl_call (by decide) Try.cl27 rfl (takeStr_ok hb) ?_
  rintro _ w2 ⟨A2, c2, B2, d2, rfl, ho2, hp2, hE2⟩
  replace ho2 := ho2.bs.any
  replace hp2 := hp2.bs.any
  replace hb := hb.ext hE2
  replace hEc := hEc.trans hE2
  refine wl_move (by decide) rfl ?_
  refine wl_extract (by decide) rfl rfl ?_
  refine wl_extract (by decide) rfl rfl ?_
  refine wl_extract (by decide) rfl rfl ?_
  refine wl_assign (by decide) rfl ?_
  refine wl_assign (by decide) rfl ?_
  refine wl_assign (by decide) rfl ?_
  refine wl_nil ?_
  refine wk_norm ?_
  refine wc_seq ?_
  refine wc_seq ?_
  refine wc_region ?_
  refine wl_move (by decide) rfl ?_
  refine wl_neq (by decide) rfl rfl ?_
  refine wl_nil ?_
  refine wk_norm ?_
  refine wc_cond rfl (fun he => ?_) (fun he => ?_)
  ·
    try replace he := of_decide_eq_true he
    have hz := takeStr_err b most he
    refine wc_seq ?_
    refine wc_region ?_
    refine wl_move (by decide) rfl ?_
    refine wl_len (by decide) Try.underlying22 rfl ?_
    refine wl_eql (by decide) rfl rfl ?_
    refine wl_re (k := 23) (v := .bool true) rfl (congrArg Value.bool (decide_eq_true (by simp [hz.1, hz.2]))) ?_
    refine wl_move (by decide) rfl ?_
    refine wl_gyes rfl rfl ?_
    refine wl_move (by decide) rfl ?_
    refine wl_gyes rfl rfl ?_
    refine wl_len (by decide) Try.underlying22 rfl ?_
    refine wl_gyes rfl rfl ?_
    refine wl_eql (by decide) rfl rfl ?_
    refine wl_re (k := 27) (v := .bool true) rfl (congrArg Value.bool (decide_eq_true (by simp [hz.1, hz.2]))) ?_
    refine wl_pick (by decide) rfl rfl ?_
    refine wl_assign (by decide) rfl ?_
    refine wl_nil ?_
    refine wk_norm ?_
    refine wc_ret ?_
    refine wk_then_ret ?_
    refine wk_post1 (.inl rfl) Try.results10 rfl ?_
    exact ⟨_, rfl, rfl, hEc⟩
  ·
    try replace he := of_decide_eq_false he
    have hbk := takeStr_back b most (by omega)
    have hss : strS (takeStrS b most).1 = (numL (takeStrS b most).1.length ++ (takeStrS b most).1, 0) := by simp only [strS]; rw [if_neg (by omega)]
    have hbl := congrArg List.length hbk.1
    simp only [List.length_append] at hbl
    have hmx := hb.mx
    refine wc_skip ?_
    refine wk_norm ?_
    refine wc_seq ?_
    refine wc_region ?_
    refine wl_move (by decide) rfl ?_
    have hcl := str_ok ho2
    refine wl_call (by decide) Try.cl25 rfl hcl ?_
    clear hcl
    rintro _ w3 ⟨A3, c3, rfl, ho3, hE3⟩
    replace ho3 := ho3.bs.any
    replace hb := hb.ext hE3
    replace ho2 := ho2.ext hE3
    replace hp2 := hp2.ext hE3
    replace hEc := hEc.trans hE3
    rw [hss] at ho3 ⊢
    refine wl_move (by decide) rfl ?_
    refine wl_extract (by decide) rfl rfl ?_
    refine wl_extract (by decide) rfl rfl ?_
    refine wl_assign (by decide) rfl ?_
    refine wl_assign (by decide) rfl ?_
    refine wl_nil ?_
    refine wk_norm ?_
    refine wc_seq ?_
    refine wc_region ?_
    refine wl_move (by decide) rfl ?_
    refine wl_eql (by decide) rfl rfl ?_
    refine wl_re (k := 35) (v := .bool true) rfl (congrArg Value.bool (decide_eq_true (by rfl))) ?_
    refine wl_move (by decide) rfl ?_
    refine wl_gyes rfl rfl ?_
    refine wl_move (by decide) rfl ?_
    refine wl_gyes rfl rfl ?_
    refine wl_len (by decide) Try.underlying22 rfl ?_
    refine wl_gyes rfl rfl ?_
    refine wl_move (by decide) rfl ?_
    refine wl_gyes rfl rfl ?_
    refine wl_leq (by decide) rfl rfl ?_
    refine wl_re (k := 40) (v := .bool true) rfl (congrArg Value.bool (decide_eq_true (by omega))) ?_
    refine wl_pick (by decide) rfl rfl ?_
    refine wl_move (by decide) rfl ?_
    refine wl_gyes rfl rfl ?_
    refine wl_move (by decide) rfl ?_
    refine wl_gyes rfl rfl ?_
    refine wl_move (by decide) rfl ?_
    refine wl_gyes rfl rfl ?_
    refine wl_bsliceS (xs := [.tmp 43, .tmp 44]) (by decide) Try.sl45 rfl rfl (by rfl) (by decide) (SlicesOf.cons ho3 (SlicesOf.cons hp2 SlicesOf.nil)) ?_
    rintro g4 w4 hs4 hE4
    replace hb := hb.ext hE4
    replace ho2 := ho2.ext hE4
    replace hp2 := hp2.ext hE4
    replace ho3 := ho3.ext hE4
    replace hEc := hEc.trans hE4
    refine wl_gyes rfl rfl ?_
    have hcl := join_ok hs4 (by simp; omega)
    refine wl_call (by decide) Try.cl31 rfl hcl ?_
    clear hcl
    rintro _ w5 ⟨A5, c5, rfl, ho5, hE5⟩
    replace ho5 := ho5.bs.any
    replace hb := hb.ext hE5
    replace ho2 := ho2.ext hE5
    replace hp2 := hp2.ext hE5
    replace ho3 := ho3.ext hE5
    replace hs4 := hs4.ext hE5
    replace hEc := hEc.trans hE5
    refine wl_gyes rfl rfl ?_
    refine wl_move (by decide) rfl ?_
    refine wl_gyes rfl rfl ?_
    have hcl := eqBytes_ok ho5 hb
    refine wl_call (by decide) Try.cl22 rfl hcl ?_
    clear hcl
    rintro _ w6 ⟨rfl, hE6⟩
    replace hb := hb.ext hE6
    replace ho2 := ho2.ext hE6
    replace hp2 := hp2.ext hE6
    replace ho3 := ho3.ext hE6
    replace hs4 := hs4.ext hE6
    replace ho5 := ho5.ext hE6
    replace hEc := hEc.trans hE6
    refine wl_re (k := 48) (v := .bool true) rfl (congrArg Value.bool (decide_eq_true (by simpa using hbk.1.symm))) ?_
    refine wl_pick (by decide) rfl rfl ?_
    refine wl_assign (by decide) rfl ?_
    refine wl_nil ?_
    refine wk_norm ?_
    refine wc_ret ?_
    refine wk_post1 (.inl rfl) Try.results10 rfl ?_
    exact ⟨_, rfl, rfl, hEc⟩

theorem binBack_ok {A : Option Addr} {c : Nat} {b : List UInt8} {S : Nat → Prop} {n : Int} {w : World} (h1 : -9223372036854775808 ≤ n) (h2 : n ≤ 9223372036854775807) (hb : BS S w A c b) : Ret Try.prog 7 #[.int .i64 n, .slice A b.length c] w (fun v w' => v = .bool true ∧ Ext w w') := by
  replace hb := hb.any
  refine ret_of_wk Try.func7 rfl Try.ntmps7 (Nat.le_of_ble_eq_true rfl) ?_
  have hEc : Ext w w := Chg.refl _ _
  refine wc_seq ?_
  refine wc_region ?_
  refine wl_assign (by decide) rfl ?_
  refine wl_nil ?_
  refine wk_norm ?_
  refine wc_seq ?_
  refine wc_seq ?_
  refine wc_region ?_
  refine wl_call (by decide) Try.cl24 rfl (works_ok) ?_
  rintro _ w1 ⟨rfl, hE1⟩
  replace hb := hb.ext hE1
  replace hEc := hEc.trans hE1
  first | refine wl_notd (by decide) rfl ?_ | refine wl_not (by decide) rfl ?_
  refine wl_nil ?_
  refine wk_norm ?_
  refine wc_cond_f rfl ?_
  refine wc_skip ?_
  refine wk_norm ?_
  refine wc_seq ?_
  refine wc_region ?_
  refine wl_move (by decide) rfl ?_
  refine wl_move (by decide) rfl ?_
  refine wl_len (by decide) Try.underlying22 rfl ?_
  refine wl_min (by decide) rfl rfl ?_
  refine wl_to (by decide) Try.sl22 rfl rfl hb (min b.length 1000) (by omega) (by omega) ?_
  intro hb1
  have hbl1 : (b.take (min b.length 1000)).length ≤ 1000 := by rw [List.length_take]; omega
  generalize b.take (min b.length 1000) = b1 at hb1 hbl1 ⊢
  refine wl_assign (by decide) rfl ?_
  refine wl_nil ?_
  refine wk_norm ?_
  refine wc_seq ?_
  refine wc_region ?_
  refine wl_move (by decide) rfl ?_
  refine wl_call (by decide) Try.cl17 rfl (num_ok (by omega) (by omega)) ?_
  rintro _ w2 ⟨A2, c2, rfl, ho2, hE2⟩
  replace ho2 := ho2.bs.any
  replace hb := hb.ext hE2
  replace hb1 := hb1.ext hE2
  replace hEc := hEc.trans hE2
  have hns0 : (n < 0 ∨ 9007199254740991 < n) → numS n = ([], 9) := fun h => by rw [numS, if_pos h]
  have hns1 : ¬ (n < 0 ∨ 9007199254740991 < n) → numS n = (numL n.toNat, 0) := fun h => by rw [numS, if_neg h]
  refine wl_move (by decide) rfl ?_
  refine wl_extract (by decide) rfl rfl ?_
  refine wl_extract (by decide) rfl rfl ?_
  refine wl_assign (by decide) rfl ?_
  refine wl_assign (by decide) rfl ?_
  refine wl_nil ?_
  refine wk_norm ?_
  refine wc_seq ?_
  refine wc_seq ?_
  refine wc_region ?_
  refine wl_move (by decide) rfl ?_
  refine wl_neq (by decide) rfl rfl ?_
  refine wl_nil ?_
  refine wk_norm ?_
  refine wc_cond rfl (fun he => ?_) (fun he => ?_)
  ·
    try replace he := of_decide_eq_true he
    have hor : n < 0 ∨ 9007199254740991 < n := Decidable.byContradiction fun h => he (by rw [hns1 h])
    have hns := hns0 hor
    refine wc_seq ?_
    refine wc_region ?_
    refine wl_move (by decide) rfl ?_
    refine wl_eql (by decide) rfl rfl ?_
    refine wl_re (k := 25) (v := .bool true) rfl (congrArg Value.bool (decide_eq_true (by rw [hns]))) ?_
    refine wl_move (by decide) rfl ?_
    refine wl_gyes rfl rfl ?_
    refine wl_move (by decide) rfl ?_
    refine wl_gyes rfl rfl ?_
    refine wl_len (by decide) Try.underlying22 rfl ?_
    refine wl_gyes rfl rfl ?_
    refine wl_eql (by decide) rfl rfl ?_
    refine wl_re (k := 29) (v := .bool true) rfl (congrArg Value.bool (decide_eq_true (by rw [hns]; rfl))) ?_
    refine wl_pick (by decide) rfl rfl ?_
    refine wl_move (by decide) rfl ?_
    refine wl_gyes rfl rfl ?_
    refine wl_move (by decide) rfl ?_
    refine wl_gyes rfl rfl ?_
    refine wl_lss (by decide) rfl rfl ?_
    refine wl_gyes rfl rfl ?_
    refine wl_move (by decide) rfl ?_
    refine wl_gsplit (dj := 34) rfl (fun hlo => ?_) (fun hlo => ?_)
    ·
      try replace hlo := of_decide_eq_true hlo
      refine wl_gno (by decide) rfl rfl (.inl rfl) ?_
      refine wl_gno (by decide) rfl rfl (.inl rfl) ?_
      refine wl_gyes rfl rfl ?_
      refine wl_pick (by decide) rfl rfl ?_
      refine wl_pick (by decide) rfl rfl ?_
      refine wl_assign (by decide) rfl ?_
      refine wl_nil ?_
      refine wk_norm ?_
      refine wc_ret ?_
      refine wk_then_ret ?_
      refine wk_post1 (.inl rfl) Try.results7 rfl ?_
      exact ⟨_, rfl, rfl, hEc⟩
    ·
      try replace hlo := of_decide_eq_false hlo
      refine wl_gyes rfl rfl ?_
      refine wl_move (by decide) rfl ?_
      refine wl_gyes rfl rfl ?_
      refine wl_gtr (by decide) rfl rfl ?_
      refine wl_re (k := 36) (v := .bool true) rfl (congrArg Value.bool (decide_eq_true (by omega))) ?_
      refine wl_gyes rfl rfl ?_
      refine wl_pick (by decide) rfl rfl ?_
      refine wl_pick (by decide) rfl rfl ?_
      refine wl_assign (by decide) rfl ?_
      refine wl_nil ?_
      refine wk_norm ?_
      refine wc_ret ?_
      refine wk_then_ret ?_
      refine wk_post1 (.inl rfl) Try.results7 rfl ?_
      exact ⟨_, rfl, rfl, hEc⟩
  ·
    try replace he := of_decide_eq_false he
    have hin : ¬ (n < 0 ∨ 9007199254740991 < n) := fun h => he (by rw [hns0 h]; decide)
    have hns := hns1 hin
    have hna : (numS n).1 = numL n.toNat := by rw [hns]
    rw [hna] at ho2 ⊢
    have hnl := numL_len n.toNat (by omega)
    have htk := takeS_num n.toNat (by omega) b1
    have hfl : [numL n.toNat, b1].flatten = numL n.toNat ++ b1 := by simp
    refine wc_skip ?_
    refine wk_norm ?_
    refine wc_seq ?_
    refine wc_region ?_
    refine wl_move (by decide) rfl ?_
    refine wl_move (by decide) rfl ?_
    refine wl_bsliceS (xs := [.tmp 40, .tmp 41]) (by decide) Try.sl45 rfl rfl (by rfl) (by decide) (SlicesOf.cons ho2 (SlicesOf.cons hb1 SlicesOf.nil)) ?_
    rintro g3 w3 hs3 hE3
    replace hb := hb.ext hE3
    replace hb1 := hb1.ext hE3
    replace ho2 := ho2.ext hE3
    replace hEc := hEc.trans hE3
    have hcl := join_ok hs3 (by simp; omega)
    refine wl_call (by decide) Try.cl31 rfl hcl ?_
    clear hcl
    rintro _ w4 ⟨A4, c4, rfl, ho4, hE4⟩
    replace ho4 := ho4.bs.any
    replace hb := hb.ext hE4
    replace hb1 := hb1.ext hE4
    replace ho2 := ho2.ext hE4
    replace hs3 := hs3.ext hE4
    replace hEc := hEc.trans hE4
    rw [hfl] at ho4 ⊢
    have hcl := takeNum_ok ho4
    refine wl_call (by decide) Try.cl20 rfl hcl ?_
    clear hcl
    rintro _ w5 ⟨A5, c5, rfl, ho5, hE5⟩
    replace ho5 := ho5.bs.any
    replace hb := hb.ext hE5
    replace hb1 := hb1.ext hE5
    replace ho2 := ho2.ext hE5
    replace hs3 := hs3.ext hE5
    replace ho4 := ho4.ext hE5
    replace hEc := hEc.trans hE5
    rw [htk] at ho5 ⊢
    refine wl_move (by decide) rfl ?_
    refine wl_extract (by decide) rfl rfl ?_
    refine wl_extract (by decide) rfl rfl ?_
    refine wl_extract (by decide) rfl rfl ?_
    refine wl_assign (by decide) rfl ?_
    refine wl_assign (by decide) rfl ?_
    refine wl_assign (by decide) rfl ?_
    refine wl_nil ?_
    refine wk_norm ?_
    refine wc_seq ?_
    refine wc_region ?_
    refine wl_move (by decide) rfl ?_
    refine wl_eql (by decide) rfl rfl ?_
    refine wl_re (k := 49) (v := .bool true) rfl (congrArg Value.bool (decide_eq_true (by rfl))) ?_
    refine wl_move (by decide) rfl ?_
    refine wl_gyes rfl rfl ?_
    refine wl_move (by decide) rfl ?_
    refine wl_gyes rfl rfl ?_
    refine wl_move (by decide) rfl ?_
    refine wl_gyes rfl rfl ?_
    refine wl_eql (by decide) rfl rfl ?_
    refine wl_re (k := 53) (v := .bool true) rfl (congrArg Value.bool (decide_eq_true (by omega))) ?_
    refine wl_pick (by decide) rfl rfl ?_
    refine wl_move (by decide) rfl ?_
    refine wl_gyes rfl rfl ?_
    refine wl_move (by decide) rfl ?_
    refine wl_gyes rfl rfl ?_
    refine wl_move (by decide) rfl ?_
    refine wl_gyes rfl rfl ?_
    have hcl := eqBytes_ok ho5 hb1
    refine wl_call (by decide) Try.cl22 rfl hcl ?_
    clear hcl
    rintro _ w6 ⟨rfl, hE6⟩
    replace hb := hb.ext hE6
    replace hb1 := hb1.ext hE6
    replace ho2 := ho2.ext hE6
    replace hs3 := hs3.ext hE6
    replace ho4 := ho4.ext hE6
    replace ho5 := ho5.ext hE6
    replace hEc := hEc.trans hE6
    refine wl_re (k := 58) (v := .bool true) rfl (congrArg Value.bool (decide_eq_true (by rfl))) ?_
    refine wl_pick (by decide) rfl rfl ?_
    refine wl_move (by decide) rfl ?_
    refine wl_gyes rfl rfl ?_
    refine wl_move (by decide) rfl ?_
    refine wl_gyes rfl rfl ?_
    refine wl_len (by decide) Try.underlying22 rfl ?_
    refine wl_gyes rfl rfl ?_
    refine wl_geq (by decide) rfl rfl ?_
    refine wl_re (k := 63) (v := .bool true) rfl (congrArg Value.bool (decide_eq_true (by simp [numL]; omega))) ?_
    refine wl_pick (by decide) rfl rfl ?_
    refine wl_move (by decide) rfl ?_
    refine wl_gyes rfl rfl ?_
    refine wl_move (by decide) rfl ?_
    refine wl_gyes rfl rfl ?_
    refine wl_len (by decide) Try.underlying22 rfl ?_
    refine wl_gyes rfl rfl ?_
    refine wl_leq (by decide) rfl rfl ?_
    refine wl_re (k := 68) (v := .bool true) rfl (congrArg Value.bool (decide_eq_true (by omega))) ?_
    refine wl_pick (by decide) rfl rfl ?_
    refine wl_assign (by decide) rfl ?_
    refine wl_nil ?_
    refine wk_norm ?_
    refine wc_ret ?_
    refine wk_post1 (.inl rfl) Try.results7 rfl ?_
    exact ⟨_, rfl, rfl, hEc⟩

theorem binTexts_ok {A B : Option Addr} {c d : Nat} {s b : List UInt8} {S S2 : Nat → Prop} {most : Int} {w : World} (hs : BS S w A c s) (hb : BS S2 w B d b) : Ret Try.prog 9 #[.slice A s.length c, .slice B b.length d, .int .i64 most] w (fun v w' => v = .bool true ∧ Ext w w') := by
  replace hs := hs.any
  replace hb := hb.any
  refine ret_of_wk Try.func9 rfl Try.ntmps9 (Nat.le_of_ble_eq_true rfl) ?_
  have hEc : Ext w w := Chg.refl _ _
  refine wc_seq ?_
  refine wc_region ?_
  refine wl_assign (by decide) rfl ?_
  refine wl_nil ?_
  refine wk_norm ?_
  refine wc_seq ?_
  refine wc_seq ?_
  refine wc_region ?_
  refine wl_call (by decide) Try.cl24 rfl (works_ok) ?_
  rintro _ w1 ⟨rfl, hE1⟩
  replace hs := hs.ext hE1
  replace hb := hb.ext hE1
  replace hEc := hEc.trans hE1
  first | refine wl_notd (by decide) rfl ?_ | refine wl_not (by decide) rfl ?_
  refine wl_nil ?_
  refine wk_norm ?_
  refine wc_cond_f rfl ?_
  refine wc_skip ?_
  refine wk_norm ?_
  refine wc_seq ?_
  refine wc_region ?_
  refine wl_move (by decide) rfl ?_
  refine wl_move (by decide) rfl ?_
  refine wl_len (by decide) Try.underlying22 rfl ?_
  refine wl_min (by decide) rfl rfl ?_
  refine wl_to (by decide) Try.sl22 rfl rfl hb (min b.length 1000) (by omega) (by omega) ?_
  intro hb1
  have hbl1 : (b.take (min b.length 1000)).length ≤ 1000 := by rw [List.length_take]; omega
  generalize b.take (min b.length 1000) = b1 at hb1 hbl1 ⊢
  refine wl_assign (by decide) rfl ?_
  refine wl_nil ?_
  refine wk_norm ?_
  refine wc_seq ?_
  refine wc_region ?_
  refine wl_move (by decide) rfl ?_
  have hcl := str_ok hs
  refine wl_call (by decide) Try.cl25 rfl hcl ?_
  clear hcl
  rintro _ w2 ⟨A2, c2, rfl, ho2, hE2⟩
  replace ho2 := ho2.bs.any
  replace hs := hs.ext hE2
  replace hb := hb.ext hE2
  replace hb1 := hb1.ext hE2
  replace hEc := hEc.trans hE2
  have hs0 : 65536 < s.length → strS s = ([], 5) := fun h => by simp only [strS]; rw [if_pos h]
  have hs1 : ¬ 65536 < s.length → strS s = (numL s.length ++ s, 0) := fun h => by simp only [strS]; rw [if_neg h]
  refine wl_move (by decide) rfl ?_
  refine wl_extract (by decide) rfl rfl ?_
  refine wl_extract (by decide) rfl rfl ?_
  refine wl_assign (by decide) rfl ?_
  refine wl_assign (by decide) rfl ?_
  refine wl_nil ?_
  refine wk_norm ?_
  refine wc_seq ?_
  refine wc_seq ?_
  refine wc_region ?_
  refine wl_move (by decide) rfl ?_
  refine wl_neq (by decide) rfl rfl ?_
  refine wl_nil ?_
  refine wk_norm ?_
  refine wc_cond rfl (fun he => ?_) (fun he => ?_)
  ·
    try replace he := of_decide_eq_true he
    have hor : 65536 < s.length := Decidable.byContradiction fun h => he (by rw [hs1 h])
    have hns := hs0 hor
    refine wc_seq ?_
    refine wc_region ?_
    refine wl_move (by decide) rfl ?_
    refine wl_eql (by decide) rfl rfl ?_
    refine wl_re (k := 27) (v := .bool true) rfl (congrArg Value.bool (decide_eq_true (by rw [hns]))) ?_
    refine wl_move (by decide) rfl ?_
    refine wl_gyes rfl rfl ?_
    refine wl_move (by decide) rfl ?_
    refine wl_gyes rfl rfl ?_
    refine wl_len (by decide) Try.underlying22 rfl ?_
    refine wl_gyes rfl rfl ?_
    refine wl_gtr (by decide) rfl rfl ?_
    refine wl_re (k := 31) (v := .bool true) rfl (congrArg Value.bool (decide_eq_true (by omega))) ?_
    refine wl_pick (by decide) rfl rfl ?_
    refine wl_move (by decide) rfl ?_
    refine wl_gyes rfl rfl ?_
    refine wl_move (by decide) rfl ?_
    refine wl_gyes rfl rfl ?_
    refine wl_len (by decide) Try.underlying22 rfl ?_
    refine wl_gyes rfl rfl ?_
    refine wl_eql (by decide) rfl rfl ?_
    refine wl_re (k := 36) (v := .bool true) rfl (congrArg Value.bool (decide_eq_true (by rw [hns]; rfl))) ?_
    refine wl_pick (by decide) rfl rfl ?_
    refine wl_assign (by decide) rfl ?_
    refine wl_nil ?_
    refine wk_norm ?_
    refine wc_ret ?_
    refine wk_then_ret ?_
    refine wk_post1 (.inl rfl) Try.results9 rfl ?_
    exact ⟨_, rfl, rfl, hEc⟩
  ·
    try replace he := of_decide_eq_false he
    have hin : ¬ 65536 < s.length := fun h => he (by rw [hs0 h]; decide)
    have hns := hs1 hin
    have hna : (strS s).1 = numL s.length ++ s := by rw [hns]
    rw [hna] at ho2 ⊢
    have hnl := numL_len s.length (by omega)
    have htk := takeStr_str s b1 most (by omega)
    have hfl : [numL s.length ++ s, b1].flatten = numL s.length ++ s ++ b1 := by simp
    refine wc_skip ?_
    refine wk_norm ?_
    refine wc_seq ?_
    refine wc_region ?_
    refine wl_move (by decide) rfl ?_
    refine wl_move (by decide) rfl ?_
    refine wl_bsliceS (xs := [.tmp 39, .tmp 40]) (by decide) Try.sl45 rfl rfl (by rfl) (by decide) (SlicesOf.cons ho2 (SlicesOf.cons hb1 SlicesOf.nil)) ?_
    rintro g3 w3 hs3 hE3
    replace hs := hs.ext hE3
    replace hb := hb.ext hE3
    replace hb1 := hb1.ext hE3
    replace ho2 := ho2.ext hE3
    replace hEc := hEc.trans hE3
    have hcl := join_ok hs3 (by simp; omega)
    refine wl_call (by decide) Try.cl31 rfl hcl ?_
    clear hcl
    rintro _ w4 ⟨A4, c4, rfl, ho4, hE4⟩
    replace ho4 := ho4.bs.any
    replace hs := hs.ext hE4
    replace hb := hb.ext hE4
    replace hb1 := hb1.ext hE4
    replace ho2 := ho2.ext hE4
    replace hs3 := hs3.ext hE4
    replace hEc := hEc.trans hE4
    rw [hfl] at ho4 ⊢
    refine wl_move (by decide) rfl ?_
    refine wl_call (by decide) Try.cl27 rfl (takeStr_ok ho4) ?_
    rintro _ w5 ⟨A5, c5, B5, d5, rfl, ho5, hp5, hE5⟩
    replace ho5 := ho5.bs.any
    replace hp5 := hp5.bs.any
    replace hs := hs.ext hE5
    replace hb := hb.ext hE5
    replace hb1 := hb1.ext hE5
    replace ho2 := ho2.ext hE5
    replace hs3 := hs3.ext hE5
    replace ho4 := ho4.ext hE5
    replace hEc := hEc.trans hE5
    refine wl_move (by decide) rfl ?_
    refine wl_extract (by decide) rfl rfl ?_
    refine wl_extract (by decide) rfl rfl ?_
    refine wl_extract (by decide) rfl rfl ?_
    refine wl_assign (by decide) rfl ?_
    refine wl_assign (by decide) rfl ?_
    refine wl_assign (by decide) rfl ?_
    refine wl_nil ?_
    refine wk_norm ?_
    refine wc_seq ?_
    refine wc_seq ?_
    refine wc_region ?_
    refine wl_move (by decide) rfl ?_
    refine wl_lss (by decide) rfl rfl ?_
    refine wl_nil ?_
    refine wk_norm ?_
    refine wc_cond rfl (fun hm0 => ?_) (fun hm0 => ?_)
    ·
      try replace hm0 := of_decide_eq_true hm0
      rw [if_pos hm0] at htk
      refine wc_seq ?_
      refine wc_region ?_
      refine wl_move (by decide) rfl ?_
      refine wl_eql (by decide) rfl rfl ?_
      refine wl_re (k := 51) (v := .bool true) rfl (congrArg Value.bool (decide_eq_true (by rw [htk]))) ?_
      refine wl_assign (by decide) rfl ?_
      refine wl_nil ?_
      refine wk_norm ?_
      refine wc_ret ?_
      refine wk_then_ret ?_
      refine wk_post1 (.inl rfl) Try.results9 rfl ?_
      exact ⟨_, rfl, rfl, hEc⟩
    ·
      try replace hm0 := of_decide_eq_false hm0
      rw [if_neg hm0] at htk
      refine wc_skip ?_
      refine wk_norm ?_
      refine wc_seq ?_
      refine wc_seq ?_
      refine wc_region ?_
      refine wl_move (by decide) rfl ?_
      refine wl_move (by decide) rfl ?_
      refine wl_len (by decide) Try.underlying22 rfl ?_
      refine wl_lss (by decide) rfl rfl ?_
      refine wl_nil ?_
      refine wk_norm ?_
      refine wc_cond rfl (fun hm1 => ?_) (fun hm1 => ?_)
      ·
        try replace hm1 := of_decide_eq_true hm1
        rw [if_pos hm1] at htk
        refine wc_seq ?_
        refine wc_region ?_
        refine wl_move (by decide) rfl ?_
        refine wl_eql (by decide) rfl rfl ?_
        refine wl_re (k := 57) (v := .bool true) rfl (congrArg Value.bool (decide_eq_true (by rw [htk]; try rfl))) ?_
        refine wl_move (by decide) rfl ?_
        refine wl_gyes rfl rfl ?_
        refine wl_move (by decide) rfl ?_
        refine wl_gyes rfl rfl ?_
        refine wl_len (by decide) Try.underlying22 rfl ?_
        refine wl_gyes rfl rfl ?_
        refine wl_eql (by decide) rfl rfl ?_
        refine wl_re (k := 61) (v := .bool true) rfl (congrArg Value.bool (decide_eq_true (by rw [htk]; try rfl))) ?_
        refine wl_pick (by decide) rfl rfl ?_
        refine wl_move (by decide) rfl ?_
        refine wl_gyes rfl rfl ?_
        refine wl_move (by decide) rfl ?_
        refine wl_gyes rfl rfl ?_
        refine wl_len (by decide) Try.underlying22 rfl ?_
        refine wl_gyes rfl rfl ?_
        refine wl_eql (by decide) rfl rfl ?_
        refine wl_re (k := 66) (v := .bool true) rfl (congrArg Value.bool (decide_eq_true (by rw [htk]; try rfl))) ?_
        refine wl_pick (by decide) rfl rfl ?_
        refine wl_assign (by decide) rfl ?_
        refine wl_nil ?_
        refine wk_norm ?_
        refine wc_ret ?_
        refine wk_then_ret ?_
        refine wk_post1 (.inl rfl) Try.results9 rfl ?_
        exact ⟨_, rfl, rfl, hEc⟩
      ·
        try replace hm1 := of_decide_eq_false hm1
        rw [if_neg hm1] at htk
        refine wc_skip ?_
        refine wk_norm ?_
        refine wc_seq ?_
        refine wc_region ?_
        refine wl_move (by decide) rfl ?_
        refine wl_eql (by decide) rfl rfl ?_
        refine wl_re (k := 69) (v := .bool true) rfl (congrArg Value.bool (decide_eq_true (by rw [htk]))) ?_
        refine wl_move (by decide) rfl ?_
        refine wl_gyes rfl rfl ?_
        refine wl_move (by decide) rfl ?_
        refine wl_gyes rfl rfl ?_
        refine wl_move (by decide) rfl ?_
        refine wl_gyes rfl rfl ?_
        have hcl := eqBytes_ok ho5 hs
        refine wl_call (by decide) Try.cl22 rfl hcl ?_
        clear hcl
        rintro _ w6 ⟨rfl, hE6⟩
        replace hs := hs.ext hE6
        replace hb := hb.ext hE6
        replace hb1 := hb1.ext hE6
        replace ho2 := ho2.ext hE6
        replace hs3 := hs3.ext hE6
        replace ho4 := ho4.ext hE6
        replace ho5 := ho5.ext hE6
        replace hp5 := hp5.ext hE6
        replace hEc := hEc.trans hE6
        refine wl_re (k := 73) (v := .bool true) rfl (congrArg Value.bool (decide_eq_true (by rw [htk]))) ?_
        refine wl_pick (by decide) rfl rfl ?_
        refine wl_move (by decide) rfl ?_
        refine wl_gyes rfl rfl ?_
        refine wl_move (by decide) rfl ?_
        refine wl_gyes rfl rfl ?_
        refine wl_move (by decide) rfl ?_
        refine wl_gyes rfl rfl ?_
        have hcl := eqBytes_ok hp5 hb1
        refine wl_call (by decide) Try.cl22 rfl hcl ?_
        clear hcl
        rintro _ w7 ⟨rfl, hE7⟩
        replace hs := hs.ext hE7
        replace hb := hb.ext hE7
        replace hb1 := hb1.ext hE7
        replace ho2 := ho2.ext hE7
        replace hs3 := hs3.ext hE7
        replace ho4 := ho4.ext hE7
        replace ho5 := ho5.ext hE7
        replace hp5 := hp5.ext hE7
        replace hEc := hEc.trans hE7
        refine wl_re (k := 78) (v := .bool true) rfl (congrArg Value.bool (decide_eq_true (by rw [htk]))) ?_
        refine wl_pick (by decide) rfl rfl ?_
        refine wl_assign (by decide) rfl ?_
        refine wl_nil ?_
        refine wk_norm ?_
        refine wc_ret ?_
        refine wk_post1 (.inl rfl) Try.results9 rfl ?_
        exact ⟨_, rfl, rfl, hEc⟩

theorem binPrefix_ok {n m : Int} {w : World} (h1 : -9223372036854775808 ≤ n) (h2 : n ≤ 9223372036854775807) (h3 : -9223372036854775808 ≤ m) (h4 : m ≤ 9223372036854775807) : Ret Try.prog 11 #[.int .i64 n, .int .i64 m] w (fun v w' => v = .bool true ∧ Ext w w') := by
  refine ret_of_wk Try.func11 rfl Try.ntmps11 (Nat.le_of_ble_eq_true rfl) ?_
  have hEc : Ext w w := Chg.refl _ _
  refine wc_seq ?_
  refine wc_region ?_
  refine wl_assign (by decide) rfl ?_
  refine wl_nil ?_
  refine wk_norm ?_
  refine wc_seq ?_
  refine wc_seq ?_
  refine wc_region ?_
  refine wl_call (by decide) Try.cl24 rfl (works_ok) ?_
  rintro _ w1 ⟨rfl, hE1⟩
  replace hEc := hEc.trans hE1
  first | refine wl_notd (by decide) rfl ?_ | refine wl_not (by decide) rfl ?_
  refine wl_nil ?_
  refine wk_norm ?_
  refine wc_cond_f rfl ?_
  refine wc_skip ?_
  refine wk_norm ?_
  refine wc_seq ?_
  refine wc_region ?_
  refine wl_move (by decide) rfl ?_
  refine wl_call (by decide) Try.cl33 rfl (bring_ok (by omega) (by omega) (by omega) (by omega)) ?_
  rintro _ _ ⟨rfl, rfl⟩
  have lon := brg_lo n 9007199254740992
  have hin := brg_hi n 9007199254740992 (by decide)
  refine wl_move (by decide) rfl ?_
  refine wl_call (by decide) Try.cl33 rfl (bring_ok (by omega) (by omega) (by omega) (by omega)) ?_
  rintro _ _ ⟨rfl, rfl⟩
  have lom := brg_lo m 9007199254740992
  have him := brg_hi m 9007199254740992 (by decide)
  refine wl_assign (by decide) rfl ?_
  refine wl_assign (by decide) rfl ?_
  refine wl_nil ?_
  refine wk_norm ?_
  refine wc_seq ?_
  refine wc_region ?_
  refine wl_move (by decide) rfl ?_
  refine wl_call (by decide) Try.cl17 rfl (num_ok (by omega) (by omega)) ?_
  rintro _ w4 ⟨A4, c4, rfl, ho4, hE4⟩
  replace ho4 := ho4.bs.any
  replace hEc := hEc.trans hE4
  have hnn : (numS (brg n 9007199254740992)).1 = numL (brg n 9007199254740992).toNat ∧ (numS (brg n 9007199254740992)).2 = 0 := by rw [numS, if_neg (by omega)]; exact ⟨rfl, rfl⟩
  rw [hnn.1] at ho4 ⊢
  have hln := numL_len (brg n 9007199254740992).toNat (by omega)
  generalize (brg n 9007199254740992) = N at *
  refine wl_move (by decide) rfl ?_
  refine wl_extract (by decide) rfl rfl ?_
  refine wl_extract (by decide) rfl rfl ?_
  refine wl_assign (by decide) rfl ?_
  refine wl_assign (by decide) rfl ?_
  refine wl_nil ?_
  refine wk_norm ?_
  refine wc_seq ?_
  refine wc_region ?_
  refine wl_move (by decide) rfl ?_
  refine wl_call (by decide) Try.cl17 rfl (num_ok (by omega) (by omega)) ?_
  rintro _ w5 ⟨A5, c5, rfl, ho5, hE5⟩
  replace ho5 := ho5.bs.any
  replace ho4 := ho4.ext hE5
  replace hEc := hEc.trans hE5
  have hnm : (numS (brg m 9007199254740992)).1 = numL (brg m 9007199254740992).toNat ∧ (numS (brg m 9007199254740992)).2 = 0 := by rw [numS, if_neg (by omega)]; exact ⟨rfl, rfl⟩
  rw [hnm.1] at ho5 ⊢
  have hlm := numL_len (brg m 9007199254740992).toNat (by omega)
  generalize (brg m 9007199254740992) = M at *
  refine wl_move (by decide) rfl ?_
  refine wl_extract (by decide) rfl rfl ?_
  refine wl_extract (by decide) rfl rfl ?_
  refine wl_assign (by decide) rfl ?_
  refine wl_assign (by decide) rfl ?_
  refine wl_nil ?_
  refine wk_norm ?_
  refine wc_seq ?_
  refine wc_region ?_
  refine wl_move (by decide) rfl ?_
  refine wl_len (by decide) Try.underlying22 rfl ?_
  refine wl_move (by decide) rfl ?_
  refine wl_len (by decide) Try.underlying22 rfl ?_
  refine wl_min (by decide) rfl rfl ?_
  have hkk : min ((numL N.toNat).length : Int) ((numL M.toNat).length : Int) = ((min (numL N.toNat).length (numL M.toNat).length : Nat) : Int) := by omega
  refine wl_re (k := 30) rfl (congrArg (Value.int .i64) hkk) ?_
  have hpx := num_prefix (N := N.toNat) (M := M.toNat) (by omega) (by omega) _ rfl
  generalize hk : min (numL N.toNat).length (numL M.toNat).length = k at *
  clear hkk
  refine wl_assign (by decide) rfl ?_
  refine wl_nil ?_
  refine wk_norm ?_
  refine wc_seq ?_
  refine wc_drawL [SP.eq (.int .i64 (numS N).2), SP.eq (.bool true), SP.eq (.bool true), SP.eq (.int .i64 (numS M).2), SP.eq (.bool true), SP.eq (.bool true), SP.eq (.bool true), SP.eq (.slice A4 (numL N.toNat).length c4), SP.eq (.int .i64 (k : Int)), SP.gs byteR (fun _ => True) ((numL N.toNat).take k), SP.eq (.slice A5 (numL M.toNat).length c5), SP.eq (.int .i64 (k : Int)), SP.gs byteR (fun _ => True) ((numL M.toNat).take k), SP.eq (.bool (decide ((numL N.toNat).take k = (numL M.toNat).take k))), SP.eq (.int .i64 N), SP.eq (.int .i64 M), SP.eq (.bool (decide (N = M))), SP.eq (.bool true), SP.eq (.bool true), SP.eq (.bool true)] (by kernel_rfl) (by kernel_rfl) ⟨?_, ?_, ?_, ?_, ?_, ?_, ?_, ?_, ?_, ?_, ?_, ?_, ?_, ?_, ?_, ?_, ?_, ?_, ?_, ?_, trivial⟩ ?_
  ·
    intro F wF hER hk
    have e6 := hk.init 6 _ rfl (by kernel_rfl)
    refine wl_move (by decide) e6 ?_
    exact wl_nil (qr_some ⟨Chg.refl _ _, rfl⟩)
  ·
    intro F wF hER hk
    obtain ⟨u31, e31, h31⟩ := hk.pred 0 (by kernel_rfl) 31 rfl
    obtain rfl := h31
    refine wl_eql (by decide) e31 rfl ?_
    refine wl_re (k := 32) (v := .bool true) rfl (congrArg Value.bool (decide_eq_true (by rw [hnn.2]))) ?_
    exact wl_nil (qr_re ⟨Chg.refl _ _, rfl⟩)
  ·
    intro F wF hER hk
    obtain ⟨u32, e32, h32⟩ := hk.pred 1 (by kernel_rfl) 32 rfl
    obtain rfl := h32
    refine wl_move (by decide) e32 ?_
    exact wl_nil (qr_some ⟨Chg.refl _ _, rfl⟩)
  ·
    intro F wF hER hk
    have e8 := hk.init 8 _ rfl (by kernel_rfl)
    obtain ⟨u33, e33, h33⟩ := hk.pred 2 (by kernel_rfl) 33 rfl
    obtain rfl := h33
    refine wl_gyes rfl e33 ?_
    refine wl_move (by decide) e8 ?_
    exact wl_nil (qr_some ⟨Chg.refl _ _, rfl⟩)
  ·
    intro F wF hER hk
    obtain ⟨u34, e34, h34⟩ := hk.pred 3 (by kernel_rfl) 34 rfl
    obtain rfl := h34
    obtain ⟨u33, e33, h33⟩ := hk.pred 2 (by kernel_rfl) 33 rfl
    obtain rfl := h33
    refine wl_gyes rfl e33 ?_
    refine wl_eql (by decide) e34 rfl ?_
    refine wl_re (k := 35) (v := .bool true) rfl (congrArg Value.bool (decide_eq_true (by rw [hnm.2]))) ?_
    exact wl_nil (qr_re ⟨Chg.refl _ _, rfl⟩)
  ·
    intro F wF hER hk
    obtain ⟨u33, e33, h33⟩ := hk.pred 2 (by kernel_rfl) 33 rfl
    obtain rfl := h33
    obtain ⟨u35, e35, h35⟩ := hk.pred 4 (by kernel_rfl) 35 rfl
    obtain rfl := h35
    refine wl_pick (by decide) e33 e35 ?_
    exact wl_nil (qr_some ⟨Chg.refl _ _, rfl⟩)
  ·
    intro F wF hER hk
    obtain ⟨u36, e36, h36⟩ := hk.pred 5 (by kernel_rfl) 36 rfl
    obtain rfl := h36
    refine wl_move (by decide) e36 ?_
    exact wl_nil (qr_some ⟨Chg.refl _ _, rfl⟩)
  ·
    intro F wF hER hk
    have e5 := hk.init 5 _ rfl (by kernel_rfl)
    obtain ⟨u37, e37, h37⟩ := hk.pred 6 (by kernel_rfl) 37 rfl
    obtain rfl := h37
    refine wl_gyes rfl e37 ?_
    refine wl_move (by decide) e5 ?_
    exact wl_nil (qr_some ⟨Chg.refl _ _, rfl⟩)
  ·
    intro F wF hER hk
    have e9 := hk.init 9 _ rfl (by kernel_rfl)
    obtain ⟨u37, e37, h37⟩ := hk.pred 6 (by kernel_rfl) 37 rfl
    obtain rfl := h37
    refine wl_gyes rfl e37 ?_
    refine wl_move (by decide) e9 ?_
    exact wl_nil (qr_some ⟨Chg.refl _ _, rfl⟩)
  ·
    intro F wF hER hk
    obtain ⟨u38, e38, h38⟩ := hk.pred 7 (by kernel_rfl) 38 rfl
    obtain rfl := h38
    obtain ⟨u39, e39, h39⟩ := hk.pred 8 (by kernel_rfl) 39 rfl
    obtain rfl := h39
    obtain ⟨u37, e37, h37⟩ := hk.pred 6 (by kernel_rfl) 37 rfl
    obtain rfl := h37
    refine wl_gyes rfl e37 ?_
    refine wl_to (by decide) Try.sl22 e38 e39 (ho4.ext hER) k rfl (by omega) ?_
    intro hg1
    exact wl_nil (qr_some ⟨Chg.refl _ _, _, _, rfl, hg1⟩)
  ·
    intro F wF hER hk
    have e7 := hk.init 7 _ rfl (by kernel_rfl)
    obtain ⟨u37, e37, h37⟩ := hk.pred 6 (by kernel_rfl) 37 rfl
    obtain rfl := h37
    refine wl_gyes rfl e37 ?_
    refine wl_move (by decide) e7 ?_
    exact wl_nil (qr_some ⟨Chg.refl _ _, rfl⟩)
  ·
    intro F wF hER hk
    have e9 := hk.init 9 _ rfl (by kernel_rfl)
    obtain ⟨u37, e37, h37⟩ := hk.pred 6 (by kernel_rfl) 37 rfl
    obtain rfl := h37
    refine wl_gyes rfl e37 ?_
    refine wl_move (by decide) e9 ?_
    exact wl_nil (qr_some ⟨Chg.refl _ _, rfl⟩)
  ·
    intro F wF hER hk
    obtain ⟨u41, e41, h41⟩ := hk.pred 10 (by kernel_rfl) 41 rfl
    obtain rfl := h41
    obtain ⟨u42, e42, h42⟩ := hk.pred 11 (by kernel_rfl) 42 rfl
    obtain rfl := h42
    obtain ⟨u37, e37, h37⟩ := hk.pred 6 (by kernel_rfl) 37 rfl
    obtain rfl := h37
    refine wl_gyes rfl e37 ?_
    refine wl_to (by decide) Try.sl22 e41 e42 (ho5.ext hER) k rfl (by omega) ?_
    intro hg1
    exact wl_nil (qr_some ⟨Chg.refl _ _, _, _, rfl, hg1⟩)
  ·
    intro F wF hER hk
    obtain ⟨u40, e40, h40⟩ := hk.pred 9 (by kernel_rfl) 40 rfl
    obtain ⟨A40, c40, rfl, hg40⟩ := h40
    obtain ⟨u43, e43, h43⟩ := hk.pred 12 (by kernel_rfl) 43 rfl
    obtain ⟨A43, c43, rfl, hg43⟩ := h43
    obtain ⟨u37, e37, h37⟩ := hk.pred 6 (by kernel_rfl) 37 rfl
    obtain rfl := h37
    refine wl_gyes rfl e37 ?_
    have hcl := eqBytes_ok hg40 hg43
    refine wl_call (by decide) Try.cl22 (by simp only [evs, ev, e40, e43]) hcl ?_
    clear hcl
    rintro _ w7 ⟨rfl, hE7⟩
    exact wl_nil (qr_some ⟨hE7, rfl⟩)
  ·
    intro F wF hER hk
    have e0 := hk.init 0 _ rfl (by kernel_rfl)
    obtain ⟨u37, e37, h37⟩ := hk.pred 6 (by kernel_rfl) 37 rfl
    obtain rfl := h37
    refine wl_gyes rfl e37 ?_
    refine wl_move (by decide) e0 ?_
    exact wl_nil (qr_some ⟨Chg.refl _ _, rfl⟩)
  ·
    intro F wF hER hk
    have e1 := hk.init 1 _ rfl (by kernel_rfl)
    obtain ⟨u37, e37, h37⟩ := hk.pred 6 (by kernel_rfl) 37 rfl
    obtain rfl := h37
    refine wl_gyes rfl e37 ?_
    refine wl_move (by decide) e1 ?_
    exact wl_nil (qr_some ⟨Chg.refl _ _, rfl⟩)
  ·
    intro F wF hER hk
    obtain ⟨u45, e45, h45⟩ := hk.pred 14 (by kernel_rfl) 45 rfl
    obtain rfl := h45
    obtain ⟨u46, e46, h46⟩ := hk.pred 15 (by kernel_rfl) 46 rfl
    obtain rfl := h46
    obtain ⟨u37, e37, h37⟩ := hk.pred 6 (by kernel_rfl) 37 rfl
    obtain rfl := h37
    refine wl_gyes rfl e37 ?_
    refine wl_eql (by decide) e45 e46 ?_
    exact wl_nil (qr_some ⟨Chg.refl _ _, rfl⟩)
  ·
    intro F wF hER hk
    obtain ⟨u44, e44, h44⟩ := hk.pred 13 (by kernel_rfl) 44 rfl
    obtain rfl := h44
    obtain ⟨u47, e47, h47⟩ := hk.pred 16 (by kernel_rfl) 47 rfl
    obtain rfl := h47
    obtain ⟨u37, e37, h37⟩ := hk.pred 6 (by kernel_rfl) 37 rfl
    obtain rfl := h37
    refine wl_gyes rfl e37 ?_
    refine wl_eqlb (by decide) Try.bo4 e44 e47 ?_
    refine wl_re (k := 48) (v := .bool true) rfl (congrArg Value.bool (decide_eq_true (by rw [decide_eq_decide]; rw [hpx]; omega))) ?_
    exact wl_nil (qr_re ⟨Chg.refl _ _, rfl⟩)
  ·
    intro F wF hER hk
    obtain ⟨u37, e37, h37⟩ := hk.pred 6 (by kernel_rfl) 37 rfl
    obtain rfl := h37
    obtain ⟨u48, e48, h48⟩ := hk.pred 17 (by kernel_rfl) 48 rfl
    obtain rfl := h48
    refine wl_pick (by decide) e37 e48 ?_
    exact wl_nil (qr_some ⟨Chg.refl _ _, rfl⟩)
  ·
    intro F wF hER hk
    obtain ⟨u49, e49, h49⟩ := hk.pred 18 (by kernel_rfl) 49 rfl
    obtain rfl := h49
    refine wl_assign (by decide) e49 ?_
    exact wl_nil (qr_some ⟨Chg.refl _ _, rfl⟩)
  ·
    intro F wD hED hini hdo
    obtain ⟨u4, e4, h4⟩ := hdo 19 4 rfl
    obtain rfl := h4
    refine wk_drop [(4, _)] ⟨e4, trivial⟩ ?_
    clear e4 hini hdo
    replace ho4 := ho4.ext hED
    replace ho5 := ho5.ext hED
    replace hEc := hEc.trans hED
    refine wk_norm ?_
    refine wc_ret ?_
    refine wk_post1 (.inl rfl) Try.results11 rfl ?_
    exact ⟨_, rfl, rfl, hEc⟩

theorem binOrder_ok {n m : Int} {w : World} (h1 : -9223372036854775808 ≤ n) (h2 : n ≤ 9223372036854775807) (h3 : -9223372036854775808 ≤ m) (h4 : m ≤ 9223372036854775807) : Ret Try.prog 12 #[.int .i64 n, .int .i64 m] w (fun v w' => v = .bool true ∧ Ext w w') := by
  refine ret_of_wk Try.func12 rfl Try.ntmps12 (Nat.le_of_ble_eq_true rfl) ?_
  have hEc : Ext w w := Chg.refl _ _
  refine wc_seq ?_
  refine wc_region ?_
  refine wl_assign (by decide) rfl ?_
  refine wl_nil ?_
  refine wk_norm ?_
  refine wc_seq ?_
  refine wc_seq ?_
  refine wc_region ?_
  refine wl_call (by decide) Try.cl24 rfl (works_ok) ?_
  rintro _ w1 ⟨rfl, hE1⟩
  replace hEc := hEc.trans hE1
  first | refine wl_notd (by decide) rfl ?_ | refine wl_not (by decide) rfl ?_
  refine wl_nil ?_
  refine wk_norm ?_
  refine wc_cond_f rfl ?_
  refine wc_skip ?_
  refine wk_norm ?_
  refine wc_seq ?_
  refine wc_region ?_
  refine wl_move (by decide) rfl ?_
  refine wl_call (by decide) Try.cl33 rfl (bring_ok (by omega) (by omega) (by omega) (by omega)) ?_
  rintro _ _ ⟨rfl, rfl⟩
  have lon := brg_lo n 9007199254740992
  have hin := brg_hi n 9007199254740992 (by decide)
  refine wl_move (by decide) rfl ?_
  refine wl_call (by decide) Try.cl33 rfl (bring_ok (by omega) (by omega) (by omega) (by omega)) ?_
  rintro _ _ ⟨rfl, rfl⟩
  have lom := brg_lo m 9007199254740992
  have him := brg_hi m 9007199254740992 (by decide)
  refine wl_assign (by decide) rfl ?_
  refine wl_assign (by decide) rfl ?_
  refine wl_nil ?_
  refine wk_norm ?_
  refine wc_seq ?_
  refine wc_region ?_
  refine wl_move (by decide) rfl ?_
  refine wl_call (by decide) Try.cl17 rfl (num_ok (by omega) (by omega)) ?_
  rintro _ w4 ⟨A4, c4, rfl, ho4, hE4⟩
  replace ho4 := ho4.bs.any
  replace hEc := hEc.trans hE4
  have hnn : (numS (brg n 9007199254740992)).1 = numL (brg n 9007199254740992).toNat ∧ (numS (brg n 9007199254740992)).2 = 0 := by rw [numS, if_neg (by omega)]; exact ⟨rfl, rfl⟩
  rw [hnn.1] at ho4 ⊢
  have hln := numL_len (brg n 9007199254740992).toNat (by omega)
  generalize (brg n 9007199254740992) = N at *
  refine wl_move (by decide) rfl ?_
  refine wl_extract (by decide) rfl rfl ?_
  refine wl_extract (by decide) rfl rfl ?_
  refine wl_assign (by decide) rfl ?_
  refine wl_assign (by decide) rfl ?_
  refine wl_nil ?_
  refine wk_norm ?_
  refine wc_seq ?_
  refine wc_region ?_
  refine wl_move (by decide) rfl ?_
  refine wl_call (by decide) Try.cl17 rfl (num_ok (by omega) (by omega)) ?_
  rintro _ w5 ⟨A5, c5, rfl, ho5, hE5⟩
  replace ho5 := ho5.bs.any
  replace ho4 := ho4.ext hE5
  replace hEc := hEc.trans hE5
  have hnm : (numS (brg m 9007199254740992)).1 = numL (brg m 9007199254740992).toNat ∧ (numS (brg m 9007199254740992)).2 = 0 := by rw [numS, if_neg (by omega)]; exact ⟨rfl, rfl⟩
  rw [hnm.1] at ho5 ⊢
  have hlm := numL_len (brg m 9007199254740992).toNat (by omega)
  generalize (brg m 9007199254740992) = M at *
  refine wl_move (by decide) rfl ?_
  refine wl_extract (by decide) rfl rfl ?_
  refine wl_extract (by decide) rfl rfl ?_
  refine wl_assign (by decide) rfl ?_
  refine wl_assign (by decide) rfl ?_
  refine wl_nil ?_
  refine wk_norm ?_
  refine wc_seq ?_
  refine wc_seq ?_
  refine wc_region ?_
  refine wl_move (by decide) rfl ?_
  refine wl_neq (by decide) rfl rfl ?_
  refine wl_re (k := 27) (v := .bool false) rfl (congrArg Value.bool (decide_eq_false (by simp [hnn.2]))) ?_
  refine wl_move (by decide) rfl ?_
  refine wl_gyes rfl rfl ?_
  refine wl_move (by decide) rfl ?_
  refine wl_gyes rfl rfl ?_
  refine wl_neq (by decide) rfl rfl ?_
  refine wl_re (k := 30) (v := .bool false) rfl (congrArg Value.bool (decide_eq_false (by simp [hnm.2]))) ?_
  refine wl_pick (by decide) rfl rfl ?_
  refine wl_nil ?_
  refine wk_norm ?_
  refine wc_cond_f rfl ?_
  refine wc_skip ?_
  refine wk_norm ?_
  refine wc_seq ?_
  refine wc_seq ?_
  refine wc_region ?_
  refine wl_assign (by decide) rfl ?_
  refine wl_nil ?_
  refine wk_norm ?_
  refine wc_block ?_
  refine wc_loop (fun L' w' mes => ∃ (k : Nat), L' = [(0, .int .i64 N), (1, .int .i64 M), (5, .slice A4 (numL N.toNat).length c4), (7, .slice A5 (numL M.toNat).length c5), (9, .int .i64 (k : Int))] ∧ (k ≤ (numL N.toNat).length) ∧ (k ≤ (numL M.toNat).length) ∧ ((numL N.toNat).take k = (numL M.toNat).take k) ∧ (Ext w5 w') ∧ (numL N.toNat).length - k = mes) [(0, .int .i64 N), (1, .int .i64 M), (5, .slice A4 (numL N.toNat).length c4), (7, .slice A5 (numL M.toNat).length c5), (9, .int .i64 (0 : Int))] ((numL N.toNat).length - 0) (by
      refine ⟨0, rfl, ?_, ?_, ?_, ?_, rfl⟩
      · omega
      · omega
      · rfl
      · exact Chg.refl _ _) ⟨rfl, rfl, rfl, rfl, rfl, trivial⟩ ?_
  rintro _ wr _ ⟨k, rfl, hk1, hk2, htk, hEr, rfl⟩ KL1 hKL1
  refine wc_seq ?_
  refine wc_seq ?_
  refine wc_region ?_
  refine wl_move (by decide) rfl ?_
  refine wl_move (by decide) rfl ?_
  refine wl_len (by decide) Try.underlying22 rfl ?_
  refine wl_lss (by decide) rfl rfl ?_
  refine wl_move (by decide) rfl ?_
  refine wl_gsplit (dj := 36) rfl (fun hg4 => ?_) (fun hg4 => ?_)
  ·
    try replace hg4 := of_decide_eq_true hg4
    refine wl_gyes rfl rfl ?_
    refine wl_move (by decide) rfl ?_
    refine wl_gyes rfl rfl ?_
    refine wl_move (by decide) rfl ?_
    refine wl_gyes rfl rfl ?_
    refine wl_len (by decide) Try.underlying22 rfl ?_
    refine wl_gyes rfl rfl ?_
    refine wl_lss (by decide) rfl rfl ?_
    refine wl_pick (by decide) rfl rfl ?_
    refine wl_nil ?_
    refine wk_norm ?_
    refine wc_cond rfl (fun hg5 => ?_) (fun hg5 => ?_)
    ·
      try replace hg5 := of_decide_eq_true hg5
      refine wc_skip ?_
      refine wk_norm ?_
      refine wc_seq ?_
      refine wc_block ?_
      refine wc_seq ?_
      refine wc_drawL [SP.eq (.slice A4 (numL N.toNat).length c4), SP.eq (.int .i64 (k : Int)), SP.ptr (fun _ => True) [bv ((numL N.toNat)[k]'(by omega))], SP.eq (bv ((numL N.toNat)[k]'(by omega))), SP.eq (.slice A5 (numL M.toNat).length c5), SP.eq (.int .i64 (k : Int)), SP.ptr (fun _ => True) [bv ((numL M.toNat)[k]'(by omega))], SP.eq (bv ((numL M.toNat)[k]'(by omega))), SP.eq (.bool (decide ((((numL N.toNat)[k]'(by omega)).toNat : Int) ≠ (((numL M.toNat)[k]'(by omega)).toNat : Int))))] (by kernel_rfl) (by kernel_rfl) ⟨?_, ?_, ?_, ?_, ?_, ?_, ?_, ?_, ?_, trivial⟩ ?_
      ·
        intro F wF hER hk
        have e5 := hk.init 5 _ rfl (by kernel_rfl)
        refine wl_move (by decide) e5 ?_
        exact wl_nil (qr_some ⟨Chg.refl _ _, rfl⟩)
      ·
        intro F wF hER hk
        have e9 := hk.init 9 _ rfl (by kernel_rfl)
        refine wl_move (by decide) e9 ?_
        exact wl_nil (qr_some ⟨Chg.refl _ _, rfl⟩)
      ·
        intro F wF hER hk
        obtain ⟨u44, e44, h44⟩ := hk.pred 0 (by kernel_rfl) 44 rfl
        obtain rfl := h44
        obtain ⟨u45, e45, h45⟩ := hk.pred 1 (by kernel_rfl) 45 rfl
        obtain rfl := h45
        refine wl_idx (by decide) Try.sl22 e44 e45 ((ho4.ext hEr).ext hER) k rfl (by omega) ?_
        rintro a cs hb1 _ hat rfl
        exact wl_nil (qr_some ⟨Chg.refl _ _, a, rfl, hb1, trivial, hat⟩)
      ·
        intro F wF hER hk
        obtain ⟨u46, e46, h46⟩ := hk.pred 2 (by kernel_rfl) 46 rfl
        obtain ⟨aN, rfl, _, _, hatN⟩ := h46
        refine wl_load (by decide) Try.sc5 e46 hatN.head ?_
        exact wl_nil (qr_some ⟨Chg.refl _ _, rfl⟩)
      ·
        intro F wF hER hk
        have e7 := hk.init 7 _ rfl (by kernel_rfl)
        refine wl_move (by decide) e7 ?_
        exact wl_nil (qr_some ⟨Chg.refl _ _, rfl⟩)
      ·
        intro F wF hER hk
        have e9 := hk.init 9 _ rfl (by kernel_rfl)
        refine wl_move (by decide) e9 ?_
        exact wl_nil (qr_some ⟨Chg.refl _ _, rfl⟩)
      ·
        intro F wF hER hk
        obtain ⟨u48, e48, h48⟩ := hk.pred 4 (by kernel_rfl) 48 rfl
        obtain rfl := h48
        obtain ⟨u49, e49, h49⟩ := hk.pred 5 (by kernel_rfl) 49 rfl
        obtain rfl := h49
        refine wl_idx (by decide) Try.sl22 e48 e49 ((ho5.ext hEr).ext hER) k rfl (by omega) ?_
        rintro a cs hb1 _ hat rfl
        exact wl_nil (qr_some ⟨Chg.refl _ _, a, rfl, hb1, trivial, hat⟩)
      ·
        intro F wF hER hk
        obtain ⟨u50, e50, h50⟩ := hk.pred 6 (by kernel_rfl) 50 rfl
        obtain ⟨aM, rfl, _, _, hatM⟩ := h50
        refine wl_load (by decide) Try.sc5 e50 hatM.head ?_
        exact wl_nil (qr_some ⟨Chg.refl _ _, rfl⟩)
      ·
        intro F wF hER hk
        obtain ⟨u47, e47, h47⟩ := hk.pred 3 (by kernel_rfl) 47 rfl
        obtain rfl := h47
        obtain ⟨u51, e51, h51⟩ := hk.pred 7 (by kernel_rfl) 51 rfl
        obtain rfl := h51
        refine wl_neq (by decide) e47 e51 ?_
        exact wl_nil (qr_some ⟨Chg.refl _ _, rfl⟩)
      ·
        intro F wD hED hini hdo
        have e0 := hini 0 _ rfl (by kernel_rfl)
        have e1 := hini 1 _ rfl (by kernel_rfl)
        have e5 := hini 5 _ rfl (by kernel_rfl)
        have e7 := hini 7 _ rfl (by kernel_rfl)
        have e9 := hini 9 _ rfl (by kernel_rfl)
        obtain ⟨u52, e52, h52⟩ := hdo 8 52 rfl
        obtain rfl := h52
        refine wk_drop [(0, _), (1, _), (5, _), (7, _), (9, _), (52, _)] ⟨e0, e1, e5, e7, e9, e52, trivial⟩ ?_
        clear e0 e1 e5 e7 e9 e52 hini hdo
        have hE11 := hED
        refine wk_norm ?_
        refine wc_cond rfl (fun hne => ?_) (fun hne => ?_)
        ·
          try replace hne := of_decide_eq_true hne
          have hor := num_order (N := N.toNat) (M := M.toNat) (by omega) (by omega) k (by omega) (by omega) htk (fun e => hne (by rw [e]))
          refine wc_seq ?_
          refine wc_drawL [SP.eq (.slice A4 (numL N.toNat).length c4), SP.eq (.int .i64 (k : Int)), SP.ptr (fun _ => True) [bv ((numL N.toNat)[k]'(by omega))], SP.eq (bv ((numL N.toNat)[k]'(by omega))), SP.eq (.slice A5 (numL M.toNat).length c5), SP.eq (.int .i64 (k : Int)), SP.ptr (fun _ => True) [bv ((numL M.toNat)[k]'(by omega))], SP.eq (bv ((numL M.toNat)[k]'(by omega))), SP.eq (.bool (decide ((((numL N.toNat)[k]'(by omega)).toNat : Int) < (((numL M.toNat)[k]'(by omega)).toNat : Int)))), SP.eq (.int .i64 N), SP.eq (.int .i64 M), SP.eq (.bool (decide (N < M))), SP.eq (.bool true), SP.eq (.bool true)] (by kernel_rfl) (by kernel_rfl) ⟨?_, ?_, ?_, ?_, ?_, ?_, ?_, ?_, ?_, ?_, ?_, ?_, ?_, ?_, trivial⟩ ?_
          ·
            intro F wF hER hk
            have e5 := hk.init 5 _ rfl (by kernel_rfl)
            refine wl_move (by decide) e5 ?_
            exact wl_nil (qr_some ⟨Chg.refl _ _, rfl⟩)
          ·
            intro F wF hER hk
            have e9 := hk.init 9 _ rfl (by kernel_rfl)
            refine wl_move (by decide) e9 ?_
            exact wl_nil (qr_some ⟨Chg.refl _ _, rfl⟩)
          ·
            intro F wF hER hk
            obtain ⟨u53, e53, h53⟩ := hk.pred 0 (by kernel_rfl) 53 rfl
            obtain rfl := h53
            obtain ⟨u54, e54, h54⟩ := hk.pred 1 (by kernel_rfl) 54 rfl
            obtain rfl := h54
            refine wl_idx (by decide) Try.sl22 e53 e54 (((ho4.ext hEr).ext hED).ext hER) k rfl (by omega) ?_
            rintro a cs hb1 _ hat rfl
            exact wl_nil (qr_some ⟨Chg.refl _ _, a, rfl, hb1, trivial, hat⟩)
          ·
            intro F wF hER hk
            obtain ⟨u55, e55, h55⟩ := hk.pred 2 (by kernel_rfl) 55 rfl
            obtain ⟨aN, rfl, _, _, hatN⟩ := h55
            refine wl_load (by decide) Try.sc5 e55 hatN.head ?_
            exact wl_nil (qr_some ⟨Chg.refl _ _, rfl⟩)
          ·
            intro F wF hER hk
            have e7 := hk.init 7 _ rfl (by kernel_rfl)
            refine wl_move (by decide) e7 ?_
            exact wl_nil (qr_some ⟨Chg.refl _ _, rfl⟩)
          ·
            intro F wF hER hk
            have e9 := hk.init 9 _ rfl (by kernel_rfl)
            refine wl_move (by decide) e9 ?_
            exact wl_nil (qr_some ⟨Chg.refl _ _, rfl⟩)
          ·
            intro F wF hER hk
            obtain ⟨u57, e57, h57⟩ := hk.pred 4 (by kernel_rfl) 57 rfl
            obtain rfl := h57
            obtain ⟨u58, e58, h58⟩ := hk.pred 5 (by kernel_rfl) 58 rfl
            obtain rfl := h58
            refine wl_idx (by decide) Try.sl22 e57 e58 (((ho5.ext hEr).ext hED).ext hER) k rfl (by omega) ?_
            rintro a cs hb1 _ hat rfl
            exact wl_nil (qr_some ⟨Chg.refl _ _, a, rfl, hb1, trivial, hat⟩)
          ·
            intro F wF hER hk
            obtain ⟨u59, e59, h59⟩ := hk.pred 6 (by kernel_rfl) 59 rfl
            obtain ⟨aM, rfl, _, _, hatM⟩ := h59
            refine wl_load (by decide) Try.sc5 e59 hatM.head ?_
            exact wl_nil (qr_some ⟨Chg.refl _ _, rfl⟩)
          ·
            intro F wF hER hk
            obtain ⟨u56, e56, h56⟩ := hk.pred 3 (by kernel_rfl) 56 rfl
            obtain rfl := h56
            obtain ⟨u60, e60, h60⟩ := hk.pred 7 (by kernel_rfl) 60 rfl
            obtain rfl := h60
            refine wl_lss (by decide) e56 e60 ?_
            exact wl_nil (qr_some ⟨Chg.refl _ _, rfl⟩)
          ·
            intro F wF hER hk
            have e0 := hk.init 0 _ rfl (by kernel_rfl)
            refine wl_move (by decide) e0 ?_
            exact wl_nil (qr_some ⟨Chg.refl _ _, rfl⟩)
          ·
            intro F wF hER hk
            have e1 := hk.init 1 _ rfl (by kernel_rfl)
            refine wl_move (by decide) e1 ?_
            exact wl_nil (qr_some ⟨Chg.refl _ _, rfl⟩)
          ·
            intro F wF hER hk
            obtain ⟨u62, e62, h62⟩ := hk.pred 9 (by kernel_rfl) 62 rfl
            obtain rfl := h62
            obtain ⟨u63, e63, h63⟩ := hk.pred 10 (by kernel_rfl) 63 rfl
            obtain rfl := h63
            refine wl_lss (by decide) e62 e63 ?_
            exact wl_nil (qr_some ⟨Chg.refl _ _, rfl⟩)
          ·
            intro F wF hER hk
            obtain ⟨u61, e61, h61⟩ := hk.pred 8 (by kernel_rfl) 61 rfl
            obtain rfl := h61
            obtain ⟨u64, e64, h64⟩ := hk.pred 11 (by kernel_rfl) 64 rfl
            obtain rfl := h64
            refine wl_eqlb (by decide) Try.bo4 e61 e64 ?_
            refine wl_re (k := 65) (v := .bool true) rfl (congrArg Value.bool (decide_eq_true (by rw [decide_eq_decide]; omega))) ?_
            exact wl_nil (qr_re ⟨Chg.refl _ _, rfl⟩)
          ·
            intro F wF hER hk
            obtain ⟨u65, e65, h65⟩ := hk.pred 12 (by kernel_rfl) 65 rfl
            obtain rfl := h65
            refine wl_assign (by decide) e65 ?_
            exact wl_nil (qr_some ⟨Chg.refl _ _, rfl⟩)
          ·
            intro F wD2 hED hini hdo
            obtain ⟨u4, e4, h4⟩ := hdo 13 4 rfl
            obtain rfl := h4
            refine wk_drop [(4, _)] ⟨e4, trivial⟩ ?_
            clear e4 hini hdo
            have hEDD : Ext wr wD2 := hE11.trans hED
            refine wk_norm ?_
            refine wc_ret ?_
            refine wk_blk_ret ?_
            refine wk_then_ret ?_
            refine wk_then_ret ?_
            refine wk_blk_ret ?_
            refine wk_then_ret ?_
            refine wk_post1 (.inl rfl) Try.results12 rfl ?_
            exact ⟨_, rfl, rfl, (hEc.trans hEr).trans hEDD⟩
        ·
          try replace hne := of_decide_eq_false hne
          refine wc_skip ?_
          refine wk_blk_norm ?_
          refine wk_norm ?_
          refine wc_region ?_
          refine wl_move (by decide) rfl ?_
          refine wl_add (by decide) rfl rfl (w64 (by omega) (by omega)) ?_
          refine wl_assign (by decide) rfl ?_
          refine wl_nil ?_
          refine wk_norm ?_
          refine wk_drop [(0, .int .i64 N), (1, .int .i64 M), (5, .slice A4 (numL N.toNat).length c4), (7, .slice A5 (numL M.toNat).length c5), (9, .int .i64 ((k + 1) : Int))] ⟨rfl, rfl, rfl, rfl, rfl, trivial⟩ (hKL1 _ _ (m2 := (numL N.toNat).length - (k + 1)) ?_ ?_)
          ·
            refine ⟨(k + 1), rfl, ?_, ?_, ?_, ?_, rfl⟩
            · omega
            · omega
            · rw [← List.take_append_getElem (by omega : k < (numL N.toNat).length), ← List.take_append_getElem (by omega : k < (numL M.toNat).length), htk, UInt8.toNat_inj.1 (show ((numL N.toNat)[k]'(by omega)).toNat = ((numL M.toNat)[k]'(by omega)).toNat by omega)]
            · exact hEr.trans hED
          · omega
    ·
      try replace hg5 := of_decide_eq_false hg5
      have hkm : k = min (numL N.toNat).length (numL M.toNat).length := by omega
      have hNM : N.toNat = M.toNat := (num_prefix (by omega) (by omega) k hkm).1 htk
      have hNM2 : N = M := by omega
      refine wc_exit ?_
      refine wk_then_exit ?_
      refine wk_then_exit ?_
      refine wk_blk_exit ?_
      refine wk_norm ?_
      refine wc_seq ?_
      refine wc_region ?_
      refine wl_move (by decide) rfl ?_
      refine wl_move (by decide) rfl ?_
      refine wl_eql (by decide) rfl rfl ?_
      refine wl_re (k := 68) (v := .bool true) rfl (congrArg Value.bool (decide_eq_true (by omega))) ?_
      refine wl_move (by decide) rfl ?_
      refine wl_gyes rfl rfl ?_
      refine wl_move (by decide) rfl ?_
      refine wl_gyes rfl rfl ?_
      refine wl_len (by decide) Try.underlying22 rfl ?_
      refine wl_gyes rfl rfl ?_
      refine wl_move (by decide) rfl ?_
      refine wl_gyes rfl rfl ?_
      refine wl_len (by decide) Try.underlying22 rfl ?_
      refine wl_gyes rfl rfl ?_
      refine wl_eql (by decide) rfl rfl ?_
      refine wl_re (k := 74) (v := .bool true) rfl (congrArg Value.bool (decide_eq_true (by rw [hNM]))) ?_
      refine wl_pick (by decide) rfl rfl ?_
      refine wl_assign (by decide) rfl ?_
      refine wl_nil ?_
      refine wk_norm ?_
      refine wc_ret ?_
      refine wk_post1 (.inl rfl) Try.results12 rfl ?_
      exact ⟨_, rfl, rfl, hEc.trans hEr⟩
  ·
    try replace hg4 := of_decide_eq_false hg4
    have hkm : k = min (numL N.toNat).length (numL M.toNat).length := by omega
    have hNM : N.toNat = M.toNat := (num_prefix (by omega) (by omega) k hkm).1 htk
    have hNM2 : N = M := by omega
    refine wl_gno (by decide) rfl rfl (.inl rfl) ?_
    refine wl_gno (by decide) rfl rfl (.inl rfl) ?_
    refine wl_gno (by decide) rfl rfl (.inl rfl) ?_
    refine wl_gno (by decide) rfl rfl (.inl rfl) ?_
    refine wl_pick (by decide) rfl rfl ?_
    refine wl_nil ?_
    refine wk_norm ?_
    refine wc_cond_f rfl ?_
    refine wc_exit ?_
    refine wk_then_exit ?_
    refine wk_then_exit ?_
    refine wk_blk_exit ?_
    refine wk_norm ?_
    refine wc_seq ?_
    refine wc_region ?_
    refine wl_move (by decide) rfl ?_
    refine wl_move (by decide) rfl ?_
    refine wl_eql (by decide) rfl rfl ?_
    refine wl_re (k := 68) (v := .bool true) rfl (congrArg Value.bool (decide_eq_true (by omega))) ?_
    refine wl_move (by decide) rfl ?_
    refine wl_gyes rfl rfl ?_
    refine wl_move (by decide) rfl ?_
    refine wl_gyes rfl rfl ?_
    refine wl_len (by decide) Try.underlying22 rfl ?_
    refine wl_gyes rfl rfl ?_
    refine wl_move (by decide) rfl ?_
    refine wl_gyes rfl rfl ?_
    refine wl_len (by decide) Try.underlying22 rfl ?_
    refine wl_gyes rfl rfl ?_
    refine wl_eql (by decide) rfl rfl ?_
    refine wl_re (k := 74) (v := .bool true) rfl (congrArg Value.bool (decide_eq_true (by rw [hNM]))) ?_
    refine wl_pick (by decide) rfl rfl ?_
    refine wl_assign (by decide) rfl ?_
    refine wl_nil ?_
    refine wk_norm ?_
    refine wc_ret ?_
    refine wk_post1 (.inl rfl) Try.results12 rfl ?_
    exact ⟨_, rfl, rfl, hEc.trans hEr⟩

theorem binShort_ok {n m : Int} {w : World} (h1 : -9223372036854775808 ≤ n) (h2 : n ≤ 9223372036854775807) (h3 : -9223372036854775808 ≤ m) (h4 : m ≤ 9223372036854775807) : Ret Try.prog 13 #[.int .i64 n, .int .i64 m] w (fun v w' => v = .bool true ∧ Ext w w') := by
  refine ret_of_wk Try.func13 rfl Try.ntmps13 (Nat.le_of_ble_eq_true rfl) ?_
  have hEc : Ext w w := Chg.refl _ _
  refine wc_seq ?_
  refine wc_region ?_
  refine wl_assign (by decide) rfl ?_
  refine wl_nil ?_
  refine wk_norm ?_
  refine wc_seq ?_
  refine wc_seq ?_
  refine wc_region ?_
  refine wl_call (by decide) Try.cl24 rfl (works_ok) ?_
  rintro _ w1 ⟨rfl, hE1⟩
  replace hEc := hEc.trans hE1
  first | refine wl_notd (by decide) rfl ?_ | refine wl_not (by decide) rfl ?_
  refine wl_nil ?_
  refine wk_norm ?_
  refine wc_cond_f rfl ?_
  refine wc_skip ?_
  refine wk_norm ?_
  refine wc_seq ?_
  refine wc_region ?_
  refine wl_move (by decide) rfl ?_
  refine wl_call (by decide) Try.cl33 rfl (bring_ok (by omega) (by omega) (by omega) (by omega)) ?_
  rintro _ _ ⟨rfl, rfl⟩
  have lon := brg_lo n 9007199254740992
  have hin := brg_hi n 9007199254740992 (by decide)
  refine wl_call (by decide) Try.cl17 rfl (num_ok (by omega) (by omega)) ?_
  rintro _ w3 ⟨A3, c3, rfl, ho3, hE3⟩
  replace ho3 := ho3.bs.any
  replace hEc := hEc.trans hE3
  have hnn : (numS (brg n 9007199254740992)).1 = numL (brg n 9007199254740992).toNat ∧ (numS (brg n 9007199254740992)).2 = 0 := by rw [numS, if_neg (by omega)]; exact ⟨rfl, rfl⟩
  rw [hnn.1] at ho3 ⊢
  have hln := numL_len (brg n 9007199254740992).toNat (by omega)
  generalize (brg n 9007199254740992) = N at *
  have hpos : 0 < (numL N.toNat).length := by simp [numL]
  refine wl_move (by decide) rfl ?_
  refine wl_extract (by decide) rfl rfl ?_
  refine wl_extract (by decide) rfl rfl ?_
  refine wl_assign (by decide) rfl ?_
  refine wl_assign (by decide) rfl ?_
  refine wl_nil ?_
  refine wk_norm ?_
  refine wc_seq ?_
  refine wc_seq ?_
  refine wc_region ?_
  refine wl_move (by decide) rfl ?_
  refine wl_neq (by decide) rfl rfl ?_
  refine wl_re (k := 19) (v := .bool false) rfl (congrArg Value.bool (decide_eq_false (by simp [hnn.2]))) ?_
  refine wl_move (by decide) rfl ?_
  refine wl_gyes rfl rfl ?_
  refine wl_move (by decide) rfl ?_
  refine wl_gyes rfl rfl ?_
  refine wl_len (by decide) Try.underlying22 rfl ?_
  refine wl_gyes rfl rfl ?_
  refine wl_eql (by decide) rfl rfl ?_
  refine wl_re (k := 23) (v := .bool false) rfl (congrArg Value.bool (decide_eq_false (by omega))) ?_
  refine wl_pick (by decide) rfl rfl ?_
  refine wl_nil ?_
  refine wk_norm ?_
  refine wc_cond_f rfl ?_
  refine wc_skip ?_
  refine wk_norm ?_
  refine wc_seq ?_
  refine wc_region ?_
  refine wl_move (by decide) rfl ?_
  refine wl_move (by decide) rfl ?_
  refine wl_move (by decide) rfl ?_
  refine wl_len (by decide) Try.underlying22 rfl ?_
  refine wl_call (by decide) Try.cl33 rfl (bring_ok (by omega) (by omega) (by omega) (by omega)) ?_
  rintro _ _ ⟨rfl, rfl⟩
  have lo2 := brg_lo m ((numL N.toNat).length : Int)
  have hi2 := brg_hi m ((numL N.toNat).length : Int) (by omega)
  generalize brg m ((numL N.toNat).length : Int) = J at *
  refine wl_to (by decide) Try.sl22 rfl rfl ho3 J.toNat (by omega) (by omega) ?_
  intro hb1
  have htk := takeS_short N.toNat (by omega) J.toNat (by omega)
  have hcl := takeNum_ok hb1
  refine wl_call (by decide) Try.cl20 rfl hcl ?_
  clear hcl
  rintro _ w5 ⟨A5, c5, rfl, ho5, hE5⟩
  replace ho5 := ho5.bs.any
  replace ho3 := ho3.ext hE5
  replace hb1 := hb1.ext hE5
  replace hEc := hEc.trans hE5
  rw [htk] at ho5 ⊢
  refine wl_move (by decide) rfl ?_
  refine wl_extract (by decide) rfl rfl ?_
  refine wl_extract (by decide) rfl rfl ?_
  refine wl_extract (by decide) rfl rfl ?_
  refine wl_assign (by decide) rfl ?_
  refine wl_assign (by decide) rfl ?_
  refine wl_assign (by decide) rfl ?_
  refine wl_nil ?_
  refine wk_norm ?_
  refine wc_seq ?_
  refine wc_region ?_
  refine wl_move (by decide) rfl ?_
  refine wl_eql (by decide) rfl rfl ?_
  refine wl_re (k := 37) (v := .bool true) rfl (congrArg Value.bool (decide_eq_true (by rfl))) ?_
  refine wl_move (by decide) rfl ?_
  refine wl_gyes rfl rfl ?_
  refine wl_move (by decide) rfl ?_
  refine wl_gyes rfl rfl ?_
  refine wl_eql (by decide) rfl rfl ?_
  refine wl_re (k := 40) (v := .bool true) rfl (congrArg Value.bool (decide_eq_true (by rfl))) ?_
  refine wl_pick (by decide) rfl rfl ?_
  refine wl_move (by decide) rfl ?_
  refine wl_gyes rfl rfl ?_
  refine wl_move (by decide) rfl ?_
  refine wl_gyes rfl rfl ?_
  refine wl_len (by decide) Try.underlying22 rfl ?_
  refine wl_gyes rfl rfl ?_
  refine wl_eql (by decide) rfl rfl ?_
  refine wl_re (k := 45) (v := .bool true) rfl (congrArg Value.bool (decide_eq_true (by rfl))) ?_
  refine wl_pick (by decide) rfl rfl ?_
  refine wl_assign (by decide) rfl ?_
  refine wl_nil ?_
  refine wk_norm ?_
  refine wc_ret ?_
  refine wk_post1 (.inl rfl) Try.results13 rfl ?_
  exact ⟨_, rfl, rfl, hEc⟩

theorem binParts_ok {A : Option Addr} {c : Nat} {b : List UInt8} {S : Nat → Prop} {n : Int} {w : World} (h1 : -9223372036854775808 ≤ n) (h2 : n ≤ 9223372036854775807) (hb : BS S w A c b) : Ret Try.prog 14 #[.slice A b.length c, .int .i64 n] w (fun v w' => v = .bool true ∧ Ext w w') := by
  replace hb := hb.any
  refine ret_of_wk Try.func14 rfl Try.ntmps14 (Nat.le_of_ble_eq_true rfl) ?_
  have hEc : Ext w w := Chg.refl _ _
  refine wc_seq ?_
  refine wc_region ?_
  refine wl_assign (by decide) rfl ?_
  refine wl_nil ?_
  refine wk_norm ?_
  refine wc_seq ?_
  refine wc_seq ?_
  refine wc_region ?_
  refine wl_call (by decide) Try.cl24 rfl (works_ok) ?_
  rintro _ w1 ⟨rfl, hE1⟩
  replace hb := hb.ext hE1
  replace hEc := hEc.trans hE1
  first | refine wl_notd (by decide) rfl ?_ | refine wl_not (by decide) rfl ?_
  refine wl_nil ?_
  refine wk_norm ?_
  refine wc_cond_f rfl ?_
  refine wc_skip ?_
  refine wk_norm ?_
  refine wc_seq ?_
  refine wc_region ?_
  refine wl_move (by decide) rfl ?_
  refine wl_move (by decide) rfl ?_
  refine wl_call (by decide) Try.cl29 rfl (takeFix_ok hb (by omega) (by omega)) ?_
  rintro _ w2 ⟨A2, c2, B2, d2, rfl, ho2, hp2, hE2⟩
  replace ho2 := ho2.bs.any
  replace hp2 := hp2.bs.any
  replace hb := hb.ext hE2
  replace hEc := hEc.trans hE2
  refine wl_move (by decide) rfl ?_
  refine wl_extract (by decide) rfl rfl ?_
  refine wl_extract (by decide) rfl rfl ?_
  refine wl_extract (by decide) rfl rfl ?_
  refine wl_assign (by decide) rfl ?_
  refine wl_assign (by decide) rfl ?_
  refine wl_assign (by decide) rfl ?_
  refine wl_nil ?_
  refine wk_norm ?_
  refine wc_seq ?_
  refine wc_seq ?_
  refine wc_region ?_
  refine wl_move (by decide) rfl ?_
  refine wl_lss (by decide) rfl rfl ?_
  refine wl_nil ?_
  refine wk_norm ?_
  refine wc_cond rfl (fun h5 => ?_) (fun h5 => ?_)
  ·
    try replace h5 := of_decide_eq_true h5
    have hx : fixS b n = ([], [], 2) := by simp only [fixS]; rw [if_pos h5]
    refine wc_seq ?_
    refine wc_region ?_
    refine wl_move (by decide) rfl ?_
    refine wl_eql (by decide) rfl rfl ?_
    refine wl_re (k := 20) (v := .bool true) rfl (congrArg Value.bool (decide_eq_true (by rw [hx]))) ?_
    refine wl_assign (by decide) rfl ?_
    refine wl_nil ?_
    refine wk_norm ?_
    refine wc_ret ?_
    refine wk_then_ret ?_
    refine wk_post1 (.inl rfl) Try.results14 rfl ?_
    exact ⟨_, rfl, rfl, hEc⟩
  ·
    try replace h5 := of_decide_eq_false h5
    skip
    refine wc_skip ?_
    refine wk_norm ?_
    refine wc_seq ?_
    refine wc_seq ?_
    refine wc_region ?_
    refine wl_move (by decide) rfl ?_
    refine wl_move (by decide) rfl ?_
    refine wl_len (by decide) Try.underlying22 rfl ?_
    refine wl_gtr (by decide) rfl rfl ?_
    refine wl_nil ?_
    refine wk_norm ?_
    refine wc_cond rfl (fun h6 => ?_) (fun h6 => ?_)
    ·
      try replace h6 := of_decide_eq_true h6
      have hx : fixS b n = ([], [], 3) := by simp only [fixS]; rw [if_neg h5, if_pos h6]
      refine wc_seq ?_
      refine wc_region ?_
      refine wl_move (by decide) rfl ?_
      refine wl_eql (by decide) rfl rfl ?_
      refine wl_re (k := 26) (v := .bool true) rfl (congrArg Value.bool (decide_eq_true (by rw [hx]; try rfl))) ?_
      refine wl_move (by decide) rfl ?_
      refine wl_gyes rfl rfl ?_
      refine wl_move (by decide) rfl ?_
      refine wl_gyes rfl rfl ?_
      refine wl_len (by decide) Try.underlying22 rfl ?_
      refine wl_gyes rfl rfl ?_
      refine wl_eql (by decide) rfl rfl ?_
      refine wl_re (k := 30) (v := .bool true) rfl (congrArg Value.bool (decide_eq_true (by rw [hx]; try rfl))) ?_
      refine wl_pick (by decide) rfl rfl ?_
      refine wl_move (by decide) rfl ?_
      refine wl_gyes rfl rfl ?_
      refine wl_move (by decide) rfl ?_
      refine wl_gyes rfl rfl ?_
      refine wl_len (by decide) Try.underlying22 rfl ?_
      refine wl_gyes rfl rfl ?_
      refine wl_eql (by decide) rfl rfl ?_
      refine wl_re (k := 35) (v := .bool true) rfl (congrArg Value.bool (decide_eq_true (by rw [hx]; try rfl))) ?_
      refine wl_pick (by decide) rfl rfl ?_
      refine wl_assign (by decide) rfl ?_
      refine wl_nil ?_
      refine wk_norm ?_
      refine wc_ret ?_
      refine wk_then_ret ?_
      refine wk_post1 (.inl rfl) Try.results14 rfl ?_
      exact ⟨_, rfl, rfl, hEc⟩
    ·
      try replace h6 := of_decide_eq_false h6
      have hx : fixS b n = (b.take n.toNat, b.drop n.toNat, 0) := by simp only [fixS]; rw [if_neg h5, if_neg h6]
      have hx1 : (fixS b n).1 = b.take n.toNat := by rw [hx]
      have hx2 : (fixS b n).2.1 = b.drop n.toNat := by rw [hx]
      have hx3 : (fixS b n).2.2 = 0 := by rw [hx]
      rw [hx1] at ho2 ⊢
      rw [hx2] at hp2 ⊢
      have hmx := hb.mx
      refine wc_skip ?_
      refine wk_norm ?_
      refine wc_seq ?_
      refine wc_region ?_
      refine wl_move (by decide) rfl ?_
      refine wl_eql (by decide) rfl rfl ?_
      refine wl_re (k := 38) (v := .bool true) rfl (congrArg Value.bool (decide_eq_true (by rw [hx3]))) ?_
      refine wl_move (by decide) rfl ?_
      refine wl_gyes rfl rfl ?_
      refine wl_move (by decide) rfl ?_
      refine wl_gyes rfl rfl ?_
      refine wl_len (by decide) Try.underlying22 rfl ?_
      refine wl_gyes rfl rfl ?_
      refine wl_move (by decide) rfl ?_
      refine wl_gyes rfl rfl ?_
      refine wl_eql (by decide) rfl rfl ?_
      refine wl_re (k := 43) (v := .bool true) rfl (congrArg Value.bool (decide_eq_true (by rw [List.length_take]; omega))) ?_
      refine wl_pick (by decide) rfl rfl ?_
      refine wl_move (by decide) rfl ?_
      refine wl_gyes rfl rfl ?_
      refine wl_move (by decide) rfl ?_
      refine wl_gyes rfl rfl ?_
      refine wl_move (by decide) rfl ?_
      refine wl_gyes rfl rfl ?_
      refine wl_bsliceS (xs := [.tmp 46, .tmp 47]) (by decide) Try.sl45 rfl rfl (by rfl) (by decide) (SlicesOf.cons ho2 (SlicesOf.cons hp2 SlicesOf.nil)) ?_
      rintro g3 w3 hs3 hE3
      replace hb := hb.ext hE3
      replace ho2 := ho2.ext hE3
      replace hp2 := hp2.ext hE3
      replace hEc := hEc.trans hE3
      refine wl_gyes rfl rfl ?_
      have hcl := join_ok hs3 (by simp; omega)
      refine wl_call (by decide) Try.cl31 rfl hcl ?_
      clear hcl
      rintro _ w4 ⟨A4, c4, rfl, ho4, hE4⟩
      replace ho4 := ho4.bs.any
      replace hb := hb.ext hE4
      replace ho2 := ho2.ext hE4
      replace hp2 := hp2.ext hE4
      replace hs3 := hs3.ext hE4
      replace hEc := hEc.trans hE4
      refine wl_gyes rfl rfl ?_
      refine wl_move (by decide) rfl ?_
      refine wl_gyes rfl rfl ?_
      have hcl := eqBytes_ok ho4 hb
      refine wl_call (by decide) Try.cl22 rfl hcl ?_
      clear hcl
      rintro _ w5 ⟨rfl, hE5⟩
      replace hb := hb.ext hE5
      replace ho2 := ho2.ext hE5
      replace hp2 := hp2.ext hE5
      replace hs3 := hs3.ext hE5
      replace ho4 := ho4.ext hE5
      replace hEc := hEc.trans hE5
      refine wl_re (k := 51) (v := .bool true) rfl (congrArg Value.bool (decide_eq_true (by simp))) ?_
      refine wl_pick (by decide) rfl rfl ?_
      refine wl_assign (by decide) rfl ?_
      refine wl_nil ?_
      refine wk_norm ?_
      refine wc_ret ?_
      refine wk_post1 (.inl rfl) Try.results14 rfl ?_
      exact ⟨_, rfl, rfl, hEc⟩

end Go.Proofs.Ytifnbemboednaaa
