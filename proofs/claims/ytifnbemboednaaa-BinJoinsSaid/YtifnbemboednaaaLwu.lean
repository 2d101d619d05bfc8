/- Lwu (printed by program: wip/gen) -/
import Derived.Test.YtifnbemboednaaaLws
namespace Go.Proofs.Ytifnbemboednaaa
open Go.RowKit Go.Eng

theorem spoil2_ok {A : Option Addr} {c k0 : Nat} {lo : Nat} {w : World} (hmx : k0 ≤ 140737488355328) (hw : Wr lo w A k0) : Ret Try.prog 23 #[.slice A k0 c] w (fun v w' => v = .tuple #[] ∧ Spl lo w w') := by
  refine ret_of_wk Try.func23 rfl Try.ntmps23 (Nat.le_of_ble_eq_true rfl) ?_
  refine wc_seq ?_
  refine wc_region ?_
  refine wl_assign (by decide) rfl ?_
  refine wl_nil ?_
  refine wk_norm ?_
  refine wc_block ?_
  refine wc_loop (fun L' w' mes => ∃ (k : Nat), L' = [(0, .slice A k0 c), (2, .int .i64 (k : Int))] ∧ (k ≤ k0) ∧ (Spl lo w w') ∧ k0 - k = mes) [(0, .slice A k0 c), (2, .int .i64 (0 : Int))] (k0 - 0) (by
      refine ⟨0, rfl, ?_, ?_, rfl⟩
      · omega
      · exact Spl.refl _ _) ⟨rfl, rfl, trivial⟩ ?_
  rintro _ wr _ ⟨k, rfl, hk, hS, rfl⟩ KL1 hKL1
  refine wc_seq ?_
  refine wc_seq ?_
  refine wc_region ?_
  refine wl_move (by decide) rfl ?_
  refine wl_move (by decide) rfl ?_
  refine wl_len (by decide) Try.underlying22 rfl ?_
  refine wl_lss (by decide) rfl rfl ?_
  refine wl_nil ?_
  refine wk_norm ?_
  refine wc_cond rfl (fun hlt => ?_) (fun hlt => ?_)
  ·
    try replace hlt := of_decide_eq_true hlt
    refine wc_skip ?_
    refine wk_norm ?_
    refine wc_seq ?_
    refine wc_block ?_
    refine wc_region ?_
    refine wl_move (by decide) rfl ?_
    refine wl_move (by decide) rfl ?_
    refine wl_move (by decide) rfl ?_
    refine wl_move (by decide) rfl ?_
    obtain ⟨a, hAa, hla, ⟨x, hcx⟩, hfx⟩ := hS.wr A k0 hw k (by omega)
    refine wl_idx0 (by decide) Try.sl22 rfl rfl hAa k rfl (by omega) ?_
    rw [Nat.mul_one]
    refine wl_load (by decide) Try.sc5 rfl hcx ?_
    refine wl_add (by decide) rfl rfl (wrap_u8 _) ?_
    refine wl_idx0 (by decide) Try.sl22 rfl rfl hAa k rfl (by omega) ?_
    rw [Nat.mul_one]
    refine wl_store (v := bv (u8Of ((x.toNat : Int) + 1))) Try.sz5 rfl rfl rfl hcx hfx ?_
    refine wl_nil ?_
    refine wk_blk_norm ?_
    refine wk_norm ?_
    refine wc_region ?_
    refine wl_move (by decide) rfl ?_
    refine wl_add (by decide) rfl rfl (w64 (by omega) (by omega)) ?_
    refine wl_assign (by decide) rfl ?_
    refine wl_nil ?_
    refine wk_norm ?_
    refine wk_drop [(0, .slice A k0 c), (2, .int .i64 ((k + 1) : Int))] ⟨rfl, rfl, trivial⟩ (hKL1 _ _ (m2 := k0 - (k + 1)) ?_ ?_)
    ·
      refine ⟨(k + 1), rfl, ?_, ?_, rfl⟩
      · omega
      · exact hS.setCell (by rw [block_add]; exact hla) hcx
    · omega
  ·
    try replace hlt := of_decide_eq_false hlt
    refine wc_exit ?_
    refine wk_then_exit ?_
    refine wk_then_exit ?_
    refine wk_blk_exit ?_
    refine wk_post0 (.inr rfl) Try.results23  ?_
    exact ⟨_, rfl, rfl, hS⟩

theorem binNum_ok {A : Option Addr} {c : Nat} {b : List UInt8} {S : Nat → Prop} {n : Int} {w : World} (h1 : -9223372036854775808 ≤ n) (h2 : n ≤ 9223372036854775807) (hb : BS S w A c b) : Ret Try.prog 3 #[.int .i64 n, .slice A b.length c] w (fun v w' => v = .bool true ∧ Ext w w') := by
  replace hb := hb.any
  refine ret_of_wk Try.func3 rfl Try.ntmps3 (Nat.le_of_ble_eq_true rfl) ?_
  have hEc : Ext w w := Chg.refl _ _
  refine wc_seq ?_
  refine wc_region ?_
  refine wl_assign (by decide) rfl ?_
  refine wl_nil ?_
  refine wk_norm ?_
  refine wc_seq ?_
  refine wc_region ?_
  refine wl_move (by decide) rfl ?_
  refine wl_call (by decide) Try.cl17 rfl (num_ok (by omega) (by omega)) ?_
  rintro _ w1 ⟨A1, c1, rfl, ho1, hE1⟩
  replace ho1 := ho1.bs.any
  replace hb := hb.ext hE1
  replace hEc := hEc.trans hE1
  refine wl_move (by decide) rfl ?_
  refine wl_extract (by decide) rfl rfl ?_
  refine wl_extract (by decide) rfl rfl ?_
  refine wl_assign (by decide) rfl ?_
  refine wl_assign (by decide) rfl ?_
  refine wl_nil ?_
  refine wk_norm ?_
  refine wc_seq ?_
  refine wc_region ?_
  refine wl_move (by decide) rfl ?_
  refine wl_call (by decide) Try.cl18 rfl (rnum_ok (by omega) (by omega)) ?_
  rintro _ w2 ⟨A2, c2, rfl, ho2, hE2⟩
  replace ho2 := ho2.bs.any
  replace hb := hb.ext hE2
  replace ho1 := ho1.ext hE2
  replace hEc := hEc.trans hE2
  refine wl_move (by decide) rfl ?_
  refine wl_extract (by decide) rfl rfl ?_
  refine wl_extract (by decide) rfl rfl ?_
  refine wl_assign (by decide) rfl ?_
  refine wl_assign (by decide) rfl ?_
  refine wl_nil ?_
  refine wk_norm ?_
  refine wc_seq ?_
  refine wc_region ?_
  refine wl_move (by decide) rfl ?_
  have hcl := copyBytes_ok hb
  refine wl_call (by decide) Try.cl19 rfl hcl ?_
  clear hcl
  rintro _ w3 ⟨A3, c3, rfl, ho3, hE3⟩
  replace ho3 := ho3.bs.any
  replace hb := hb.ext hE3
  replace ho1 := ho1.ext hE3
  replace ho2 := ho2.ext hE3
  replace hEc := hEc.trans hE3
  refine wl_assign (by decide) rfl ?_
  replace ho3 := ho3.now
  replace hb := hb.now
  have hlo := hEc.size
  refine wl_nil ?_
  refine wk_norm ?_
  refine wc_seq ?_
  refine wc_region ?_
  refine wl_move (by decide) rfl ?_
  have hcl := takeNum_ok ho3
  refine wl_call (by decide) Try.cl20 rfl hcl ?_
  clear hcl
  rintro _ w40 ⟨A40, c40, rfl, hq, hE40⟩
  replace hb := hb.ext hE40
  replace ho1 := ho1.ext hE40
  replace ho2 := ho2.ext hE40
  replace ho3 := ho3.ext hE40
  replace hEc := hEc.trans hE40
  refine wl_move (by decide) rfl ?_
  refine wl_extract (by decide) rfl rfl ?_
  refine wl_extract (by decide) rfl rfl ?_
  refine wl_extract (by decide) rfl rfl ?_
  refine wl_assign (by decide) rfl ?_
  refine wl_assign (by decide) rfl ?_
  refine wl_assign (by decide) rfl ?_
  refine wl_nil ?_
  refine wk_norm ?_
  refine wc_seq ?_
  refine wc_region ?_
  refine wl_move (by decide) rfl ?_
  have hcl := rtakeNum_ok hb
  refine wl_call (by decide) Try.cl21 rfl hcl ?_
  clear hcl
  rintro _ w4 ⟨A4, c4, rfl, ho4, hE4⟩
  replace ho4 := ho4.bs.any
  replace hb := hb.ext hE4
  replace ho1 := ho1.ext hE4
  replace ho2 := ho2.ext hE4
  replace ho3 := ho3.ext hE4
  replace hq := hq.ext hE4
  replace hEc := hEc.trans hE4
  refine wl_move (by decide) rfl ?_
  refine wl_extract (by decide) rfl rfl ?_
  refine wl_extract (by decide) rfl rfl ?_
  refine wl_extract (by decide) rfl rfl ?_
  refine wl_assign (by decide) rfl ?_
  refine wl_assign (by decide) rfl ?_
  refine wl_assign (by decide) rfl ?_
  refine wl_nil ?_
  refine wk_norm ?_
  refine wc_seq ?_
  refine wc_seq ?_
  refine wc_region ?_
  refine wl_move (by decide) rfl ?_
  refine wl_move (by decide) rfl ?_
  have hcl := eqBytes_ok ho1 ho2
  refine wl_call (by decide) Try.cl22 rfl hcl ?_
  clear hcl
  rintro _ w5 ⟨rfl, hE5⟩
  replace hb := hb.ext hE5
  replace ho1 := ho1.ext hE5
  replace ho2 := ho2.ext hE5
  replace ho3 := ho3.ext hE5
  replace hq := hq.ext hE5
  replace ho4 := ho4.ext hE5
  replace hEc := hEc.trans hE5
  refine wl_re (k := 42) (v := .bool true) rfl (congrArg Value.bool (decide_eq_true (by rfl))) ?_
  first | refine wl_notd (by decide) rfl ?_ | refine wl_not (by decide) rfl ?_
  refine wl_move (by decide) rfl ?_
  refine wl_gyes rfl rfl ?_
  refine wl_move (by decide) rfl ?_
  refine wl_gyes rfl rfl ?_
  refine wl_move (by decide) rfl ?_
  refine wl_gyes rfl rfl ?_
  refine wl_neq (by decide) rfl rfl ?_
  refine wl_re (k := 47) (v := .bool false) rfl (congrArg Value.bool (decide_eq_false (by simp))) ?_
  refine wl_pick (by decide) rfl rfl ?_
  refine wl_move (by decide) rfl ?_
  refine wl_gyes rfl rfl ?_
  refine wl_move (by decide) rfl ?_
  refine wl_gyes rfl rfl ?_
  refine wl_move (by decide) rfl ?_
  refine wl_gyes rfl rfl ?_
  refine wl_neq (by decide) rfl rfl ?_
  refine wl_re (k := 52) (v := .bool false) rfl (congrArg Value.bool (decide_eq_false (by simp))) ?_
  refine wl_pick (by decide) rfl rfl ?_
  refine wl_move (by decide) rfl ?_
  refine wl_gyes rfl rfl ?_
  refine wl_move (by decide) rfl ?_
  refine wl_gyes rfl rfl ?_
  refine wl_move (by decide) rfl ?_
  refine wl_gyes rfl rfl ?_
  have hcl := eqBytes_ok hq.bs ho4
  refine wl_call (by decide) Try.cl22 rfl hcl ?_
  clear hcl
  rintro _ w6 ⟨rfl, hE6⟩
  replace hb := hb.ext hE6
  replace ho1 := ho1.ext hE6
  replace ho2 := ho2.ext hE6
  replace ho3 := ho3.ext hE6
  replace hq := hq.ext hE6
  replace ho4 := ho4.ext hE6
  replace hEc := hEc.trans hE6
  refine wl_re (k := 57) (v := .bool true) rfl (congrArg Value.bool (decide_eq_true (by rfl))) ?_
  refine wl_gyes rfl rfl ?_
  first | refine wl_notd (by decide) rfl ?_ | refine wl_not (by decide) rfl ?_
  refine wl_pick (by decide) rfl rfl ?_
  refine wl_move (by decide) rfl ?_
  refine wl_gyes rfl rfl ?_
  refine wl_move (by decide) rfl ?_
  refine wl_gyes rfl rfl ?_
  refine wl_move (by decide) rfl ?_
  refine wl_gyes rfl rfl ?_
  refine wl_neq (by decide) rfl rfl ?_
  refine wl_re (k := 63) (v := .bool false) rfl (congrArg Value.bool (decide_eq_false (by simp))) ?_
  refine wl_pick (by decide) rfl rfl ?_
  refine wl_nil ?_
  refine wk_norm ?_
  refine wc_cond_f rfl ?_
  refine wc_skip ?_
  refine wk_norm ?_
  refine wc_seq ?_
  refine wc_region ?_
  refine wl_move (by decide) rfl ?_
  refine wl_call (by decide) Try.cl23 rfl (spoil2_ok hq.mx hq.wr) ?_
  rintro _ w80 ⟨rfl, hS⟩
  replace ho3 := ho3.keep hS.chg (fun b _ h1 h2 => Nat.not_le_of_lt h1 h2)
  replace hb := hb.keep hS.chg (fun b _ h1 h2 => Nat.not_le_of_lt h1 h2)
  replace hEc := hEc.step hS.chg (fun b h1 h2 => absurd (Nat.lt_of_lt_of_le h1 (Nat.le_trans hlo h2)) (Nat.lt_irrefl _))
  refine wl_nil ?_
  refine wk_norm ?_
  refine wc_seq ?_
  refine wc_region ?_
  refine wl_move (by decide) rfl ?_
  refine wl_move (by decide) rfl ?_
  have hcl := eqBytes_ok ho3 hb
  refine wl_call (by decide) Try.cl22 rfl hcl ?_
  clear hcl
  rintro _ w7 ⟨rfl, hE7⟩
  replace ho3 := ho3.ext hE7
  replace hb := hb.ext hE7
  replace hEc := hEc.trans hE7
  refine wl_re (k := 69) (v := .bool true) rfl (congrArg Value.bool (decide_eq_true (by rfl))) ?_
  refine wl_move (by decide) rfl ?_
  refine wl_gyes rfl rfl ?_
  refine wl_call (by decide) Try.cl24 rfl (works_ok) ?_
  rintro _ w8 ⟨rfl, hE8⟩
  replace ho3 := ho3.ext hE8
  replace hb := hb.ext hE8
  replace hEc := hEc.trans hE8
  refine wl_pick (by decide) rfl rfl ?_
  refine wl_assign (by decide) rfl ?_
  refine wl_nil ?_
  refine wk_norm ?_
  refine wc_ret ?_
  refine wk_post1 (.inl rfl) Try.results3 rfl ?_
  exact ⟨_, rfl, rfl, hEc⟩

theorem binStr_ok {A : Option Addr} {c : Nat} {b : List UInt8} {S : Nat → Prop} {most : Int} {w : World} (hb : BS S w A c b) : Ret Try.prog 4 #[.slice A b.length c, .int .i64 most] w (fun v w' => v = .bool true ∧ Ext w w') := by
  replace hb := hb.any
  refine ret_of_wk Try.func4 rfl Try.ntmps4 (Nat.le_of_ble_eq_true rfl) ?_
  have hEc : Ext w w := Chg.refl _ _
  refine wc_seq ?_
  refine wc_region ?_
  refine wl_assign (by decide) rfl ?_
  refine wl_nil ?_
  refine wk_norm ?_
  refine wc_seq ?_
  refine wc_region ?_
  refine wl_move (by decide) rfl ?_
  have hcl := copyBytes_ok hb
  refine wl_call (by decide) Try.cl19 rfl hcl ?_
  clear hcl
  rintro _ w1 ⟨A1, c1, rfl, ho1, hE1⟩
  replace ho1 := ho1.bs.any
  replace hb := hb.ext hE1
  replace hEc := hEc.trans hE1
  refine wl_assign (by decide) rfl ?_
  replace ho1 := ho1.now
  replace hb := hb.now
  have hlo := hEc.size
  refine wl_nil ?_
  refine wk_norm ?_
  refine wc_seq ?_
  refine wc_region ?_
  refine wl_move (by decide) rfl ?_
  have hcl := str_ok ho1
  refine wl_call (by decide) Try.cl25 rfl hcl ?_
  clear hcl
  rintro _ w20 ⟨A20, c20, rfl, hx, hE20⟩
  replace hb := hb.ext hE20
  replace ho1 := ho1.ext hE20
  replace hEc := hEc.trans hE20
  refine wl_move (by decide) rfl ?_
  refine wl_extract (by decide) rfl rfl ?_
  refine wl_extract (by decide) rfl rfl ?_
  refine wl_assign (by decide) rfl ?_
  refine wl_assign (by decide) rfl ?_
  refine wl_nil ?_
  refine wk_norm ?_
  refine wc_seq ?_
  refine wc_region ?_
  refine wl_move (by decide) rfl ?_
  have hcl := rstr_ok hb
  refine wl_call (by decide) Try.cl26 rfl hcl ?_
  clear hcl
  rintro _ w2 ⟨A2, c2, rfl, ho2, hE2⟩
  replace ho2 := ho2.bs.any
  replace hb := hb.ext hE2
  replace ho1 := ho1.ext hE2
  replace hx := hx.ext hE2
  replace hEc := hEc.trans hE2
  refine wl_move (by decide) rfl ?_
  refine wl_extract (by decide) rfl rfl ?_
  refine wl_extract (by decide) rfl rfl ?_
  refine wl_assign (by decide) rfl ?_
  refine wl_assign (by decide) rfl ?_
  refine wl_nil ?_
  refine wk_norm ?_
  refine wc_seq ?_
  refine wc_region ?_
  refine wl_move (by decide) rfl ?_
  refine wl_move (by decide) rfl ?_
  have hcl := takeStr_ok (most := most) ho1
  refine wl_call (by decide) Try.cl27 rfl hcl ?_
  clear hcl
  rintro _ w40 ⟨A40, c40, A41, c41, rfl, hs, hr, hE40⟩
  replace hs := hs.lower (Nat.le_trans hE20.size hE2.size)
  replace hr := hr.lower (Nat.le_trans hE20.size hE2.size)
  replace hb := hb.ext hE40
  replace ho1 := ho1.ext hE40
  replace hx := hx.ext hE40
  replace ho2 := ho2.ext hE40
  replace hEc := hEc.trans hE40
  refine wl_move (by decide) rfl ?_
  refine wl_extract (by decide) rfl rfl ?_
  refine wl_extract (by decide) rfl rfl ?_
  refine wl_extract (by decide) rfl rfl ?_
  refine wl_assign (by decide) rfl ?_
  refine wl_assign (by decide) rfl ?_
  refine wl_assign (by decide) rfl ?_
  refine wl_nil ?_
  refine wk_norm ?_
  refine wc_seq ?_
  refine wc_region ?_
  refine wl_move (by decide) rfl ?_
  refine wl_move (by decide) rfl ?_
  refine wl_call (by decide) Try.cl28 rfl (rtakeStr_ok hb) ?_
  rintro _ w3 ⟨A3, c3, B3, d3, rfl, ho3, hp3, hE3⟩
  replace ho3 := ho3.bs.any
  replace hp3 := hp3.bs.any
  replace hb := hb.ext hE3
  replace ho1 := ho1.ext hE3
  replace hx := hx.ext hE3
  replace ho2 := ho2.ext hE3
  replace hs := hs.ext hE3
  replace hr := hr.ext hE3
  replace hEc := hEc.trans hE3
  refine wl_move (by decide) rfl ?_
  refine wl_extract (by decide) rfl rfl ?_
  refine wl_extract (by decide) rfl rfl ?_
  refine wl_extract (by decide) rfl rfl ?_
  refine wl_assign (by decide) rfl ?_
  refine wl_assign (by decide) rfl ?_
  refine wl_assign (by decide) rfl ?_
  refine wl_nil ?_
  refine wk_norm ?_
  refine wc_seq ?_
  refine wc_seq ?_
  refine wc_region ?_
  refine wl_move (by decide) rfl ?_
  refine wl_move (by decide) rfl ?_
  have hcl := eqBytes_ok hx.bs ho2
  refine wl_call (by decide) Try.cl22 rfl hcl ?_
  clear hcl
  rintro _ w4 ⟨rfl, hE4⟩
  replace hb := hb.ext hE4
  replace ho1 := ho1.ext hE4
  replace hx := hx.ext hE4
  replace ho2 := ho2.ext hE4
  replace hs := hs.ext hE4
  replace hr := hr.ext hE4
  replace ho3 := ho3.ext hE4
  replace hp3 := hp3.ext hE4
  replace hEc := hEc.trans hE4
  refine wl_re (k := 44) (v := .bool true) rfl (congrArg Value.bool (decide_eq_true (by rfl))) ?_
  first | refine wl_notd (by decide) rfl ?_ | refine wl_not (by decide) rfl ?_
  refine wl_move (by decide) rfl ?_
  refine wl_gyes rfl rfl ?_
  refine wl_move (by decide) rfl ?_
  refine wl_gyes rfl rfl ?_
  refine wl_move (by decide) rfl ?_
  refine wl_gyes rfl rfl ?_
  refine wl_neq (by decide) rfl rfl ?_
  refine wl_re (k := 49) (v := .bool false) rfl (congrArg Value.bool (decide_eq_false (by simp))) ?_
  refine wl_pick (by decide) rfl rfl ?_
  refine wl_move (by decide) rfl ?_
  refine wl_gyes rfl rfl ?_
  refine wl_move (by decide) rfl ?_
  refine wl_gyes rfl rfl ?_
  refine wl_move (by decide) rfl ?_
  refine wl_gyes rfl rfl ?_
  have hcl := eqBytes_ok hs.bs ho3
  refine wl_call (by decide) Try.cl22 rfl hcl ?_
  clear hcl
  rintro _ w5 ⟨rfl, hE5⟩
  replace hb := hb.ext hE5
  replace ho1 := ho1.ext hE5
  replace hx := hx.ext hE5
  replace ho2 := ho2.ext hE5
  replace hs := hs.ext hE5
  replace hr := hr.ext hE5
  replace ho3 := ho3.ext hE5
  replace hp3 := hp3.ext hE5
  replace hEc := hEc.trans hE5
  refine wl_re (k := 54) (v := .bool true) rfl (congrArg Value.bool (decide_eq_true (by rfl))) ?_
  refine wl_gyes rfl rfl ?_
  first | refine wl_notd (by decide) rfl ?_ | refine wl_not (by decide) rfl ?_
  refine wl_pick (by decide) rfl rfl ?_
  refine wl_move (by decide) rfl ?_
  refine wl_gyes rfl rfl ?_
  refine wl_move (by decide) rfl ?_
  refine wl_gyes rfl rfl ?_
  refine wl_move (by decide) rfl ?_
  refine wl_gyes rfl rfl ?_
  have hcl := eqBytes_ok hr.bs hp3
  refine wl_call (by decide) Try.cl22 rfl hcl ?_
  clear hcl
  rintro _ w6 ⟨rfl, hE6⟩
  replace hb := hb.ext hE6
  replace ho1 := ho1.ext hE6
  replace hx := hx.ext hE6
  replace ho2 := ho2.ext hE6
  replace hs := hs.ext hE6
  replace hr := hr.ext hE6
  replace ho3 := ho3.ext hE6
  replace hp3 := hp3.ext hE6
  replace hEc := hEc.trans hE6
  refine wl_re (k := 60) (v := .bool true) rfl (congrArg Value.bool (decide_eq_true (by rfl))) ?_
  refine wl_gyes rfl rfl ?_
  first | refine wl_notd (by decide) rfl ?_ | refine wl_not (by decide) rfl ?_
  refine wl_pick (by decide) rfl rfl ?_
  refine wl_move (by decide) rfl ?_
  refine wl_gyes rfl rfl ?_
  refine wl_move (by decide) rfl ?_
  refine wl_gyes rfl rfl ?_
  refine wl_move (by decide) rfl ?_
  refine wl_gyes rfl rfl ?_
  refine wl_neq (by decide) rfl rfl ?_
  refine wl_re (k := 66) (v := .bool false) rfl (congrArg Value.bool (decide_eq_false (by simp))) ?_
  refine wl_pick (by decide) rfl rfl ?_
  refine wl_nil ?_
  refine wk_norm ?_
  refine wc_cond_f rfl ?_
  refine wc_skip ?_
  refine wk_norm ?_
  refine wc_seq ?_
  refine wc_region ?_
  refine wl_move (by decide) rfl ?_
  refine wl_call (by decide) Try.cl23 rfl (spoil2_ok hx.mx hx.wr) ?_
  rintro _ w80 ⟨rfl, hS⟩
  replace ho1 := ho1.keep hS.chg (fun b _ h1 h2 => Nat.not_le_of_lt h1 h2)
  replace hb := hb.keep hS.chg (fun b _ h1 h2 => Nat.not_le_of_lt h1 h2)
  replace hEc := hEc.step hS.chg (fun b h1 h2 => absurd (Nat.lt_of_lt_of_le h1 (Nat.le_trans hlo h2)) (Nat.lt_irrefl _))
  have ms := hs.mx
  have mr := hr.mx
  replace hs := hS.wr _ _ hs.wr
  replace hr := hS.wr _ _ hr.wr
  refine wl_nil ?_
  refine wk_norm ?_
  refine wc_seq ?_
  refine wc_region ?_
  refine wl_move (by decide) rfl ?_
  refine wl_call (by decide) Try.cl23 rfl (spoil2_ok ms hs) ?_
  rintro _ w90 ⟨rfl, hS⟩
  replace ho1 := ho1.keep hS.chg (fun b _ h1 h2 => Nat.not_le_of_lt h1 h2)
  replace hb := hb.keep hS.chg (fun b _ h1 h2 => Nat.not_le_of_lt h1 h2)
  replace hEc := hEc.step hS.chg (fun b h1 h2 => absurd (Nat.lt_of_lt_of_le h1 (Nat.le_trans hlo h2)) (Nat.lt_irrefl _))
  replace hr := hS.wr _ _ hr
  refine wl_nil ?_
  refine wk_norm ?_
  refine wc_seq ?_
  refine wc_region ?_
  refine wl_move (by decide) rfl ?_
  refine wl_call (by decide) Try.cl23 rfl (spoil2_ok mr hr) ?_
  rintro _ w100 ⟨rfl, hS⟩
  replace ho1 := ho1.keep hS.chg (fun b _ h1 h2 => Nat.not_le_of_lt h1 h2)
  replace hb := hb.keep hS.chg (fun b _ h1 h2 => Nat.not_le_of_lt h1 h2)
  replace hEc := hEc.step hS.chg (fun b h1 h2 => absurd (Nat.lt_of_lt_of_le h1 (Nat.le_trans hlo h2)) (Nat.lt_irrefl _))
  refine wl_nil ?_
  refine wk_norm ?_
  refine wc_seq ?_
  refine wc_region ?_
  refine wl_move (by decide) rfl ?_
  refine wl_move (by decide) rfl ?_
  have hcl := eqBytes_ok ho1 hb
  refine wl_call (by decide) Try.cl22 rfl hcl ?_
  clear hcl
  rintro _ w7 ⟨rfl, hE7⟩
  replace ho1 := ho1.ext hE7
  replace hb := hb.ext hE7
  replace hEc := hEc.trans hE7
  refine wl_re (k := 76) (v := .bool true) rfl (congrArg Value.bool (decide_eq_true (by rfl))) ?_
  refine wl_move (by decide) rfl ?_
  refine wl_gyes rfl rfl ?_
  refine wl_call (by decide) Try.cl24 rfl (works_ok) ?_
  rintro _ w8 ⟨rfl, hE8⟩
  replace ho1 := ho1.ext hE8
  replace hb := hb.ext hE8
  replace hEc := hEc.trans hE8
  refine wl_pick (by decide) rfl rfl ?_
  refine wl_assign (by decide) rfl ?_
  refine wl_nil ?_
  refine wk_norm ?_
  refine wc_ret ?_
  refine wk_post1 (.inl rfl) Try.results4 rfl ?_
  exact ⟨_, rfl, rfl, hEc⟩

theorem binFix_ok {A : Option Addr} {c : Nat} {b : List UInt8} {S : Nat → Prop} {n : Int} {w : World} (h1 : -9223372036854775808 ≤ n) (h2 : n ≤ 9223372036854775807) (hb : BS S w A c b) : Ret Try.prog 5 #[.slice A b.length c, .int .i64 n] w (fun v w' => v = .bool true ∧ Ext w w') := by
  replace hb := hb.any
  refine ret_of_wk Try.func5 rfl Try.ntmps5 (Nat.le_of_ble_eq_true rfl) ?_
  have hEc : Ext w w := Chg.refl _ _
  refine wc_seq ?_
  refine wc_region ?_
  refine wl_assign (by decide) rfl ?_
  refine wl_nil ?_
  refine wk_norm ?_
  refine wc_seq ?_
  refine wc_region ?_
  refine wl_move (by decide) rfl ?_
  have hcl := copyBytes_ok hb
  refine wl_call (by decide) Try.cl19 rfl hcl ?_
  clear hcl
  rintro _ w1 ⟨A1, c1, rfl, ho1, hE1⟩
  replace ho1 := ho1.bs.any
  replace hb := hb.ext hE1
  replace hEc := hEc.trans hE1
  refine wl_assign (by decide) rfl ?_
  replace ho1 := ho1.now
  replace hb := hb.now
  have hlo := hEc.size
  refine wl_nil ?_
  refine wk_norm ?_
  refine wc_seq ?_
  refine wc_region ?_
  refine wl_move (by decide) rfl ?_
  refine wl_move (by decide) rfl ?_
  have hcl := takeFix_ok ho1 h1 h2
  refine wl_call (by decide) Try.cl29 rfl hcl ?_
  clear hcl
  rintro _ w40 ⟨A40, c40, A41, c41, rfl, hs, hr, hE40⟩
  replace hb := hb.ext hE40
  replace ho1 := ho1.ext hE40
  replace hEc := hEc.trans hE40
  refine wl_move (by decide) rfl ?_
  refine wl_extract (by decide) rfl rfl ?_
  refine wl_extract (by decide) rfl rfl ?_
  refine wl_extract (by decide) rfl rfl ?_
  refine wl_assign (by decide) rfl ?_
  refine wl_assign (by decide) rfl ?_
  refine wl_assign (by decide) rfl ?_
  refine wl_nil ?_
  refine wk_norm ?_
  refine wc_seq ?_
  refine wc_region ?_
  refine wl_move (by decide) rfl ?_
  refine wl_move (by decide) rfl ?_
  refine wl_call (by decide) Try.cl30 rfl (rtakeFix_ok hb (by omega) (by omega)) ?_
  rintro _ w2 ⟨A2, c2, B2, d2, rfl, ho2, hp2, hE2⟩
  replace ho2 := ho2.bs.any
  replace hp2 := hp2.bs.any
  replace hb := hb.ext hE2
  replace ho1 := ho1.ext hE2
  replace hs := hs.ext hE2
  replace hr := hr.ext hE2
  replace hEc := hEc.trans hE2
  refine wl_move (by decide) rfl ?_
  refine wl_extract (by decide) rfl rfl ?_
  refine wl_extract (by decide) rfl rfl ?_
  refine wl_extract (by decide) rfl rfl ?_
  refine wl_assign (by decide) rfl ?_
  refine wl_assign (by decide) rfl ?_
  refine wl_assign (by decide) rfl ?_
  refine wl_nil ?_
  refine wk_norm ?_
  refine wc_seq ?_
  refine wc_seq ?_
  refine wc_region ?_
  refine wl_move (by decide) rfl ?_
  refine wl_move (by decide) rfl ?_
  have hcl := eqBytes_ok hs.bs ho2
  refine wl_call (by decide) Try.cl22 rfl hcl ?_
  clear hcl
  rintro _ w3 ⟨rfl, hE3⟩
  replace hb := hb.ext hE3
  replace ho1 := ho1.ext hE3
  replace hs := hs.ext hE3
  replace hr := hr.ext hE3
  replace ho2 := ho2.ext hE3
  replace hp2 := hp2.ext hE3
  replace hEc := hEc.trans hE3
  refine wl_re (k := 30) (v := .bool true) rfl (congrArg Value.bool (decide_eq_true (by rfl))) ?_
  first | refine wl_notd (by decide) rfl ?_ | refine wl_not (by decide) rfl ?_
  refine wl_move (by decide) rfl ?_
  refine wl_gyes rfl rfl ?_
  refine wl_move (by decide) rfl ?_
  refine wl_gyes rfl rfl ?_
  refine wl_move (by decide) rfl ?_
  refine wl_gyes rfl rfl ?_
  have hcl := eqBytes_ok hr.bs hp2
  refine wl_call (by decide) Try.cl22 rfl hcl ?_
  clear hcl
  rintro _ w4 ⟨rfl, hE4⟩
  replace hb := hb.ext hE4
  replace ho1 := ho1.ext hE4
  replace hs := hs.ext hE4
  replace hr := hr.ext hE4
  replace ho2 := ho2.ext hE4
  replace hp2 := hp2.ext hE4
  replace hEc := hEc.trans hE4
  refine wl_re (k := 35) (v := .bool true) rfl (congrArg Value.bool (decide_eq_true (by rfl))) ?_
  refine wl_gyes rfl rfl ?_
  first | refine wl_notd (by decide) rfl ?_ | refine wl_not (by decide) rfl ?_
  refine wl_pick (by decide) rfl rfl ?_
  refine wl_move (by decide) rfl ?_
  refine wl_gyes rfl rfl ?_
  refine wl_move (by decide) rfl ?_
  refine wl_gyes rfl rfl ?_
  refine wl_move (by decide) rfl ?_
  refine wl_gyes rfl rfl ?_
  refine wl_neq (by decide) rfl rfl ?_
  refine wl_re (k := 41) (v := .bool false) rfl (congrArg Value.bool (decide_eq_false (by simp))) ?_
  refine wl_pick (by decide) rfl rfl ?_
  refine wl_nil ?_
  refine wk_norm ?_
  refine wc_cond_f rfl ?_
  refine wc_skip ?_
  refine wk_norm ?_
  refine wc_seq ?_
  refine wc_region ?_
  refine wl_move (by decide) rfl ?_
  refine wl_call (by decide) Try.cl23 rfl (spoil2_ok hs.mx hs.wr) ?_
  rintro _ w80 ⟨rfl, hS⟩
  replace ho1 := ho1.keep hS.chg (fun b _ h1 h2 => Nat.not_le_of_lt h1 h2)
  replace hb := hb.keep hS.chg (fun b _ h1 h2 => Nat.not_le_of_lt h1 h2)
  replace hEc := hEc.step hS.chg (fun b h1 h2 => absurd (Nat.lt_of_lt_of_le h1 (Nat.le_trans hlo h2)) (Nat.lt_irrefl _))
  have mr := hr.mx
  replace hr := hS.wr _ _ hr.wr
  refine wl_nil ?_
  refine wk_norm ?_
  refine wc_seq ?_
  refine wc_region ?_
  refine wl_move (by decide) rfl ?_
  refine wl_call (by decide) Try.cl23 rfl (spoil2_ok mr hr) ?_
  rintro _ w90 ⟨rfl, hS⟩
  replace ho1 := ho1.keep hS.chg (fun b _ h1 h2 => Nat.not_le_of_lt h1 h2)
  replace hb := hb.keep hS.chg (fun b _ h1 h2 => Nat.not_le_of_lt h1 h2)
  replace hEc := hEc.step hS.chg (fun b h1 h2 => absurd (Nat.lt_of_lt_of_le h1 (Nat.le_trans hlo h2)) (Nat.lt_irrefl _))
  refine wl_nil ?_
  refine wk_norm ?_
  refine wc_seq ?_
  refine wc_region ?_
  refine wl_move (by decide) rfl ?_
  refine wl_move (by decide) rfl ?_
  have hcl := eqBytes_ok ho1 hb
  refine wl_call (by decide) Try.cl22 rfl hcl ?_
  clear hcl
  rintro _ w5 ⟨rfl, hE5⟩
  replace ho1 := ho1.ext hE5
  replace hb := hb.ext hE5
  replace hEc := hEc.trans hE5
  refine wl_re (k := 49) (v := .bool true) rfl (congrArg Value.bool (decide_eq_true (by rfl))) ?_
  refine wl_move (by decide) rfl ?_
  refine wl_gyes rfl rfl ?_
  refine wl_call (by decide) Try.cl24 rfl (works_ok) ?_
  rintro _ w6 ⟨rfl, hE6⟩
  replace ho1 := ho1.ext hE6
  replace hb := hb.ext hE6
  replace hEc := hEc.trans hE6
  refine wl_pick (by decide) rfl rfl ?_
  refine wl_assign (by decide) rfl ?_
  refine wl_nil ?_
  refine wk_norm ?_
  refine wc_ret ?_
  refine wk_post1 (.inl rfl) Try.results5 rfl ?_
  exact ⟨_, rfl, rfl, hEc⟩

set_option maxHeartbeats 8000000 in
theorem binJoin_ok {A B C : Option Addr} {ca cb cc : Nat} {a b c : List UInt8} {S S2 S3 : Nat → Prop} {w : World} (ha : BS S w A ca a) (hb : BS S2 w B cb b) (hc : BS S3 w C cc c) : Ret Try.prog 6 #[.slice A a.length ca, .slice B b.length cb, .slice C c.length cc] w (fun v w' => v = .bool true ∧ Ext w w') := by
  replace ha := ha.any
  replace hb := hb.any
  replace hc := hc.any
  refine ret_of_wk Try.func6 rfl Try.ntmps6 (Nat.le_of_ble_eq_true rfl) ?_
  have hEc : Ext w w := Chg.refl _ _
  refine wc_seq ?_
  refine wc_region ?_
  refine wl_assign (by decide) rfl ?_
  refine wl_nil ?_
  refine wk_norm ?_
  refine wc_seq ?_
  refine wc_drawL [SP.eq (.slice A a.length ca), SP.eq (.slice A a.length ca), SP.eq (.int .i64 (a.length : Int)), SP.eq (.int .i64 (min (a.length : Int) 1000)), SP.gs byteR (fun _ => True) (a.take (min a.length 1000)), SP.eq (.slice B b.length cb), SP.eq (.slice B b.length cb), SP.eq (.int .i64 (b.length : Int)), SP.eq (.int .i64 (min (b.length : Int) 1000)), SP.gs byteR (fun _ => True) (b.take (min b.length 1000)), SP.eq (.slice C c.length cc), SP.eq (.slice C c.length cc), SP.eq (.int .i64 (c.length : Int)), SP.eq (.int .i64 (min (c.length : Int) 1000)), SP.gs byteR (fun _ => True) (c.take (min c.length 1000)), SP.gs byteR (fun _ => True) (a.take (min a.length 1000)), SP.gs byteR (fun _ => True) (b.take (min b.length 1000)), SP.gs byteR (fun _ => True) (c.take (min c.length 1000))] (by kernel_rfl) (by kernel_rfl) ⟨?_, ?_, ?_, ?_, ?_, ?_, ?_, ?_, ?_, ?_, ?_, ?_, ?_, ?_, ?_, ?_, ?_, ?_, trivial⟩ ?_
  ·
    intro F wF hER hk
    have e0 := hk.init 0 _ rfl (by kernel_rfl)
    refine wl_move (by decide) e0 ?_
    exact wl_nil (qr_some ⟨Chg.refl _ _, rfl⟩)
  ·
    intro F wF hER hk
    have e0 := hk.init 0 _ rfl (by kernel_rfl)
    refine wl_move (by decide) e0 ?_
    exact wl_nil (qr_some ⟨Chg.refl _ _, rfl⟩)
  ·
    intro F wF hER hk
    obtain ⟨u15, e15, h15⟩ := hk.pred 1 (by kernel_rfl) 15 rfl
    obtain rfl := h15
    refine wl_len (by decide) Try.underlying22 e15 ?_
    exact wl_nil (qr_some ⟨Chg.refl _ _, rfl⟩)
  ·
    intro F wF hER hk
    obtain ⟨u16, e16, h16⟩ := hk.pred 2 (by kernel_rfl) 16 rfl
    obtain rfl := h16
    refine wl_min (by decide) e16 rfl ?_
    exact wl_nil (qr_some ⟨Chg.refl _ _, rfl⟩)
  ·
    intro F wF hER hk
    obtain ⟨u14, e14, h14⟩ := hk.pred 0 (by kernel_rfl) 14 rfl
    obtain rfl := h14
    obtain ⟨u17, e17, h17⟩ := hk.pred 3 (by kernel_rfl) 17 rfl
    obtain rfl := h17
    refine wl_to (by decide) Try.sl22 e14 e17 (ha.ext hER) (min a.length 1000) (by omega) (by omega) ?_
    intro hg1
    exact wl_nil (qr_some ⟨Chg.refl _ _, _, _, rfl, hg1⟩)
  ·
    intro F wF hER hk
    have e1 := hk.init 1 _ rfl (by kernel_rfl)
    refine wl_move (by decide) e1 ?_
    exact wl_nil (qr_some ⟨Chg.refl _ _, rfl⟩)
  ·
    intro F wF hER hk
    have e1 := hk.init 1 _ rfl (by kernel_rfl)
    refine wl_move (by decide) e1 ?_
    exact wl_nil (qr_some ⟨Chg.refl _ _, rfl⟩)
  ·
    intro F wF hER hk
    obtain ⟨u20, e20, h20⟩ := hk.pred 6 (by kernel_rfl) 20 rfl
    obtain rfl := h20
    refine wl_len (by decide) Try.underlying22 e20 ?_
    exact wl_nil (qr_some ⟨Chg.refl _ _, rfl⟩)
  ·
    intro F wF hER hk
    obtain ⟨u21, e21, h21⟩ := hk.pred 7 (by kernel_rfl) 21 rfl
    obtain rfl := h21
    refine wl_min (by decide) e21 rfl ?_
    exact wl_nil (qr_some ⟨Chg.refl _ _, rfl⟩)
  ·
    intro F wF hER hk
    obtain ⟨u19, e19, h19⟩ := hk.pred 5 (by kernel_rfl) 19 rfl
    obtain rfl := h19
    obtain ⟨u22, e22, h22⟩ := hk.pred 8 (by kernel_rfl) 22 rfl
    obtain rfl := h22
    refine wl_to (by decide) Try.sl22 e19 e22 (hb.ext hER) (min b.length 1000) (by omega) (by omega) ?_
    intro hg1
    exact wl_nil (qr_some ⟨Chg.refl _ _, _, _, rfl, hg1⟩)
  ·
    intro F wF hER hk
    have e2 := hk.init 2 _ rfl (by kernel_rfl)
    refine wl_move (by decide) e2 ?_
    exact wl_nil (qr_some ⟨Chg.refl _ _, rfl⟩)
  ·
    intro F wF hER hk
    have e2 := hk.init 2 _ rfl (by kernel_rfl)
    refine wl_move (by decide) e2 ?_
    exact wl_nil (qr_some ⟨Chg.refl _ _, rfl⟩)
  ·
    intro F wF hER hk
    obtain ⟨u25, e25, h25⟩ := hk.pred 11 (by kernel_rfl) 25 rfl
    obtain rfl := h25
    refine wl_len (by decide) Try.underlying22 e25 ?_
    exact wl_nil (qr_some ⟨Chg.refl _ _, rfl⟩)
  ·
    intro F wF hER hk
    obtain ⟨u26, e26, h26⟩ := hk.pred 12 (by kernel_rfl) 26 rfl
    obtain rfl := h26
    refine wl_min (by decide) e26 rfl ?_
    exact wl_nil (qr_some ⟨Chg.refl _ _, rfl⟩)
  ·
    intro F wF hER hk
    obtain ⟨u24, e24, h24⟩ := hk.pred 10 (by kernel_rfl) 24 rfl
    obtain rfl := h24
    obtain ⟨u27, e27, h27⟩ := hk.pred 13 (by kernel_rfl) 27 rfl
    obtain rfl := h27
    refine wl_to (by decide) Try.sl22 e24 e27 (hc.ext hER) (min c.length 1000) (by omega) (by omega) ?_
    intro hg1
    exact wl_nil (qr_some ⟨Chg.refl _ _, _, _, rfl, hg1⟩)
  ·
    intro F wF hER hk
    obtain ⟨u18, e18, h18⟩ := hk.pred 4 (by kernel_rfl) 18 rfl
    obtain ⟨A18, c18, rfl, hg18⟩ := h18
    refine wl_assign (by decide) e18 ?_
    exact wl_nil (qr_some ⟨Chg.refl _ _, A18, c18, rfl, hg18⟩)
  ·
    intro F wF hER hk
    obtain ⟨u23, e23, h23⟩ := hk.pred 9 (by kernel_rfl) 23 rfl
    obtain ⟨A23, c23, rfl, hg23⟩ := h23
    refine wl_assign (by decide) e23 ?_
    exact wl_nil (qr_some ⟨Chg.refl _ _, A23, c23, rfl, hg23⟩)
  ·
    intro F wF hER hk
    obtain ⟨u28, e28, h28⟩ := hk.pred 14 (by kernel_rfl) 28 rfl
    obtain ⟨A28, c28, rfl, hg28⟩ := h28
    refine wl_assign (by decide) e28 ?_
    exact wl_nil (qr_some ⟨Chg.refl _ _, A28, c28, rfl, hg28⟩)
  ·
    intro F wD hED hini hdo
    obtain ⟨u0, e0, h0⟩ := hdo 15 0 rfl
    obtain ⟨A0, c0, rfl, hg0⟩ := h0
    obtain ⟨u1, e1, h1⟩ := hdo 16 1 rfl
    obtain ⟨A1, c1, rfl, hg1⟩ := h1
    obtain ⟨u2, e2, h2⟩ := hdo 17 2 rfl
    obtain ⟨A2, c2, rfl, hg2⟩ := h2
    refine wk_drop [(0, _), (1, _), (2, _)] ⟨e0, e1, e2, trivial⟩ ?_
    clear e0 e1 e2 hini hdo
    have hla : (a.take (min a.length 1000)).length ≤ 1000 := by rw [List.length_take]; omega
    generalize a.take (min a.length 1000) = a1 at hg0 hla ⊢
    have hlb : (b.take (min b.length 1000)).length ≤ 1000 := by rw [List.length_take]; omega
    generalize b.take (min b.length 1000) = b1 at hg1 hlb ⊢
    have hlc : (c.take (min c.length 1000)).length ≤ 1000 := by rw [List.length_take]; omega
    generalize c.take (min c.length 1000) = c1 at hg2 hlc ⊢
    replace ha := ha.ext hED
    replace hb := hb.ext hED
    replace hc := hc.ext hED
    replace hEc := hEc.trans hED
    refine wk_norm ?_
    refine wc_seq ?_
    refine wc_region ?_
    refine wl_move (by decide) rfl ?_
    have hcl := copyBytes_ok hg0
    refine wl_call (by decide) Try.cl19 rfl hcl ?_
    clear hcl
    rintro _ w1 ⟨A1, c1, rfl, ho1, hE1⟩
    replace ho1 := ho1.bs.any
    replace ha := ha.ext hE1
    replace hb := hb.ext hE1
    replace hc := hc.ext hE1
    replace hg0 := hg0.ext hE1
    replace hg1 := hg1.ext hE1
    replace hg2 := hg2.ext hE1
    replace hEc := hEc.trans hE1
    refine wl_move (by decide) rfl ?_
    have hcl := copyBytes_ok hg1
    refine wl_call (by decide) Try.cl19 rfl hcl ?_
    clear hcl
    rintro _ w2 ⟨A2, c2, rfl, ho2, hE2⟩
    replace ho2 := ho2.bs.any
    replace ha := ha.ext hE2
    replace hb := hb.ext hE2
    replace hc := hc.ext hE2
    replace hg0 := hg0.ext hE2
    replace hg1 := hg1.ext hE2
    replace hg2 := hg2.ext hE2
    replace ho1 := ho1.ext hE2
    replace hEc := hEc.trans hE2
    refine wl_move (by decide) rfl ?_
    have hcl := copyBytes_ok hg2
    refine wl_call (by decide) Try.cl19 rfl hcl ?_
    clear hcl
    rintro _ w3 ⟨A3, c3, rfl, ho3, hE3⟩
    replace ho3 := ho3.bs.any
    replace ha := ha.ext hE3
    replace hb := hb.ext hE3
    replace hc := hc.ext hE3
    replace hg0 := hg0.ext hE3
    replace hg1 := hg1.ext hE3
    replace hg2 := hg2.ext hE3
    replace ho1 := ho1.ext hE3
    replace ho2 := ho2.ext hE3
    replace hEc := hEc.trans hE3
    refine wl_assign (by decide) rfl ?_
    refine wl_assign (by decide) rfl ?_
    refine wl_assign (by decide) rfl ?_
    have hn0 := ho1.now
    have hn1 := ho2.now
    have hn2 := ho3.now
    have hn3 := hg0.now
    have hn4 := hg1.now
    have hn5 := hg2.now
    have hlo := hEc.size
    refine wl_nil ?_
    refine wk_norm ?_
    refine wc_seq ?_
    refine wc_region ?_
    refine wl_move (by decide) rfl ?_
    refine wl_move (by decide) rfl ?_
    refine wl_move (by decide) rfl ?_
    refine wl_bsliceS (xs := [.tmp 35, .tmp 36, .tmp 37]) (by decide) Try.sl45 rfl rfl (by rfl) (by decide) (SlicesOf.cons ho1 (SlicesOf.cons ho2 (SlicesOf.cons ho3 SlicesOf.nil))) ?_
    rintro g4 w4 hs4 hE4
    replace ha := ha.ext hE4
    replace hb := hb.ext hE4
    replace hc := hc.ext hE4
    replace hg0 := hg0.ext hE4
    replace hg1 := hg1.ext hE4
    replace hg2 := hg2.ext hE4
    replace ho1 := ho1.ext hE4
    replace ho2 := ho2.ext hE4
    replace ho3 := ho3.ext hE4
    replace hn0 := hn0.ext hE4
    replace hn1 := hn1.ext hE4
    replace hn2 := hn2.ext hE4
    replace hn3 := hn3.ext hE4
    replace hn4 := hn4.ext hE4
    replace hn5 := hn5.ext hE4
    replace hEc := hEc.trans hE4
    have hcl := join_ok hs4 (by simp; omega)
    refine wl_call (by decide) Try.cl31 rfl hcl ?_
    clear hcl
    rintro _ w50 ⟨A50, c50, rfl, hq50, hE50⟩
    replace hq50 := hq50.lower hE4.size
    replace ha := ha.ext hE50
    replace hb := hb.ext hE50
    replace hc := hc.ext hE50
    replace hg0 := hg0.ext hE50
    replace hg1 := hg1.ext hE50
    replace hg2 := hg2.ext hE50
    replace ho1 := ho1.ext hE50
    replace ho2 := ho2.ext hE50
    replace ho3 := ho3.ext hE50
    replace hn0 := hn0.ext hE50
    replace hn1 := hn1.ext hE50
    replace hn2 := hn2.ext hE50
    replace hn3 := hn3.ext hE50
    replace hn4 := hn4.ext hE50
    replace hn5 := hn5.ext hE50
    replace hs4 := hs4.ext hE50
    replace hEc := hEc.trans hE50
    refine wl_move (by decide) rfl ?_
    refine wl_move (by decide) rfl ?_
    refine wl_bsliceS (xs := [.tmp 40, .tmp 41]) (by decide) Try.sl45 rfl rfl (by rfl) (by decide) (SlicesOf.cons ho1 (SlicesOf.cons ho3 SlicesOf.nil)) ?_
    rintro g5 w5 hs5 hE5
    replace ha := ha.ext hE5
    replace hb := hb.ext hE5
    replace hc := hc.ext hE5
    replace hg0 := hg0.ext hE5
    replace hg1 := hg1.ext hE5
    replace hg2 := hg2.ext hE5
    replace ho1 := ho1.ext hE5
    replace ho2 := ho2.ext hE5
    replace ho3 := ho3.ext hE5
    replace hn0 := hn0.ext hE5
    replace hn1 := hn1.ext hE5
    replace hn2 := hn2.ext hE5
    replace hn3 := hn3.ext hE5
    replace hn4 := hn4.ext hE5
    replace hn5 := hn5.ext hE5
    replace hs4 := hs4.ext hE5
    replace hq50 := hq50.ext hE5
    replace hEc := hEc.trans hE5
    have hcl := join_ok hs5 (by simp; omega)
    refine wl_call (by decide) Try.cl31 rfl hcl ?_
    clear hcl
    rintro _ w60 ⟨A60, c60, rfl, hq60, hE60⟩
    replace hq60 := hq60.lower (Nat.le_trans hE4.size (Nat.le_trans hE50.size hE5.size))
    replace ha := ha.ext hE60
    replace hb := hb.ext hE60
    replace hc := hc.ext hE60
    replace hg0 := hg0.ext hE60
    replace hg1 := hg1.ext hE60
    replace hg2 := hg2.ext hE60
    replace ho1 := ho1.ext hE60
    replace ho2 := ho2.ext hE60
    replace ho3 := ho3.ext hE60
    replace hn0 := hn0.ext hE60
    replace hn1 := hn1.ext hE60
    replace hn2 := hn2.ext hE60
    replace hn3 := hn3.ext hE60
    replace hn4 := hn4.ext hE60
    replace hn5 := hn5.ext hE60
    replace hs4 := hs4.ext hE60
    replace hq50 := hq50.ext hE60
    replace hs5 := hs5.ext hE60
    replace hEc := hEc.trans hE60
    refine wl_move (by decide) rfl ?_
    refine wl_bsliceS (xs := [.tmp 44]) (by decide) Try.sl45 rfl rfl (by rfl) (by decide) (SlicesOf.cons ho2 SlicesOf.nil) ?_
    rintro g6 w6 hs6 hE6
    replace ha := ha.ext hE6
    replace hb := hb.ext hE6
    replace hc := hc.ext hE6
    replace hg0 := hg0.ext hE6
    replace hg1 := hg1.ext hE6
    replace hg2 := hg2.ext hE6
    replace ho1 := ho1.ext hE6
    replace ho2 := ho2.ext hE6
    replace ho3 := ho3.ext hE6
    replace hn0 := hn0.ext hE6
    replace hn1 := hn1.ext hE6
    replace hn2 := hn2.ext hE6
    replace hn3 := hn3.ext hE6
    replace hn4 := hn4.ext hE6
    replace hn5 := hn5.ext hE6
    replace hs4 := hs4.ext hE6
    replace hq50 := hq50.ext hE6
    replace hs5 := hs5.ext hE6
    replace hq60 := hq60.ext hE6
    replace hEc := hEc.trans hE6
    have hcl := join_ok hs6 (by simp; omega)
    refine wl_call (by decide) Try.cl31 rfl hcl ?_
    clear hcl
    rintro _ w70 ⟨A70, c70, rfl, hq70, hE70⟩
    replace hq70 := hq70.lower (Nat.le_trans hE4.size (Nat.le_trans hE50.size (Nat.le_trans hE5.size (Nat.le_trans hE60.size hE6.size))))
    replace ha := ha.ext hE70
    replace hb := hb.ext hE70
    replace hc := hc.ext hE70
    replace hg0 := hg0.ext hE70
    replace hg1 := hg1.ext hE70
    replace hg2 := hg2.ext hE70
    replace ho1 := ho1.ext hE70
    replace ho2 := ho2.ext hE70
    replace ho3 := ho3.ext hE70
    replace hn0 := hn0.ext hE70
    replace hn1 := hn1.ext hE70
    replace hn2 := hn2.ext hE70
    replace hn3 := hn3.ext hE70
    replace hn4 := hn4.ext hE70
    replace hn5 := hn5.ext hE70
    replace hs4 := hs4.ext hE70
    replace hq50 := hq50.ext hE70
    replace hs5 := hs5.ext hE70
    replace hq60 := hq60.ext hE70
    replace hs6 := hs6.ext hE70
    replace hEc := hEc.trans hE70
    have hcl := join_ok (GS.nil (sliceR byteR) (fun _ => True) w70 none 0) (by simp)
    refine wl_call (by decide) Try.cl31 rfl hcl ?_
    clear hcl
    rintro _ w7 ⟨A7, c7, rfl, ho7, hE7⟩
    replace ho7 := ho7.bs.any
    replace ha := ha.ext hE7
    replace hb := hb.ext hE7
    replace hc := hc.ext hE7
    replace hg0 := hg0.ext hE7
    replace hg1 := hg1.ext hE7
    replace hg2 := hg2.ext hE7
    replace ho1 := ho1.ext hE7
    replace ho2 := ho2.ext hE7
    replace ho3 := ho3.ext hE7
    replace hn0 := hn0.ext hE7
    replace hn1 := hn1.ext hE7
    replace hn2 := hn2.ext hE7
    replace hn3 := hn3.ext hE7
    replace hn4 := hn4.ext hE7
    replace hn5 := hn5.ext hE7
    replace hs4 := hs4.ext hE7
    replace hq50 := hq50.ext hE7
    replace hs5 := hs5.ext hE7
    replace hq60 := hq60.ext hE7
    replace hs6 := hs6.ext hE7
    replace hq70 := hq70.ext hE7
    replace hEc := hEc.trans hE7
    refine wl_assign (by decide) rfl ?_
    refine wl_assign (by decide) rfl ?_
    refine wl_assign (by decide) rfl ?_
    refine wl_assign (by decide) rfl ?_
    refine wl_nil ?_
    refine wk_norm ?_
    refine wc_seq ?_
    refine wc_seq ?_
    refine wc_region ?_
    refine wl_move (by decide) rfl ?_
    refine wl_move (by decide) rfl ?_
    refine wl_move (by decide) rfl ?_
    refine wl_move (by decide) rfl ?_
    refine wl_bsliceS (xs := [.tmp 49, .tmp 50, .tmp 51]) (by decide) Try.sl45 rfl rfl (by rfl) (by decide) (SlicesOf.cons hg0 (SlicesOf.cons hg1 (SlicesOf.cons hg2 SlicesOf.nil))) ?_
    rintro g8 w8 hs8 hE8
    replace ha := ha.ext hE8
    replace hb := hb.ext hE8
    replace hc := hc.ext hE8
    replace hg0 := hg0.ext hE8
    replace hg1 := hg1.ext hE8
    replace hg2 := hg2.ext hE8
    replace ho1 := ho1.ext hE8
    replace ho2 := ho2.ext hE8
    replace ho3 := ho3.ext hE8
    replace hn0 := hn0.ext hE8
    replace hn1 := hn1.ext hE8
    replace hn2 := hn2.ext hE8
    replace hn3 := hn3.ext hE8
    replace hn4 := hn4.ext hE8
    replace hn5 := hn5.ext hE8
    replace hs4 := hs4.ext hE8
    replace hq50 := hq50.ext hE8
    replace hs5 := hs5.ext hE8
    replace hq60 := hq60.ext hE8
    replace hs6 := hs6.ext hE8
    replace hq70 := hq70.ext hE8
    replace ho7 := ho7.ext hE8
    replace hEc := hEc.trans hE8
    have hcl := rjoin_ok hs8 (by simp; omega)
    refine wl_call (by decide) Try.cl32 rfl hcl ?_
    clear hcl
    rintro _ w9 ⟨A9, c9, rfl, ho9, hE9⟩
    replace ho9 := ho9.bs.any
    replace ha := ha.ext hE9
    replace hb := hb.ext hE9
    replace hc := hc.ext hE9
    replace hg0 := hg0.ext hE9
    replace hg1 := hg1.ext hE9
    replace hg2 := hg2.ext hE9
    replace ho1 := ho1.ext hE9
    replace ho2 := ho2.ext hE9
    replace ho3 := ho3.ext hE9
    replace hn0 := hn0.ext hE9
    replace hn1 := hn1.ext hE9
    replace hn2 := hn2.ext hE9
    replace hn3 := hn3.ext hE9
    replace hn4 := hn4.ext hE9
    replace hn5 := hn5.ext hE9
    replace hs4 := hs4.ext hE9
    replace hq50 := hq50.ext hE9
    replace hs5 := hs5.ext hE9
    replace hq60 := hq60.ext hE9
    replace hs6 := hs6.ext hE9
    replace hq70 := hq70.ext hE9
    replace ho7 := ho7.ext hE9
    replace hs8 := hs8.ext hE9
    replace hEc := hEc.trans hE9
    have hcl := eqBytes_ok hq50.bs ho9
    refine wl_call (by decide) Try.cl22 rfl hcl ?_
    clear hcl
    rintro _ w10 ⟨rfl, hE10⟩
    replace ha := ha.ext hE10
    replace hb := hb.ext hE10
    replace hc := hc.ext hE10
    replace hg0 := hg0.ext hE10
    replace hg1 := hg1.ext hE10
    replace hg2 := hg2.ext hE10
    replace ho1 := ho1.ext hE10
    replace ho2 := ho2.ext hE10
    replace ho3 := ho3.ext hE10
    replace hn0 := hn0.ext hE10
    replace hn1 := hn1.ext hE10
    replace hn2 := hn2.ext hE10
    replace hn3 := hn3.ext hE10
    replace hn4 := hn4.ext hE10
    replace hn5 := hn5.ext hE10
    replace hs4 := hs4.ext hE10
    replace hq50 := hq50.ext hE10
    replace hs5 := hs5.ext hE10
    replace hq60 := hq60.ext hE10
    replace hs6 := hs6.ext hE10
    replace hq70 := hq70.ext hE10
    replace ho7 := ho7.ext hE10
    replace hs8 := hs8.ext hE10
    replace ho9 := ho9.ext hE10
    replace hEc := hEc.trans hE10
    refine wl_re (k := 54) (v := .bool true) rfl (congrArg Value.bool (decide_eq_true (by rfl))) ?_
    first | refine wl_notd (by decide) rfl ?_ | refine wl_not (by decide) rfl ?_
    refine wl_move (by decide) rfl ?_
    refine wl_gyes rfl rfl ?_
    refine wl_move (by decide) rfl ?_
    refine wl_gyes rfl rfl ?_
    refine wl_move (by decide) rfl ?_
    refine wl_gyes rfl rfl ?_
    refine wl_move (by decide) rfl ?_
    refine wl_gyes rfl rfl ?_
    refine wl_bsliceS (xs := [.tmp 58, .tmp 59]) (by decide) Try.sl45 rfl rfl (by rfl) (by decide) (SlicesOf.cons hg0 (SlicesOf.cons hg2 SlicesOf.nil)) ?_
    rintro g11 w11 hs11 hE11
    replace ha := ha.ext hE11
    replace hb := hb.ext hE11
    replace hc := hc.ext hE11
    replace hg0 := hg0.ext hE11
    replace hg1 := hg1.ext hE11
    replace hg2 := hg2.ext hE11
    replace ho1 := ho1.ext hE11
    replace ho2 := ho2.ext hE11
    replace ho3 := ho3.ext hE11
    replace hn0 := hn0.ext hE11
    replace hn1 := hn1.ext hE11
    replace hn2 := hn2.ext hE11
    replace hn3 := hn3.ext hE11
    replace hn4 := hn4.ext hE11
    replace hn5 := hn5.ext hE11
    replace hs4 := hs4.ext hE11
    replace hq50 := hq50.ext hE11
    replace hs5 := hs5.ext hE11
    replace hq60 := hq60.ext hE11
    replace hs6 := hs6.ext hE11
    replace hq70 := hq70.ext hE11
    replace ho7 := ho7.ext hE11
    replace hs8 := hs8.ext hE11
    replace ho9 := ho9.ext hE11
    replace hEc := hEc.trans hE11
    refine wl_gyes rfl rfl ?_
    have hcl := rjoin_ok hs11 (by simp; omega)
    refine wl_call (by decide) Try.cl32 rfl hcl ?_
    clear hcl
    rintro _ w12 ⟨A12, c12, rfl, ho12, hE12⟩
    replace ho12 := ho12.bs.any
    replace ha := ha.ext hE12
    replace hb := hb.ext hE12
    replace hc := hc.ext hE12
    replace hg0 := hg0.ext hE12
    replace hg1 := hg1.ext hE12
    replace hg2 := hg2.ext hE12
    replace ho1 := ho1.ext hE12
    replace ho2 := ho2.ext hE12
    replace ho3 := ho3.ext hE12
    replace hn0 := hn0.ext hE12
    replace hn1 := hn1.ext hE12
    replace hn2 := hn2.ext hE12
    replace hn3 := hn3.ext hE12
    replace hn4 := hn4.ext hE12
    replace hn5 := hn5.ext hE12
    replace hs4 := hs4.ext hE12
    replace hq50 := hq50.ext hE12
    replace hs5 := hs5.ext hE12
    replace hq60 := hq60.ext hE12
    replace hs6 := hs6.ext hE12
    replace hq70 := hq70.ext hE12
    replace ho7 := ho7.ext hE12
    replace hs8 := hs8.ext hE12
    replace ho9 := ho9.ext hE12
    replace hs11 := hs11.ext hE12
    replace hEc := hEc.trans hE12
    refine wl_gyes rfl rfl ?_
    have hcl := eqBytes_ok hq60.bs ho12
    refine wl_call (by decide) Try.cl22 rfl hcl ?_
    clear hcl
    rintro _ w13 ⟨rfl, hE13⟩
    replace ha := ha.ext hE13
    replace hb := hb.ext hE13
    replace hc := hc.ext hE13
    replace hg0 := hg0.ext hE13
    replace hg1 := hg1.ext hE13
    replace hg2 := hg2.ext hE13
    replace ho1 := ho1.ext hE13
    replace ho2 := ho2.ext hE13
    replace ho3 := ho3.ext hE13
    replace hn0 := hn0.ext hE13
    replace hn1 := hn1.ext hE13
    replace hn2 := hn2.ext hE13
    replace hn3 := hn3.ext hE13
    replace hn4 := hn4.ext hE13
    replace hn5 := hn5.ext hE13
    replace hs4 := hs4.ext hE13
    replace hq50 := hq50.ext hE13
    replace hs5 := hs5.ext hE13
    replace hq60 := hq60.ext hE13
    replace hs6 := hs6.ext hE13
    replace hq70 := hq70.ext hE13
    replace ho7 := ho7.ext hE13
    replace hs8 := hs8.ext hE13
    replace ho9 := ho9.ext hE13
    replace hs11 := hs11.ext hE13
    replace ho12 := ho12.ext hE13
    replace hEc := hEc.trans hE13
    refine wl_re (k := 62) (v := .bool true) rfl (congrArg Value.bool (decide_eq_true (by rfl))) ?_
    refine wl_gyes rfl rfl ?_
    first | refine wl_notd (by decide) rfl ?_ | refine wl_not (by decide) rfl ?_
    refine wl_pick (by decide) rfl rfl ?_
    refine wl_move (by decide) rfl ?_
    refine wl_gyes rfl rfl ?_
    refine wl_move (by decide) rfl ?_
    refine wl_gyes rfl rfl ?_
    refine wl_move (by decide) rfl ?_
    refine wl_gyes rfl rfl ?_
    have hcl := eqBytes_ok hq70.bs hg1
    refine wl_call (by decide) Try.cl22 rfl hcl ?_
    clear hcl
    rintro _ w14 ⟨rfl, hE14⟩
    replace ha := ha.ext hE14
    replace hb := hb.ext hE14
    replace hc := hc.ext hE14
    replace hg0 := hg0.ext hE14
    replace hg1 := hg1.ext hE14
    replace hg2 := hg2.ext hE14
    replace ho1 := ho1.ext hE14
    replace ho2 := ho2.ext hE14
    replace ho3 := ho3.ext hE14
    replace hn0 := hn0.ext hE14
    replace hn1 := hn1.ext hE14
    replace hn2 := hn2.ext hE14
    replace hn3 := hn3.ext hE14
    replace hn4 := hn4.ext hE14
    replace hn5 := hn5.ext hE14
    replace hs4 := hs4.ext hE14
    replace hq50 := hq50.ext hE14
    replace hs5 := hs5.ext hE14
    replace hq60 := hq60.ext hE14
    replace hs6 := hs6.ext hE14
    replace hq70 := hq70.ext hE14
    replace ho7 := ho7.ext hE14
    replace hs8 := hs8.ext hE14
    replace ho9 := ho9.ext hE14
    replace hs11 := hs11.ext hE14
    replace ho12 := ho12.ext hE14
    replace hEc := hEc.trans hE14
    refine wl_re (k := 68) (v := .bool true) rfl (congrArg Value.bool (decide_eq_true (by simp))) ?_
    refine wl_gyes rfl rfl ?_
    first | refine wl_notd (by decide) rfl ?_ | refine wl_not (by decide) rfl ?_
    refine wl_pick (by decide) rfl rfl ?_
    refine wl_move (by decide) rfl ?_
    refine wl_gyes rfl rfl ?_
    refine wl_move (by decide) rfl ?_
    refine wl_gyes rfl rfl ?_
    refine wl_len (by decide) Try.underlying22 rfl ?_
    refine wl_gyes rfl rfl ?_
    refine wl_neq (by decide) rfl rfl ?_
    refine wl_re (k := 74) (v := .bool false) rfl (congrArg Value.bool (decide_eq_false (by simp))) ?_
    refine wl_pick (by decide) rfl rfl ?_
    refine wl_nil ?_
    refine wk_norm ?_
    refine wc_cond_f rfl ?_
    refine wc_skip ?_
    refine wk_norm ?_
    refine wc_seq ?_
    refine wc_region ?_
    refine wl_move (by decide) rfl ?_
    refine wl_call (by decide) Try.cl23 rfl (spoil2_ok hq50.mx hq50.wr) ?_
    rintro _ w80 ⟨rfl, hS⟩
    replace hn0 := hn0.keep hS.chg (fun b _ h1 h2 => Nat.not_le_of_lt h1 h2)
    replace hn1 := hn1.keep hS.chg (fun b _ h1 h2 => Nat.not_le_of_lt h1 h2)
    replace hn2 := hn2.keep hS.chg (fun b _ h1 h2 => Nat.not_le_of_lt h1 h2)
    replace hn3 := hn3.keep hS.chg (fun b _ h1 h2 => Nat.not_le_of_lt h1 h2)
    replace hn4 := hn4.keep hS.chg (fun b _ h1 h2 => Nat.not_le_of_lt h1 h2)
    replace hn5 := hn5.keep hS.chg (fun b _ h1 h2 => Nat.not_le_of_lt h1 h2)
    replace hEc := hEc.step hS.chg (fun b h1 h2 => absurd (Nat.lt_of_lt_of_le h1 (Nat.le_trans hlo h2)) (Nat.lt_irrefl _))
    have m6 := hq60.mx
    have m7 := hq70.mx
    replace hq60 := hS.wr _ _ hq60.wr
    replace hq70 := hS.wr _ _ hq70.wr
    refine wl_nil ?_
    refine wk_norm ?_
    refine wc_seq ?_
    refine wc_region ?_
    refine wl_move (by decide) rfl ?_
    refine wl_call (by decide) Try.cl23 rfl (spoil2_ok m6 hq60) ?_
    rintro _ w90 ⟨rfl, hS⟩
    replace hn0 := hn0.keep hS.chg (fun b _ h1 h2 => Nat.not_le_of_lt h1 h2)
    replace hn1 := hn1.keep hS.chg (fun b _ h1 h2 => Nat.not_le_of_lt h1 h2)
    replace hn2 := hn2.keep hS.chg (fun b _ h1 h2 => Nat.not_le_of_lt h1 h2)
    replace hn3 := hn3.keep hS.chg (fun b _ h1 h2 => Nat.not_le_of_lt h1 h2)
    replace hn4 := hn4.keep hS.chg (fun b _ h1 h2 => Nat.not_le_of_lt h1 h2)
    replace hn5 := hn5.keep hS.chg (fun b _ h1 h2 => Nat.not_le_of_lt h1 h2)
    replace hEc := hEc.step hS.chg (fun b h1 h2 => absurd (Nat.lt_of_lt_of_le h1 (Nat.le_trans hlo h2)) (Nat.lt_irrefl _))
    replace hq70 := hS.wr _ _ hq70
    refine wl_nil ?_
    refine wk_norm ?_
    refine wc_seq ?_
    refine wc_region ?_
    refine wl_move (by decide) rfl ?_
    refine wl_call (by decide) Try.cl23 rfl (spoil2_ok m7 hq70) ?_
    rintro _ w100 ⟨rfl, hS⟩
    replace hn0 := hn0.keep hS.chg (fun b _ h1 h2 => Nat.not_le_of_lt h1 h2)
    replace hn1 := hn1.keep hS.chg (fun b _ h1 h2 => Nat.not_le_of_lt h1 h2)
    replace hn2 := hn2.keep hS.chg (fun b _ h1 h2 => Nat.not_le_of_lt h1 h2)
    replace hn3 := hn3.keep hS.chg (fun b _ h1 h2 => Nat.not_le_of_lt h1 h2)
    replace hn4 := hn4.keep hS.chg (fun b _ h1 h2 => Nat.not_le_of_lt h1 h2)
    replace hn5 := hn5.keep hS.chg (fun b _ h1 h2 => Nat.not_le_of_lt h1 h2)
    replace hEc := hEc.step hS.chg (fun b h1 h2 => absurd (Nat.lt_of_lt_of_le h1 (Nat.le_trans hlo h2)) (Nat.lt_irrefl _))
    have ho1 := hn0
    have ho2 := hn1
    have ho3 := hn2
    have hg0 := hn3
    have hg1 := hn4
    have hg2 := hn5
    refine wl_nil ?_
    refine wk_norm ?_
    refine wc_seq ?_
    refine wc_region ?_
    refine wl_move (by decide) rfl ?_
    refine wl_move (by decide) rfl ?_
    have hcl := eqBytes_ok ho1 hg0
    refine wl_call (by decide) Try.cl22 rfl hcl ?_
    clear hcl
    rintro _ w15 ⟨rfl, hE15⟩
    replace hn0 := hn0.ext hE15
    replace hn1 := hn1.ext hE15
    replace hn2 := hn2.ext hE15
    replace hn3 := hn3.ext hE15
    replace hn4 := hn4.ext hE15
    replace hn5 := hn5.ext hE15
    replace ho1 := ho1.ext hE15
    replace ho2 := ho2.ext hE15
    replace ho3 := ho3.ext hE15
    replace hg0 := hg0.ext hE15
    replace hg1 := hg1.ext hE15
    replace hg2 := hg2.ext hE15
    replace hEc := hEc.trans hE15
    refine wl_re (k := 84) (v := .bool true) rfl (congrArg Value.bool (decide_eq_true (by rfl))) ?_
    refine wl_move (by decide) rfl ?_
    refine wl_gyes rfl rfl ?_
    refine wl_move (by decide) rfl ?_
    refine wl_gyes rfl rfl ?_
    refine wl_move (by decide) rfl ?_
    refine wl_gyes rfl rfl ?_
    have hcl := eqBytes_ok ho2 hg1
    refine wl_call (by decide) Try.cl22 rfl hcl ?_
    clear hcl
    rintro _ w16 ⟨rfl, hE16⟩
    replace hn0 := hn0.ext hE16
    replace hn1 := hn1.ext hE16
    replace hn2 := hn2.ext hE16
    replace hn3 := hn3.ext hE16
    replace hn4 := hn4.ext hE16
    replace hn5 := hn5.ext hE16
    replace ho1 := ho1.ext hE16
    replace ho2 := ho2.ext hE16
    replace ho3 := ho3.ext hE16
    replace hg0 := hg0.ext hE16
    replace hg1 := hg1.ext hE16
    replace hg2 := hg2.ext hE16
    replace hEc := hEc.trans hE16
    refine wl_re (k := 88) (v := .bool true) rfl (congrArg Value.bool (decide_eq_true (by rfl))) ?_
    refine wl_pick (by decide) rfl rfl ?_
    refine wl_move (by decide) rfl ?_
    refine wl_gyes rfl rfl ?_
    refine wl_move (by decide) rfl ?_
    refine wl_gyes rfl rfl ?_
    refine wl_move (by decide) rfl ?_
    refine wl_gyes rfl rfl ?_
    have hcl := eqBytes_ok ho3 hg2
    refine wl_call (by decide) Try.cl22 rfl hcl ?_
    clear hcl
    rintro _ w17 ⟨rfl, hE17⟩
    replace hn0 := hn0.ext hE17
    replace hn1 := hn1.ext hE17
    replace hn2 := hn2.ext hE17
    replace hn3 := hn3.ext hE17
    replace hn4 := hn4.ext hE17
    replace hn5 := hn5.ext hE17
    replace ho1 := ho1.ext hE17
    replace ho2 := ho2.ext hE17
    replace ho3 := ho3.ext hE17
    replace hg0 := hg0.ext hE17
    replace hg1 := hg1.ext hE17
    replace hg2 := hg2.ext hE17
    replace hEc := hEc.trans hE17
    refine wl_re (k := 93) (v := .bool true) rfl (congrArg Value.bool (decide_eq_true (by rfl))) ?_
    refine wl_pick (by decide) rfl rfl ?_
    refine wl_move (by decide) rfl ?_
    refine wl_gyes rfl rfl ?_
    refine wl_call (by decide) Try.cl24 rfl (works_ok) ?_
    rintro _ w18 ⟨rfl, hE18⟩
    replace hn0 := hn0.ext hE18
    replace hn1 := hn1.ext hE18
    replace hn2 := hn2.ext hE18
    replace hn3 := hn3.ext hE18
    replace hn4 := hn4.ext hE18
    replace hn5 := hn5.ext hE18
    replace ho1 := ho1.ext hE18
    replace ho2 := ho2.ext hE18
    replace ho3 := ho3.ext hE18
    replace hg0 := hg0.ext hE18
    replace hg1 := hg1.ext hE18
    replace hg2 := hg2.ext hE18
    replace hEc := hEc.trans hE18
    refine wl_pick (by decide) rfl rfl ?_
    refine wl_assign (by decide) rfl ?_
    refine wl_nil ?_
    refine wk_norm ?_
    refine wc_ret ?_
    refine wk_post1 (.inl rfl) Try.results6 rfl ?_
    exact ⟨_, rfl, rfl, hEc⟩

theorem binJoins_ok {A B C : Option Addr} {ca cb cc : Nat} {a b c : List UInt8} {S S2 S3 : Nat → Prop} {w : World} (ha : BS S w A ca a) (hb : BS S2 w B cb b) (hc : BS S3 w C cc c) : Ret Try.prog 15 #[.slice A a.length ca, .slice B b.length cb, .slice C c.length cc] w (fun v w' => v = .bool true ∧ Ext w w') := by
  replace ha := ha.any
  replace hb := hb.any
  replace hc := hc.any
  refine ret_of_wk Try.func15 rfl Try.ntmps15 (Nat.le_of_ble_eq_true rfl) ?_
  have hEc : Ext w w := Chg.refl _ _
  refine wc_seq ?_
  refine wc_region ?_
  refine wl_assign (by decide) rfl ?_
  refine wl_nil ?_
  refine wk_norm ?_
  refine wc_seq ?_
  refine wc_seq ?_
  refine wc_region ?_
  refine wl_call (by decide) Try.cl24 rfl (works_ok) ?_
  rintro _ w1 ⟨rfl, hE1⟩
  replace ha := ha.ext hE1
  replace hb := hb.ext hE1
  replace hc := hc.ext hE1
  replace hEc := hEc.trans hE1
  first | refine wl_notd (by decide) rfl ?_ | refine wl_not (by decide) rfl ?_
  refine wl_nil ?_
  refine wk_norm ?_
  refine wc_cond_f rfl ?_
  refine wc_skip ?_
  refine wk_norm ?_
  refine wc_seq ?_
  refine wc_drawL [SP.eq (.slice A a.length ca), SP.eq (.slice A a.length ca), SP.eq (.int .i64 (a.length : Int)), SP.eq (.int .i64 (min (a.length : Int) 1000)), SP.gs byteR (fun _ => True) (a.take (min a.length 1000)), SP.eq (.slice B b.length cb), SP.eq (.slice B b.length cb), SP.eq (.int .i64 (b.length : Int)), SP.eq (.int .i64 (min (b.length : Int) 1000)), SP.gs byteR (fun _ => True) (b.take (min b.length 1000)), SP.eq (.slice C c.length cc), SP.eq (.slice C c.length cc), SP.eq (.int .i64 (c.length : Int)), SP.eq (.int .i64 (min (c.length : Int) 1000)), SP.gs byteR (fun _ => True) (c.take (min c.length 1000)), SP.gs byteR (fun _ => True) (a.take (min a.length 1000)), SP.gs byteR (fun _ => True) (b.take (min b.length 1000)), SP.gs byteR (fun _ => True) (c.take (min c.length 1000))] (by kernel_rfl) (by kernel_rfl) ⟨?_, ?_, ?_, ?_, ?_, ?_, ?_, ?_, ?_, ?_, ?_, ?_, ?_, ?_, ?_, ?_, ?_, ?_, trivial⟩ ?_
  ·
    intro F wF hER hk
    have e0 := hk.init 0 _ rfl (by kernel_rfl)
    refine wl_move (by decide) e0 ?_
    exact wl_nil (qr_some ⟨Chg.refl _ _, rfl⟩)
  ·
    intro F wF hER hk
    have e0 := hk.init 0 _ rfl (by kernel_rfl)
    refine wl_move (by decide) e0 ?_
    exact wl_nil (qr_some ⟨Chg.refl _ _, rfl⟩)
  ·
    intro F wF hER hk
    obtain ⟨u11, e11, h11⟩ := hk.pred 1 (by kernel_rfl) 11 rfl
    obtain rfl := h11
    refine wl_len (by decide) Try.underlying22 e11 ?_
    exact wl_nil (qr_some ⟨Chg.refl _ _, rfl⟩)
  ·
    intro F wF hER hk
    obtain ⟨u12, e12, h12⟩ := hk.pred 2 (by kernel_rfl) 12 rfl
    obtain rfl := h12
    refine wl_min (by decide) e12 rfl ?_
    exact wl_nil (qr_some ⟨Chg.refl _ _, rfl⟩)
  ·
    intro F wF hER hk
    obtain ⟨u10, e10, h10⟩ := hk.pred 0 (by kernel_rfl) 10 rfl
    obtain rfl := h10
    obtain ⟨u13, e13, h13⟩ := hk.pred 3 (by kernel_rfl) 13 rfl
    obtain rfl := h13
    refine wl_to (by decide) Try.sl22 e10 e13 (ha.ext hER) (min a.length 1000) (by omega) (by omega) ?_
    intro hg1
    exact wl_nil (qr_some ⟨Chg.refl _ _, _, _, rfl, hg1⟩)
  ·
    intro F wF hER hk
    have e1 := hk.init 1 _ rfl (by kernel_rfl)
    refine wl_move (by decide) e1 ?_
    exact wl_nil (qr_some ⟨Chg.refl _ _, rfl⟩)
  ·
    intro F wF hER hk
    have e1 := hk.init 1 _ rfl (by kernel_rfl)
    refine wl_move (by decide) e1 ?_
    exact wl_nil (qr_some ⟨Chg.refl _ _, rfl⟩)
  ·
    intro F wF hER hk
    obtain ⟨u16, e16, h16⟩ := hk.pred 6 (by kernel_rfl) 16 rfl
    obtain rfl := h16
    refine wl_len (by decide) Try.underlying22 e16 ?_
    exact wl_nil (qr_some ⟨Chg.refl _ _, rfl⟩)
  ·
    intro F wF hER hk
    obtain ⟨u17, e17, h17⟩ := hk.pred 7 (by kernel_rfl) 17 rfl
    obtain rfl := h17
    refine wl_min (by decide) e17 rfl ?_
    exact wl_nil (qr_some ⟨Chg.refl _ _, rfl⟩)
  ·
    intro F wF hER hk
    obtain ⟨u15, e15, h15⟩ := hk.pred 5 (by kernel_rfl) 15 rfl
    obtain rfl := h15
    obtain ⟨u18, e18, h18⟩ := hk.pred 8 (by kernel_rfl) 18 rfl
    obtain rfl := h18
    refine wl_to (by decide) Try.sl22 e15 e18 (hb.ext hER) (min b.length 1000) (by omega) (by omega) ?_
    intro hg1
    exact wl_nil (qr_some ⟨Chg.refl _ _, _, _, rfl, hg1⟩)
  ·
    intro F wF hER hk
    have e2 := hk.init 2 _ rfl (by kernel_rfl)
    refine wl_move (by decide) e2 ?_
    exact wl_nil (qr_some ⟨Chg.refl _ _, rfl⟩)
  ·
    intro F wF hER hk
    have e2 := hk.init 2 _ rfl (by kernel_rfl)
    refine wl_move (by decide) e2 ?_
    exact wl_nil (qr_some ⟨Chg.refl _ _, rfl⟩)
  ·
    intro F wF hER hk
    obtain ⟨u21, e21, h21⟩ := hk.pred 11 (by kernel_rfl) 21 rfl
    obtain rfl := h21
    refine wl_len (by decide) Try.underlying22 e21 ?_
    exact wl_nil (qr_some ⟨Chg.refl _ _, rfl⟩)
  ·
    intro F wF hER hk
    obtain ⟨u22, e22, h22⟩ := hk.pred 12 (by kernel_rfl) 22 rfl
    obtain rfl := h22
    refine wl_min (by decide) e22 rfl ?_
    exact wl_nil (qr_some ⟨Chg.refl _ _, rfl⟩)
  ·
    intro F wF hER hk
    obtain ⟨u20, e20, h20⟩ := hk.pred 10 (by kernel_rfl) 20 rfl
    obtain rfl := h20
    obtain ⟨u23, e23, h23⟩ := hk.pred 13 (by kernel_rfl) 23 rfl
    obtain rfl := h23
    refine wl_to (by decide) Try.sl22 e20 e23 (hc.ext hER) (min c.length 1000) (by omega) (by omega) ?_
    intro hg1
    exact wl_nil (qr_some ⟨Chg.refl _ _, _, _, rfl, hg1⟩)
  ·
    intro F wF hER hk
    obtain ⟨u14, e14, h14⟩ := hk.pred 4 (by kernel_rfl) 14 rfl
    obtain ⟨A14, c14, rfl, hg14⟩ := h14
    refine wl_assign (by decide) e14 ?_
    exact wl_nil (qr_some ⟨Chg.refl _ _, A14, c14, rfl, hg14⟩)
  ·
    intro F wF hER hk
    obtain ⟨u19, e19, h19⟩ := hk.pred 9 (by kernel_rfl) 19 rfl
    obtain ⟨A19, c19, rfl, hg19⟩ := h19
    refine wl_assign (by decide) e19 ?_
    exact wl_nil (qr_some ⟨Chg.refl _ _, A19, c19, rfl, hg19⟩)
  ·
    intro F wF hER hk
    obtain ⟨u24, e24, h24⟩ := hk.pred 14 (by kernel_rfl) 24 rfl
    obtain ⟨A24, c24, rfl, hg24⟩ := h24
    refine wl_assign (by decide) e24 ?_
    exact wl_nil (qr_some ⟨Chg.refl _ _, A24, c24, rfl, hg24⟩)
  ·
    intro F wD hED hini hdo
    obtain ⟨u0, e0, h0⟩ := hdo 15 0 rfl
    obtain ⟨A0, c0, rfl, hg0⟩ := h0
    obtain ⟨u1, e1, h1⟩ := hdo 16 1 rfl
    obtain ⟨A1, c1, rfl, hg1⟩ := h1
    obtain ⟨u2, e2, h2⟩ := hdo 17 2 rfl
    obtain ⟨A2, c2, rfl, hg2⟩ := h2
    refine wk_drop [(0, _), (1, _), (2, _)] ⟨e0, e1, e2, trivial⟩ ?_
    clear e0 e1 e2 hini hdo
    have hla : (a.take (min a.length 1000)).length ≤ 1000 := by rw [List.length_take]; omega
    generalize a.take (min a.length 1000) = a1 at hg0 hla ⊢
    have hlb : (b.take (min b.length 1000)).length ≤ 1000 := by rw [List.length_take]; omega
    generalize b.take (min b.length 1000) = b1 at hg1 hlb ⊢
    have hlc : (c.take (min c.length 1000)).length ≤ 1000 := by rw [List.length_take]; omega
    generalize c.take (min c.length 1000) = c1 at hg2 hlc ⊢
    replace ha := ha.ext hED
    replace hb := hb.ext hED
    replace hc := hc.ext hED
    replace hEc := hEc.trans hED
    refine wk_norm ?_
    refine wc_seq ?_
    refine wc_region ?_
    refine wl_move (by decide) rfl ?_
    refine wl_move (by decide) rfl ?_
    refine wl_move (by decide) rfl ?_
    refine wl_bsliceS (xs := [.tmp 25, .tmp 26, .tmp 27]) (by decide) Try.sl45 rfl rfl (by rfl) (by decide) (SlicesOf.cons hg0 (SlicesOf.cons hg1 (SlicesOf.cons hg2 SlicesOf.nil))) ?_
    rintro g2 w2 hs2 hE2
    replace ha := ha.ext hE2
    replace hb := hb.ext hE2
    replace hc := hc.ext hE2
    replace hg0 := hg0.ext hE2
    replace hg1 := hg1.ext hE2
    replace hg2 := hg2.ext hE2
    replace hEc := hEc.trans hE2
    have hcl := join_ok hs2 (by simp; omega)
    refine wl_call (by decide) Try.cl31 rfl hcl ?_
    clear hcl
    rintro _ w3 ⟨A3, c3, rfl, ho3, hE3⟩
    replace ho3 := ho3.bs.any
    replace ha := ha.ext hE3
    replace hb := hb.ext hE3
    replace hc := hc.ext hE3
    replace hg0 := hg0.ext hE3
    replace hg1 := hg1.ext hE3
    replace hg2 := hg2.ext hE3
    replace hs2 := hs2.ext hE3
    replace hEc := hEc.trans hE3
    refine wl_assign (by decide) rfl ?_
    refine wl_nil ?_
    refine wk_norm ?_
    refine wc_seq ?_
    refine wc_region ?_
    refine wl_move (by decide) rfl ?_
    refine wl_move (by decide) rfl ?_
    refine wl_move (by decide) rfl ?_
    refine wl_bsliceS (xs := [.tmp 31, .tmp 32]) (by decide) Try.sl45 rfl rfl (by rfl) (by decide) (SlicesOf.cons hg0 (SlicesOf.cons hg1 SlicesOf.nil)) ?_
    rintro g4 w4 hs4 hE4
    replace ha := ha.ext hE4
    replace hb := hb.ext hE4
    replace hc := hc.ext hE4
    replace hg0 := hg0.ext hE4
    replace hg1 := hg1.ext hE4
    replace hg2 := hg2.ext hE4
    replace hs2 := hs2.ext hE4
    replace ho3 := ho3.ext hE4
    replace hEc := hEc.trans hE4
    have hcl := join_ok hs4 (by simp; omega)
    refine wl_call (by decide) Try.cl31 rfl hcl ?_
    clear hcl
    rintro _ w5 ⟨A5, c5, rfl, ho5, hE5⟩
    replace ho5 := ho5.bs.any
    replace ha := ha.ext hE5
    replace hb := hb.ext hE5
    replace hc := hc.ext hE5
    replace hg0 := hg0.ext hE5
    replace hg1 := hg1.ext hE5
    replace hg2 := hg2.ext hE5
    replace hs2 := hs2.ext hE5
    replace ho3 := ho3.ext hE5
    replace hs4 := hs4.ext hE5
    replace hEc := hEc.trans hE5
    refine wl_move (by decide) rfl ?_
    refine wl_bsliceS (xs := [.tmp 34, .tmp 35]) (by decide) Try.sl45 rfl rfl (by rfl) (by decide) (SlicesOf.cons ho5 (SlicesOf.cons hg2 SlicesOf.nil)) ?_
    rintro g6 w6 hs6 hE6
    replace ha := ha.ext hE6
    replace hb := hb.ext hE6
    replace hc := hc.ext hE6
    replace hg0 := hg0.ext hE6
    replace hg1 := hg1.ext hE6
    replace hg2 := hg2.ext hE6
    replace hs2 := hs2.ext hE6
    replace ho3 := ho3.ext hE6
    replace hs4 := hs4.ext hE6
    replace ho5 := ho5.ext hE6
    replace hEc := hEc.trans hE6
    have hcl := join_ok hs6 (by simp; omega)
    refine wl_call (by decide) Try.cl31 rfl hcl ?_
    clear hcl
    rintro _ w7 ⟨A7, c7, rfl, ho7, hE7⟩
    replace ho7 := ho7.bs.any
    replace ha := ha.ext hE7
    replace hb := hb.ext hE7
    replace hc := hc.ext hE7
    replace hg0 := hg0.ext hE7
    replace hg1 := hg1.ext hE7
    replace hg2 := hg2.ext hE7
    replace hs2 := hs2.ext hE7
    replace ho3 := ho3.ext hE7
    replace hs4 := hs4.ext hE7
    replace ho5 := ho5.ext hE7
    replace hs6 := hs6.ext hE7
    replace hEc := hEc.trans hE7
    have hcl := eqBytes_ok ho3 ho7
    refine wl_call (by decide) Try.cl22 rfl hcl ?_
    clear hcl
    rintro _ w8 ⟨rfl, hE8⟩
    replace ha := ha.ext hE8
    replace hb := hb.ext hE8
    replace hc := hc.ext hE8
    replace hg0 := hg0.ext hE8
    replace hg1 := hg1.ext hE8
    replace hg2 := hg2.ext hE8
    replace hs2 := hs2.ext hE8
    replace ho3 := ho3.ext hE8
    replace hs4 := hs4.ext hE8
    replace ho5 := ho5.ext hE8
    replace hs6 := hs6.ext hE8
    replace ho7 := ho7.ext hE8
    replace hEc := hEc.trans hE8
    refine wl_re (k := 38) (v := .bool true) rfl (congrArg Value.bool (decide_eq_true (by simp))) ?_
    refine wl_move (by decide) rfl ?_
    refine wl_gyes rfl rfl ?_
    refine wl_move (by decide) rfl ?_
    refine wl_gyes rfl rfl ?_
    refine wl_move (by decide) rfl ?_
    refine wl_gyes rfl rfl ?_
    refine wl_move (by decide) rfl ?_
    refine wl_gyes rfl rfl ?_
    refine wl_move (by decide) rfl ?_
    refine wl_gyes rfl rfl ?_
    refine wl_bsliceS (xs := [.tmp 42, .tmp 43]) (by decide) Try.sl45 rfl rfl (by rfl) (by decide) (SlicesOf.cons hg1 (SlicesOf.cons hg2 SlicesOf.nil)) ?_
    rintro g9 w9 hs9 hE9
    replace ha := ha.ext hE9
    replace hb := hb.ext hE9
    replace hc := hc.ext hE9
    replace hg0 := hg0.ext hE9
    replace hg1 := hg1.ext hE9
    replace hg2 := hg2.ext hE9
    replace hs2 := hs2.ext hE9
    replace ho3 := ho3.ext hE9
    replace hs4 := hs4.ext hE9
    replace ho5 := ho5.ext hE9
    replace hs6 := hs6.ext hE9
    replace ho7 := ho7.ext hE9
    replace hEc := hEc.trans hE9
    refine wl_gyes rfl rfl ?_
    have hcl := join_ok hs9 (by simp; omega)
    refine wl_call (by decide) Try.cl31 rfl hcl ?_
    clear hcl
    rintro _ w10 ⟨A10, c10, rfl, ho10, hE10⟩
    replace ho10 := ho10.bs.any
    replace ha := ha.ext hE10
    replace hb := hb.ext hE10
    replace hc := hc.ext hE10
    replace hg0 := hg0.ext hE10
    replace hg1 := hg1.ext hE10
    replace hg2 := hg2.ext hE10
    replace hs2 := hs2.ext hE10
    replace ho3 := ho3.ext hE10
    replace hs4 := hs4.ext hE10
    replace ho5 := ho5.ext hE10
    replace hs6 := hs6.ext hE10
    replace ho7 := ho7.ext hE10
    replace hs9 := hs9.ext hE10
    replace hEc := hEc.trans hE10
    refine wl_gyes rfl rfl ?_
    refine wl_bsliceS (xs := [.tmp 41, .tmp 45]) (by decide) Try.sl45 rfl rfl (by rfl) (by decide) (SlicesOf.cons hg0 (SlicesOf.cons ho10 SlicesOf.nil)) ?_
    rintro g11 w11 hs11 hE11
    replace ha := ha.ext hE11
    replace hb := hb.ext hE11
    replace hc := hc.ext hE11
    replace hg0 := hg0.ext hE11
    replace hg1 := hg1.ext hE11
    replace hg2 := hg2.ext hE11
    replace hs2 := hs2.ext hE11
    replace ho3 := ho3.ext hE11
    replace hs4 := hs4.ext hE11
    replace ho5 := ho5.ext hE11
    replace hs6 := hs6.ext hE11
    replace ho7 := ho7.ext hE11
    replace hs9 := hs9.ext hE11
    replace ho10 := ho10.ext hE11
    replace hEc := hEc.trans hE11
    refine wl_gyes rfl rfl ?_
    have hcl := join_ok hs11 (by simp; omega)
    refine wl_call (by decide) Try.cl31 rfl hcl ?_
    clear hcl
    rintro _ w12 ⟨A12, c12, rfl, ho12, hE12⟩
    replace ho12 := ho12.bs.any
    replace ha := ha.ext hE12
    replace hb := hb.ext hE12
    replace hc := hc.ext hE12
    replace hg0 := hg0.ext hE12
    replace hg1 := hg1.ext hE12
    replace hg2 := hg2.ext hE12
    replace hs2 := hs2.ext hE12
    replace ho3 := ho3.ext hE12
    replace hs4 := hs4.ext hE12
    replace ho5 := ho5.ext hE12
    replace hs6 := hs6.ext hE12
    replace ho7 := ho7.ext hE12
    replace hs9 := hs9.ext hE12
    replace ho10 := ho10.ext hE12
    replace hs11 := hs11.ext hE12
    replace hEc := hEc.trans hE12
    refine wl_gyes rfl rfl ?_
    have hcl := eqBytes_ok ho3 ho12
    refine wl_call (by decide) Try.cl22 rfl hcl ?_
    clear hcl
    rintro _ w13 ⟨rfl, hE13⟩
    replace ha := ha.ext hE13
    replace hb := hb.ext hE13
    replace hc := hc.ext hE13
    replace hg0 := hg0.ext hE13
    replace hg1 := hg1.ext hE13
    replace hg2 := hg2.ext hE13
    replace hs2 := hs2.ext hE13
    replace ho3 := ho3.ext hE13
    replace hs4 := hs4.ext hE13
    replace ho5 := ho5.ext hE13
    replace hs6 := hs6.ext hE13
    replace ho7 := ho7.ext hE13
    replace hs9 := hs9.ext hE13
    replace ho10 := ho10.ext hE13
    replace hs11 := hs11.ext hE13
    replace ho12 := ho12.ext hE13
    replace hEc := hEc.trans hE13
    refine wl_re (k := 48) (v := .bool true) rfl (congrArg Value.bool (decide_eq_true (by simp))) ?_
    refine wl_pick (by decide) rfl rfl ?_
    refine wl_move (by decide) rfl ?_
    refine wl_gyes rfl rfl ?_
    refine wl_move (by decide) rfl ?_
    refine wl_gyes rfl rfl ?_
    refine wl_len (by decide) Try.underlying22 rfl ?_
    refine wl_gyes rfl rfl ?_
    refine wl_move (by decide) rfl ?_
    refine wl_gyes rfl rfl ?_
    refine wl_len (by decide) Try.underlying22 rfl ?_
    refine wl_gyes rfl rfl ?_
    refine wl_move (by decide) rfl ?_
    refine wl_gyes rfl rfl ?_
    refine wl_len (by decide) Try.underlying22 rfl ?_
    refine wl_gyes rfl rfl ?_
    refine wl_add (by decide) rfl rfl (w64 (by omega) (by omega)) ?_
    refine wl_gyes rfl rfl ?_
    refine wl_move (by decide) rfl ?_
    refine wl_gyes rfl rfl ?_
    refine wl_len (by decide) Try.underlying22 rfl ?_
    refine wl_gyes rfl rfl ?_
    refine wl_add (by decide) rfl rfl (w64 (by omega) (by omega)) ?_
    refine wl_gyes rfl rfl ?_
    refine wl_eql (by decide) rfl rfl ?_
    refine wl_re (k := 61) (v := .bool true) rfl (congrArg Value.bool (decide_eq_true (by simp; omega))) ?_
    refine wl_pick (by decide) rfl rfl ?_
    refine wl_assign (by decide) rfl ?_
    refine wl_nil ?_
    refine wk_norm ?_
    refine wc_ret ?_
    refine wk_post1 (.inl rfl) Try.results15 rfl ?_
    exact ⟨_, rfl, rfl, hEc⟩

end Go.Proofs.Ytifnbemboednaaa
