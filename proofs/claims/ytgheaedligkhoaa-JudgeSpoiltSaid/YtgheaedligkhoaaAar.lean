/- What each of these functions computes, for every argument that its theorem names; a part of what the proof of JudgeFinds stands on. -/
import Derived.Test.YtgheaedligkhoaaAab
import Derived.Test.YtgheaedligkhoaaAac
import Derived.Test.YtgheaedligkhoaaAad
import Derived.Test.YtgheaedligkhoaaAae
import Derived.Test.YtgheaedligkhoaaAaf
import Derived.Test.YtgheaedligkhoaaAag
import Derived.Test.YtgheaedligkhoaaAah
import Derived.Test.YtgheaedligkhoaaAal
import Derived.Test.YtgheaedligkhoaaAam
namespace Go.Proofs.Ytgheaedligkhoaa
open Go.RowKit Go.Eng Go.Eng _root_.Go.Proofs.Try
set_option maxRecDepth 100000
variable {w0 w : World} {M0 Fz : Nat → Prop} {H : List It} {A : Option Addr} {c : Nat}
theorem porder_ok {A0 A1 : Option Addr} {c0 c1 : Nat} {H : List HOp} {first : List UInt8} {S S2 : Nat → Prop} {w : World} (h : HS S w A0 c0 H) (hf : BS S2 w A1 c1 first) : Ret Try.prog 81 #[.slice A0 H.length c0, .slice A1 first.length c1] w (fun v w' => ∃ A c, v = .tuple #[.slice A (nats (ordS H first).1).length c, .bool (ordS H first).2.1, .int .i64 (ordS H first).2.2] ∧ IS (fun _ => True) w' A c (nats (ordS H first).1) ∧ Ext w w') := by
  refine ret_of_wk Try.func81 rfl Try.ntmps81 (Nat.le_of_ble_eq_true rfl) ?_
  have hp := HP.begin_ w
  replace h := h.now
  replace hf := hf.now
  refine wc_seq ?_
  refine wc_region ?_
  refine wl_hbox (by decide) rfl hp ?_
  rintro gs2 w1 hp1 hE1
  replace h := h.ext hE1
  replace hf := hf.ext hE1
  replace hp := hp1
  refine wl_hbox (by decide) rfl hp ?_
  rintro gs3 w2 hp2 hE2
  replace h := h.ext hE2
  replace hf := hf.ext hE2
  replace hp := hp2
  refine wl_assign (by decide) rfl ?_
  refine wl_assign (by decide) rfl ?_
  refine wl_assign (by decide) rfl ?_
  refine wl_nil ?_
  refine wk_norm ?_
  refine wc_seq ?_
  refine wc_seq ?_
  refine wc_region ?_
  refine wl_hload (i := 1) (by decide) Try.sc107 rfl hp rfl rfl ?_
  have hcl := check_ok h
  refine wl_call (by decide) Try.cl91 rfl hcl ?_
  clear hcl
  rintro _ w3 ⟨rfl, hE3⟩
  replace h := h.ext hE3
  replace hf := hf.ext hE3
  replace hp := hp.ext hE3
  refine wl_assign (by decide) rfl ?_
  refine wl_nil ?_
  refine wk_norm ?_
  refine wc_seq ?_
  refine wc_region ?_
  refine wl_move (by decide) rfl ?_
  refine wl_neq (by decide) rfl rfl ?_
  refine wl_nil ?_
  refine wk_norm ?_
  refine wc_cond rfl (fun hq => ?_) (fun hq => ?_)
  ·
    try replace hq := of_decide_eq_true hq
    refine wc_seq ?_
    refine wc_region ?_
    refine wl_move (by decide) rfl ?_
    refine wl_assign (by decide) rfl ?_
    refine wl_assign (by decide) rfl ?_
    refine wl_assign (by decide) rfl ?_
    refine wl_nil ?_
    refine wk_norm ?_
    refine wc_ret ?_
    refine wk_then_ret ?_
    refine wk_post3 (.inl rfl) Try.results81 rfl rfl rfl ?_
    exact ⟨_, rfl, none, 0, by rw [ordS_bad hq]; rfl, by rw [ordS_bad hq]; exact GS.nil _ _ _ _ _, hp.chg⟩
  ·
    try replace hq := of_decide_eq_false hq
    replace hq : chkH H = 0 := Decidable.not_not.1 hq
    have hl14 := (chkH_zero H).1 hq |>.1
    refine wc_skip ?_
    refine wk_norm ?_
    refine wc_seq ?_
    refine wc_region ?_
    refine wl_hload (i := 1) (by decide) Try.sc107 rfl hp rfl rfl ?_
    have hcl := ahead_ok h hl14
    refine wl_call (by decide) Try.cl92 rfl hcl ?_
    clear hcl
    rintro _ wa ⟨AB, cB, rfl, hbo, hEa⟩
    have hbf : IS _ _ AB cB (befL H) := OwnRow.gs1 hbo
    have hsz4 := hp.chg.size
    obtain ⟨Fz4, hp4, hsub4, hnew4, hup4⟩ := hp.frz hEa
    replace hp := hp4
    replace h := (h.ext hEa).wid hsub4
    replace hf := (hf.ext hEa).wid hsub4
    replace hbf := hbf.frz hnew4
    refine wl_move (by decide) rfl ?_
    refine wl_extract (by decide) rfl rfl ?_
    refine wl_extract (by decide) rfl rfl ?_
    refine wl_halloc (e := 33) (z := .slice none 0 0) (by decide) (by kernel_rfl) hp ?_
    rintro gs8 w5 hp5 hE5
    replace h := h.ext hE5
    replace hf := hf.ext hE5
    replace hbf := hbf.ext hE5
    replace hp := hp5
    refine wl_halloc (e := 3) (z := .int .i64 0) (by decide) (by kernel_rfl) hp ?_
    rintro gs9 w6 hp6 hE6
    replace h := h.ext hE6
    replace hf := hf.ext hE6
    replace hbf := hbf.ext hE6
    replace hp := hp6
    refine wl_hstore (i := 1) rfl rfl hp rfl Try.sz33 (Nat.le_of_ble_eq_true rfl) (List.all_eq_true.1 rfl) ?_
    rintro w7 hp7 hC7
    replace h := h.fz hC7
    replace hf := hf.fz hC7
    replace hbf := hbf.fz hC7
    replace hp := hp7
    refine wl_hstore (i := 0) rfl rfl hp rfl Try.sz3 (Nat.le_of_ble_eq_true rfl) (List.all_eq_true.1 rfl) ?_
    rintro w8 hp8 hC8
    replace h := h.fz hC8
    replace hf := hf.fz hC8
    replace hbf := hbf.fz hC8
    replace hp := hp8
    refine wl_nil ?_
    refine wk_norm ?_
    refine wc_seq ?_
    refine wc_region ?_
    refine wl_hmakeMap (P := Try.prog) (k := 137) (by decide) hp ?_
    rintro gm wm hpm hEm
    replace h := h.ext hEm
    replace hf := hf.ext hEm
    replace hbf := hbf.ext hEm
    replace hp := hpm
    refine wl_halloc (e := 134) (z := .map none) (by decide) (by kernel_rfl) hp ?_
    rintro gs10 w9 hp9 hE9
    replace h := h.ext hE9
    replace hf := hf.ext hE9
    replace hbf := hbf.ext hE9
    replace hp := hp9
    refine wl_hstore (i := 0) rfl rfl hp rfl Try.sz134 (Nat.le_of_ble_eq_true rfl) (List.all_eq_true.1 rfl) ?_
    rintro w10 hp10 hC10
    replace h := h.fz hC10
    replace hf := hf.fz hC10
    replace hbf := hbf.fz hC10
    replace hp := hp10
    refine wl_nil ?_
    refine wk_norm ?_
    refine wc_seq ?_
    refine wc_region ?_
    refine wl_halloc (e := 33) (z := .slice none 0 0) (by decide) (by kernel_rfl) hp ?_
    rintro gs11 w11 hp11 hE11
    replace h := h.ext hE11
    replace hf := hf.ext hE11
    replace hbf := hbf.ext hE11
    replace hp := hp11
    refine wl_nil ?_
    refine wk_norm ?_
    refine wc_seq ?_
    refine wc_region ?_
    refine wl_halloc (e := 135) (z := .nilFunc) (by decide) (by kernel_rfl) hp ?_
    rintro gs12 w12 hp12 hE12
    replace h := h.ext hE12
    replace hf := hf.ext hE12
    replace hbf := hbf.ext hE12
    replace hp := hp12
    refine wl_nil ?_
    refine wk_norm ?_
    refine wc_seq ?_
    refine wc_region ?_
    refine wl_makeFunc (first := []) (cap := [.tmp 9, .tmp 10, .tmp 3, .tmp 2, .tmp 8, .tmp 11, .tmp 12]) (by decide) rfl rfl ?_
    refine wl_hstore (i := 0) rfl rfl hp rfl Try.sz135 (Nat.le_of_ble_eq_true rfl) (List.all_eq_true.1 rfl) ?_
    rintro w13 hp13 hC13
    replace h := h.fz hC13
    replace hf := hf.fz hC13
    replace hbf := hbf.fz hC13
    replace hp := hp13
    replace hp := hp.noRow 3 1
    refine wl_nil ?_
    refine wk_norm ?_
    refine wc_seq ?_
    refine wc_seq ?_
    refine wc_region ?_
    refine wl_hload (i := 1) (by decide) Try.sc135 rfl hp rfl rfl ?_
    refine wl_built (ps := [(0, .const (.int .i64 0)), (1, .const (.int .i64 (-1)))]) (by decide) Try.bld137 rfl rfl ?_
    have hpk : HP w (fun _ => False) _ _ [_, _, _, _, _, _, _, _, _] := hp.pick [2, 0, 4, 5, 3, 7, 8, 6, 1] (by decide) rfl (by
      intro k j hkj
      match k, hkj with
      | 0, h => cases h; exact ⟨rfl, Nat.le_of_ble_eq_true rfl⟩
      | 1, h => cases h; exact ⟨rfl, Nat.le_of_ble_eq_true rfl⟩
      | 2, h => cases h; exact ⟨rfl, Nat.le_of_ble_eq_true rfl⟩
      | 3, h => cases h; exact ⟨rfl, Nat.le_of_ble_eq_true rfl⟩
      | 4, h => cases h; exact ⟨rfl, Nat.le_of_ble_eq_true rfl⟩
      | 5, h => cases h; exact ⟨rfl, Nat.le_of_ble_eq_true rfl⟩
      | 6, h => cases h; exact ⟨rfl, Nat.le_of_ble_eq_true rfl⟩
      | 7, h => cases h; exact ⟨rfl, Nat.le_of_ble_eq_true rfl⟩
      | 8, h => cases h; exact ⟨rfl, Nat.le_of_ble_eq_true rfl⟩
      | k + 9, h => simp at h)
    have hcl := pfind_all (H := H) (first := first) hl14 _ w _ (fun _ => False) _ [] (fun _ => none) [] (-1) A0 A1 AB none c0 c1 cB 0 gs9 gs10 gs3 gs2 gs8 gs11 gs12 gm hpk h hf hbf ⟨by simp, by simp⟩ ⟨by omega, by omega⟩ (by intro key v hk; cases hk) (by intro t ht; simp at ht) (Nat.le_refl _)
    refine wl_callv (f := 93) (first := []) (by decide) Try.cl93 rfl rfl hcl ?_
    clear hcl
    rintro _ we ⟨b, f5, AO5, cO5, Fz5, r5, rfl, hp5, hs5, hC5, hT15, hG5⟩
    replace h := (h.fz hC5).wid hs5
    replace hf := (hf.fz hC5).wid hs5
    replace hbf := (hbf.fz hC5).wid hs5
    replace hp := hp5
    first | refine wl_notd (by decide) rfl ?_ | refine wl_not (by decide) rfl ?_
    refine wl_nil ?_
    refine wk_norm ?_
    refine wc_cond rfl (fun hb => ?_) (fun hb => ?_)
    ·
      try replace hb := of_decide_eq_true hb
      refine wc_seq ?_
      refine wc_region ?_
      refine wl_assign (by decide) rfl ?_
      refine wl_assign (by decide) rfl ?_
      refine wl_assign (by decide) rfl ?_
      refine wl_nil ?_
      refine wk_norm ?_
      refine wc_ret ?_
      refine wk_then_ret ?_
      refine wk_post3 (.inl rfl) Try.results81 rfl rfl rfl ?_
      cases hg : G H first 0 (-1) with
      | none => rw [ordS_none hq hg]; exact ⟨_, rfl, none, 0, rfl, GS.nil _ _ _ _ _, hp.chg⟩
      | some r =>
        rw [show bitsS [] = 0 from rfl, hg] at hG5
        rw [hG5.1] at hb
        simp at hb
    ·
      try replace hb := of_decide_eq_false hb
      refine wc_skip ?_
      refine wk_norm ?_
      refine wc_seq ?_
      refine wc_region ?_
      refine wl_hload (i := 0) (by decide) Try.sc33 rfl hp rfl rfl ?_
      refine wl_assign (by decide) rfl ?_
      refine wl_assign (by decide) rfl ?_
      refine wl_assign (by decide) rfl ?_
      refine wl_nil ?_
      refine wk_norm ?_
      refine wc_ret ?_
      refine wk_post3 (.inl rfl) Try.results81 rfl rfl rfl ?_
      cases hg : G H first 0 (-1) with
      | none =>
        rw [show bitsS [] = 0 from rfl, hg] at hG5
        rw [hG5.1] at hb
        simp at hb
      | some r =>
        rw [show bitsS [] = 0 from rfl, hg] at hG5
        rw [ordS_some hq hg]
        have hqr : r5 = r := by rw [hG5.2]; rfl
        subst hqr
        have hro := hp.rowAt (i := 1) rfl
        have hgs : IS (fun _ => True) _ AO5 cO5 (nats r5) := (OwnRow.gs1 (enc := fun z : Int => .int .i64 z) (by rw [nats_len]; exact hro)).any
        exact ⟨_, rfl, AO5, cO5, by rw [nats_len], hgs, hp.chg⟩
set_option maxHeartbeats 40000000 in
theorem end_ok {pk : Addr} {csk : List Value} {k : Lok} {Sk Pk : Nat → Prop} {i : Nat} {m : Nat} (hatk : AtF Pk w pk csk) (hk : lokR.rd Sk w csk k)(hi : i < m) (hm : m < k.l.length) : Ret prog 96 #[.pointer (some pk), .int .i64 (i : Int), .int .i64 (m : Int)] w (fun v w' => v = .int .i64 (match endS k.l (k.l.getD i evt0).a (i + 1) (m - i) with | some n => (n : Int) | none => -1) ∧ Ext w w') := by
 obtain ⟨hIk, Ak0, ck0, rfl, hk0⟩ := hk
 have mhk0:=hk0.mx
 refine ret_of_wk func96 rfl ntmps96 leB_ ?_
 refine so ?_
 refine Lp [0, 1, 2, 7] (fun L' w' mes => ∃ (j : Nat), L' = [(0, .pointer (some pk)), (1, iv (i : Int)), (2, iv (m : Int)), (7, iv (j : Int))] ∧ (i + 1 ≤ j ∧ j ≤ m + 1) ∧ (endS k.l (k.l.getD i evt0).a (i + 1) (m - i) = endS k.l (k.l.getD i evt0).a j (m + 1 - j)) ∧ Ext w w' ∧ m + 1 - j = mes) (m + 1 - (i + 1)) (by
     refine ⟨(i + 1), rfl, ?_, ?_, me, rfl⟩
     omega
     rw [Nat.add_sub_add_right]) ?_
 rintro _ wr _ ⟨j, rfl, hj, hen, hEq0, rfl⟩ KL1 hKL1
 refine so ?_
 refine Cd ?_ ?_<;>intro hc1<;>refine so ?_
 by_cases hs2 : (k.l.getD j evt0).kind = 2
 obtain ⟨aw5, pw5_0, qw5_0, pw5_1, qw5_1, pw5_2, qw5_2, pw5_3, qw5_3, hAw5, hatw5, hIw5, hw5_0, hw5_1, hw5_2, hw5_3⟩ := evtR_el (hk0.to (w' := wr)) j (by omega)
 obtain ⟨aw23, pw23_0, qw23_0, pw23_1, qw23_1, pw23_2, qw23_2, pw23_3, qw23_3, hAw23, hatw23, hIw23, hw23_0, hw23_1, hw23_2, hw23_3⟩ := evtR_el (hk0.to (w' := wr)) i (by omega)
 cases Option.some.inj (hAw5.symm.trans hAw23)
 refine wdE 28 (fun wD hED => pl) fun wD hED => so ?_
 refine Cd ?_ ?_<;>intro hc3<;>refine so ?_
 refine Pt ?_
 exact ⟨_, rfl, by rw [hen]; first | (rw [show m + 1 - j = (m + 1 - (j + 1)) + 1 by omega, endS, if_pos (by simp_all)]) | (rw [show m + 1 - j = 0 by omega]; rfl), me⟩
 refine Kl [0, 1, 2, 7] hKL1 (m + 1 - (j + 1)) ⟨(j + 1), rfl, by omega, ?_, me, rfl⟩ (by omega)
 rw [hen, show m + 1 - j = (m + 1 - (j + 1)) + 1 by omega, endS, if_neg (by simp_all)]
 obtain ⟨aw5, pw5_0, qw5_0, pw5_1, qw5_1, pw5_2, qw5_2, pw5_3, qw5_3, hAw5, hatw5, hIw5, hw5_0, hw5_1, hw5_2, hw5_3⟩ := evtR_el (hk0.to (w' := wr)) j (by omega)
 refine wdE 28 (fun wD hED => pl) fun wD hED => so ?_
 refine aF (so ?_)
 refine Kl [0, 1, 2, 7] hKL1 (m + 1 - (j + 1)) ⟨(j + 1), rfl, by omega, ?_, me, rfl⟩ (by omega)
 rw [hen, show m + 1 - j = (m + 1 - (j + 1)) + 1 by omega, endS, if_neg (by simp_all)]
 refine Pt ?_
 exact ⟨_, rfl, by rw [hen]; first | (rw [show m + 1 - j = (m + 1 - (j + 1)) + 1 by omega, endS, if_pos (by simp_all)]) | (rw [show m + 1 - j = 0 by omega]; rfl), me⟩
end Go.Proofs.Ytgheaedligkhoaa
namespace Go.Proofs.Ytgheaedligkhoaa
open Go.RowKit Go.Eng _root_.Go.Proofs.Try Go.Eng _root_.Go.Proofs.Try
set_option maxRecDepth 100000
variable {w0 w : World} {M0 Fz : Nat → Prop} {H : List It} {A : Option Addr} {c : Nat}
set_option maxHeartbeats 8000000 in
theorem forged_ok {pk : Addr} {csk cso : List Value} {k : Lok} {o : Wsh} {Sk Pk So : Nat → Prop} {i : Nat} {w : World} (hatk : AtF Pk w pk csk) (hk : lokR.rd Sk w csk k) (ho : wishR.rd So w cso o) (hi : i < k.l.length) (hl : k.l.length ≤ 32768) : Ret prog 97 #[.pointer (some pk), iv i, .agg cso.toArray] w (fun v w' => ∃ A c, v = .slice A (forgS k.p o (k.l.take i)).2.length c ∧ OutR opR (fun b => Sk b ∨ w.heap.size ≤ b) 139 w.heap.size w' A c (forgS k.p o (k.l.take i)).2 ∧ Ext w w') := by
 have hk0 := rdTn (F := fun b => b < w.heap.size) (w' := w) hk
 obtain ⟨p, l⟩ := k
 obtain ⟨hIk, Ak, ck, rfl, hl0⟩ := hk
 obtain ⟨hIo, O0, o0, O1, o1, rfl, z0, z1⟩ := ho
 dsimp only at hi hl hl0 hatk ⊢
 refine ret_of_wk func97 rfl ntmps97 leB_ ?_
 have hp := HP.begin_ w
 have hl8 : GS evtR (fun b => Sk b ∧ b < w.heap.size) w Ak ck l := hl0.mono (fun b hb h => ⟨h, hb⟩)
 have hsS : ∀ b, (fun b => Sk b ∧ b < w.heap.size) b → Sk b ∧ b < w.heap.size := fun _ h => h
 have hsub : ∀ b, (fun b => Sk b ∧ b < w.heap.size) b → (fun b => b < w.heap.size) b := fun _ h => h.2
 have hat := hatk.now
 replace z0 := z0.now
 replace z1 := z1.now
 generalize hF0 : (fun b => b < w.heap.size) = F0 at hp hsub hat hk0 z0 z1
 generalize hF8 : (fun b => Sk b ∧ b < w.heap.size) = F8 at hl8 hsub hsS
 refine so ?_
 refine Bx hp (h := fun g5 w1 hp E1 => so ?_)
 replace hp := ((hp.noRow 139 4).noRow 42 10).as_ (H' := itR 42 10 none 0 0 [] :: itR 139 4 none 0 0 [] :: itB g5 42 (wsC o O0 o0 O1 o1) :: []) rfl
 refine Lp [0, 1, 5, 7, 8, 9] (fun L' w' mes => ∃ (j : Nat) (A7 : Option Addr) (c7 : Nat) (A8 : Option Addr) (c8 : Nat) (rows7 rows8 : List (List Value)), L' = [(0, .pointer (some pk)), (1, iv i), (5, pt g5 0), (7, .slice A7 (forgS p o (l.take j)).1.length c7), (8, .slice A8 (forgS p o (l.take j)).2.length c8), (9, iv (j : Int))] ∧ j ≤ i ∧ HP w (fun _ => False) F0 w' (itR 42 10 A7 (forgS p o (l.take j)).1.length c7 rows7.flatten :: itR 139 4 A8 (forgS p o (l.take j)).2.length c8 rows8.flatten :: itB g5 42 (wsC o O0 o0 O1 o1) :: []) ∧ RF wishR F0 w' rows7 (forgS p o (l.take j)).1 ∧ RF opR F8 w' rows8 (forgS p o (l.take j)).2 ∧ Frz F0 F0 w w' ∧ mes = i - j) (i - 0) ⟨0, none, 0, none, 0, [], [], rfl, Nat.zero_le _, hp, RF.nil _ _ _, RF.nil _ _ _, mv, rfl⟩ ?_
 clear hp
 rintro _ wr _ ⟨j, A7, c7, A8, c8, rows7, rows8, rfl, hj, hp, hR7, hR8, hF, rfl⟩ KL hKL
 refine so ?_
 refine Cd ?_ ?_ <;> intro hc
 ·have hj9 : j < l.length := by omega
  have hstep := forgS_st p o hj9
  have hlen := forgS_len p o (l.take j)
  rw [List.length_take] at hlen
  obtain ⟨ae, A0, c0, A1, c1, A2, c2, A3, c3, hAe, hate8, hIe, x08, x18, _, _⟩ := evtR_el hl8 j hj9
  have hate := hate8.wid hsub
  have x0 := x08.wid hsub
  have x1 := x18.wid hsub
  have hAA : Ak = some ae := hAe
  generalize hxe : l.getD j evt0 = x at hstep hate hIe x0 x1 x08
  clear hate8 x18
  generalize hcur : forgS p o (l.take j) = s at *
  have s8 : AtF F0 w ((ae.add (j * 53)).add 39) (wsC x.wish A0 c0 A1 c1) := hate.sub 39 10
  refine so ?_
  refine Alo hp (h := fun g9 w1 hp E1 => so ?_)
  refine Hs 0 hp (h := fun w2 hp C2 => ?_)
  replace hp := hp.as_ (H' := itB g9 42 (wsC x.wish A0 c0 A1 c1) :: itR 42 10 A7 s.1.length c7 rows7.flatten :: itR 139 4 A8 s.2.length c8 rows8.flatten :: itB g5 42 (wsC o O0 o0 O1 o1) :: []) rfl
  have f2 : Frz F0 F0 wr w2 := mv
  refine sl ?_
  have hxw : wishR.rd F0 w2 (wsC x.wish A0 c0 A1 c1) x.wish := ⟨hIe.wish, A0, c0, A1, c1, rfl, x0.to (Frz.bF f2 hF), x1.to (Frz.bF f2 hF)⟩
  have how : wishR.rd F0 w2 (wsC o O0 o0 O1 o1) o := ⟨hIo, O0, o0, O1, o1, rfl, z0.to (Frz.bF f2 hF), z1.to (Frz.bF f2 hF)⟩
  have nxt : ∀ w', HP w (fun _ => False) F0 w' (itB g9 42 (wsC x.wish A0 c0 A1 c1) :: itR 42 10 A7 s.1.length c7 rows7.flatten :: itR 139 4 A8 s.2.length c8 rows8.flatten :: itB g5 42 (wsC o O0 o0 O1 o1) :: []) → Frz F0 F0 wr w' → ¬ ((x.kind = 3 ∧ x.wish.kind = 2 ∧ oursW x.wish o ∧ badP p x.wish.client) ∧ ∀ y ∈ s.1, y.client ≠ x.wish.client ∨ y.stamp ≠ x.wish.stamp) → WK 92 KL [(0, .pointer (some pk)), (1, iv i), (5, pt g5 0), (7, .slice A7 s.1.length c7), (8, .slice A8 s.2.length c8), (9, iv ((j : Int) + 1))] w' := fun w' hp hz hn => by
   have e1 : forgF p o s x = s := if_neg hn
   refine Kl [0, 1, 5, 7, 8, 9] hKL (i - (j + 1)) ⟨j + 1, A7, c7, A8, c8, rows7, rows8, ?_⟩ (by omega)
   rw [hstep, e1]
   exact ⟨rfl, by omega, hp.tail, hR7.to hz, hR8.to (hz.nar hsub), Frz.bF hz hF, rfl⟩
  refine so ?_
  refine Gs 35 ?_ ?_ <;> intro k1 <;> refine so ?_
  ·refine aT (so ?_)
   exact wk_drop _ (pk_sub (is := [0, 1, 5, 7, 8, 9]) rfl) (nxt _ hp f2 (fun h => k1 h.1.1))
  refine Gs 40 ?_ ?_ <;> intro k2 <;> refine so ?_
  ·refine aT (so ?_)
   exact wk_drop _ (pk_sub (is := [0, 1, 5, 7, 8, 9]) rfl) (nxt _ hp f2 (fun h => k2 h.1.2.1))
  refine Cx hp (rours_ok hxw how) (h := fun w4 hp E4 => so ?_)
  refine Gs 46 ?_ ?_ <;> intro k3 <;> refine so ?_
  ·refine aT (so ?_)
   exact wk_drop _ (pk_sub (is := [0, 1, 5, 7, 8, 9]) rfl) (nxt _ hp (Frz.bE E4 f2) (fun h => k3 h.1.2.2.1))
  have f4 : Frz F0 F0 wr w4 := Frz.bE E4 f2
  refine Cs (rbad_ok (hat.to (Frz.bF f4 hF)) (rdTo hk0 (Frz.bF f4 hF))) ?_
  refine so ?_
  refine Cd ?_ ?_ <;> intro k4
  ·refine so ?_
   exact wk_drop _ (pk_sub (is := [0, 1, 5, 7, 8, 9]) rfl) (nxt _ hp f4 (fun h => k4 h.1.2.2.2))
  have kk : x.kind = 3 ∧ x.wish.kind = 2 ∧ oursW x.wish o ∧ badP p x.wish.client := ⟨Decidable.not_not.1 k1, Decidable.not_not.1 k2, Decidable.not_not.1 k3, Decidable.not_not.1 k4⟩
  have hrow7 := hp.rowAt (i := 1) rfl
  have hg7 : GS wishR (fun _ => True) w4 A7 c7 s.1 := OwnRow.gsRF (r := wishR) hrow7 ((hR7.to f4).wid (fun _ _ => trivial)) (fun _ _ _ => trivial)
  clear hrow7
  have hal : ∀ m, m < s.1.length → (s.1.take (m + 1)).all (fun y => decide (y.client ≠ x.wish.client ∨ y.stamp ≠ x.wish.stamp)) = ((s.1.take m).all (fun y => decide (y.client ≠ x.wish.client ∨ y.stamp ≠ x.wish.stamp)) && decide ((s.1.getD m wish0).client ≠ x.wish.client ∨ (s.1.getD m wish0).stamp ≠ x.wish.stamp)) := fun m hm => by
   rw [take_snoc wish0 hm, List.all_append]
   simp
  refine sl ?_
  refine wc_seq ?_
  refine wc_region ?_
  refine sl ?_
  refine wc_seq_cut (fun L' w' => L' = [(0, .pointer (some pk)), (1, iv i), (5, pt g5 0), (7, .slice A7 s.1.length c7), (8, .slice A8 s.2.length c8), (9, iv (j : Int)), (10, pt g9 0), (11, .bool (s.1.all (fun y => decide (y.client ≠ x.wish.client ∨ y.stamp ≠ x.wish.stamp))))] ∧ Ext w4 w') ?_ ?_
  ·intro K hK
   refine so ?_
   refine Lp [0, 1, 5, 7, 8, 9, 10, 11, 12] (fun L' w' mes => ∃ m : Nat, L' = [(0, .pointer (some pk)), (1, iv i), (5, pt g5 0), (7, .slice A7 s.1.length c7), (8, .slice A8 s.2.length c8), (9, iv (j : Int)), (10, pt g9 0), (11, .bool ((s.1.take m).all (fun y => decide (y.client ≠ x.wish.client ∨ y.stamp ≠ x.wish.stamp)))), (12, iv (m : Int))] ∧ m ≤ s.1.length ∧ Ext w4 w' ∧ mes = s.1.length - m) (s.1.length - 0) ⟨0, rfl, Nat.zero_le _, Chg.refl _ _, rfl⟩ ?_
   rintro _ wq _ ⟨m, rfl, hm, Eq_, rfl⟩ KM hKM
   replace hp := hp.ext Eq_
   refine so ?_
   refine Cd ?_ ?_ <;> intro hc2
   ·have hm9 : m < s.1.length := by omega
    obtain ⟨ay, Y0, d0, Y1, d1, hAy, haty, hIy, _, _⟩ := wishR_el (hg7.ext Eq_) m hm9
    have ham := hal m hm9
    generalize hye : s.1.getD m wish0 = y at haty hIy ham
    cases hb : (s.1.take m).all (fun y => decide (y.client ≠ x.wish.client ∨ y.stamp ≠ x.wish.stamp))
    ·rw [hb] at ham
     refine so ?_
     refine wP 21 hp (h := fun w6 hp E6 => ?_)
     refine so ?_
     refine wk_re (k := 11) (v := .bool ((s.1.take (m + 1)).all (fun y => decide (y.client ≠ x.wish.client ∨ y.stamp ≠ x.wish.stamp)))) rfl (by rw [ham]; rfl) ?_
     exact Kl [0, 1, 5, 7, 8, 9, 10, 11, 12] hKM (s.1.length - (m + 1)) ⟨m + 1, rfl, by omega, Eq_.trans E6, rfl⟩ (by omega)
    ·rw [hb] at ham
     refine so ?_
     by_cases q1 : y.client ≠ x.wish.client
     ·refine wP 21 hp (H1 := fun wD hp hED => by refine pm ?_; exact .op rfl (aGy rfl rfl rfl (aPt (by decide) rfl bt0 rfl (wl_nil qp))) pl) (h := fun w6 hp E6 => ?_)
      refine so ?_
      refine wk_re (k := 11) (v := .bool ((s.1.take (m + 1)).all (fun y => decide (y.client ≠ x.wish.client ∨ y.stamp ≠ x.wish.stamp)))) rfl (by rw [ham, decide_eq_true (show y.client ≠ x.wish.client ∨ y.stamp ≠ x.wish.stamp from .inl q1)]; rfl) ?_
      exact Kl [0, 1, 5, 7, 8, 9, 10, 11, 12] hKM (s.1.length - (m + 1)) ⟨m + 1, rfl, by omega, Eq_.trans E6, rfl⟩ (by omega)
     ·refine wP 21 hp (H1 := fun wD hp hED => by refine pm ?_; exact .op rfl (aGy rfl rfl rfl (aPf (by decide) rfl bf0 rfl (wl_nil qp))) pl) (h := fun w6 hp E6 => ?_)
      refine so ?_
      refine wk_re (k := 11) (v := .bool ((s.1.take (m + 1)).all (fun y => decide (y.client ≠ x.wish.client ∨ y.stamp ≠ x.wish.stamp)))) rfl (by rw [ham, Bool.true_and]; exact congrArg Value.bool (decide_eq_decide.2 ⟨fun h => .inr h, fun h => h.resolve_left q1⟩)) ?_
      exact Kl [0, 1, 5, 7, 8, 9, 10, 11, 12] hKM (s.1.length - (m + 1)) ⟨m + 1, rfl, by omega, Eq_.trans E6, rfl⟩ (by omega)
   ·have hml : m = s.1.length := by omega
    subst hml
    refine so ?_
    rw [List.take_length]
    exact Kd [0, 1, 5, 7, 8, 9, 10, 11] hK ⟨rfl, Eq_⟩
  rintro _ w5 ⟨rfl, E5⟩
  replace hp := hp.ext E5
  have f5 : Frz F0 F0 wr w5 := Frz.bE E5 f4
  refine so ?_
  refine Cd ?_ ?_ <;> intro hall <;> refine so ?_
  ·have hall2 : ∀ y ∈ s.1, y.client ≠ x.wish.client ∨ y.stamp ≠ x.wish.stamp := fun y hy => of_decide_eq_true (List.all_eq_true.1 hall y hy)
   have e1 : forgF p o s x = (s.1 ++ [x.wish], s.2 ++ [⟨true, x.wish.data, 1, 0⟩]) := if_pos ⟨kk, hall2⟩
   refine wl_oneOf (by decide) sl150 rfl rfl rfl leB_ ?_
   rintro _ w6 hOn E6
   obtain ⟨gu, rfl, hat9⟩ := hOn
   replace hp := hp.ext E6
   refine wl_happend (i := 1) (m := 1) (size := 10) (news := wsC x.wish A0 c0 A1 c1) (by decide) sl150 rfl rfl hp rfl rfl (fun b hb => by cases hb; exact hat9) (by simp) (wishR.one hxw) (by omega) ?_
   rintro A9 c9 w7 hp C7
   replace hp := hp.as_ (H' := itB g9 42 (wsC x.wish A0 c0 A1 c1) :: itR 42 10 A9 (s.1.length + 1) c9 (rows7.flatten ++ wsC x.wish A0 c0 A1 c1) :: itR 139 4 A8 s.2.length c8 rows8.flatten :: itB g5 42 (wsC o O0 o0 O1 o1) :: []) rfl
   refine so ?_
   refine wl_builtS (ps := [(0, .const (.bool true)), (1, .tmp 87), (2, .const (.int .i64 1))]) (by decide) bld139 rfl rfl (so ?_)
   refine wl_oneOf (by decide) sl129 rfl rfl rfl leB_ ?_
   rintro _ w8 hOn E8
   obtain ⟨gv, rfl, hat8⟩ := hOn
   replace hp := hp.ext E8
   refine wl_happend (i := 2) (m := 1) (size := 4) (news := [.bool true, .slice A0 x.wish.data.length c0, iv 1, iv 0]) (by decide) sl129 rfl rfl hp rfl rfl (fun b hb => by cases hb; exact hat8) (by simp) (List.all_eq_true.1 rfl) (by omega) ?_
   rintro A10 c10 w9 hp C9
   replace hp := hp.as_ (H' := itB g9 42 (wsC x.wish A0 c0 A1 c1) :: itR 42 10 A9 (s.1.length + 1) c9 (rows7.flatten ++ wsC x.wish A0 c0 A1 c1) :: itR 139 4 A10 (s.2.length + 1) c10 (rows8.flatten ++ [.bool true, .slice A0 x.wish.data.length c0, iv 1, iv 0]) :: itB g5 42 (wsC o O0 o0 O1 o1) :: []) rfl
   have f9 : Frz F0 F0 w5 w9 := mv
   have f9r : Frz F0 F0 wr w9 := Frz.bF f9 f5
   have f9w : Frz F0 F0 w w9 := Frz.bF f9r hF
   refine so ?_
   refine wk_re (k := 7) (v := .slice A9 (s.1 ++ [x.wish]).length c9) rfl (by rw [List.length_append]; rfl) ?_
   refine wk_re (k := 8) (v := .slice A10 (s.2 ++ [(⟨true, x.wish.data, 1, 0⟩ : HOp)]).length c10) rfl (by rw [List.length_append]; rfl) ?_
   refine Kl [0, 1, 5, 7, 8, 9] hKL (i - (j + 1)) ⟨j + 1, A9, c9, A10, c10, rows7 ++ [wsC x.wish A0 c0 A1 c1], rows8 ++ [[.bool true, .slice A0 x.wish.data.length c0, iv 1, iv 0]], ?_⟩ (by omega)
   rw [hstep, e1]
   refine ⟨rfl, by omega, ?_, (hR7.to f9r).append (RF.one (r := wishR) (wishR.mono (fun b _ hb => hb) (rdTo (F := F0) (w' := w9) hxw (by exact Frz.bF f9 (by exact mv))))), (hR8.to (f9r.nar hsub)).append (RF.one (r := opR) ⟨A0, c0, rfl, x08.to (f9w.nar hsub)⟩), f9w, rfl⟩
   rw [flat_snoc, flat_snoc, List.length_append, List.length_append]
   exact hp.tail
  ·exact wk_drop _ (pk_sub (is := [0, 1, 5, 7, 8, 9]) rfl) (nxt _ hp f5 (fun h => by
    have e2 : s.1.all (fun y => decide (y.client ≠ x.wish.client ∨ y.stamp ≠ x.wish.stamp)) = true := List.all_eq_true.2 (fun y hy => decide_eq_true (h.2 y hy))
    rw [hall] at e2
    cases e2))
 ·have hji : j = i := by omega
  subst hji
  refine so ?_
  refine Pt ⟨_, rfl, A8, c8, rfl, ⟨rows8, hp.rowLo (i := 1) rfl, hR8.1, fun m hm => (hR8.2 m hm).imp (fun cs h => ⟨h.1, opR.mono (fun b _ h8 => ⟨.inl (hsS b h8).1, fun hc hb => ?_⟩) h.2⟩)⟩, hp.chg⟩
  have h1 := ((hp.rowLo (i := 1) rfl).lt hc b hb).1
  have h2 := (hsS b h8).2
  omega
def stJ (v : JVal) (e : Evt) : Nat → JVal
 | 0 => v
 | 1 => v
 | 2 => u2 v e
 | 3 => u2 v e
 | 4 => u4 (u2 v e) e
 | 5 => u5 (u4 (u2 v e) e) e
 | 6 => u6 (u5 (u4 (u2 v e) e) e) e
 | 7 => u7 (u6 (u5 (u4 (u2 v e) e) e) e) e
 | 8 => u8 (u7 (u6 (u5 (u4 (u2 v e) e) e) e) e) e
 | _ => u9 (u8 (u7 (u6 (u5 (u4 (u2 v e) e) e) e) e) e) e
theorem u8_oth (v : JVal) (e : Evt) : (u8 v e).jobs = v.jobs ∧ (u8 v e).frst = v.frst ∧ (u8 v e).bat = v.bat ∧ (u8 v e).mrk = v.mrk ∧ (u8 v e).down = v.down ∧ (u8 v e).sld = v.sld ∧ (u8 v e).time = v.time := by unfold u8; split <;> exact ⟨rfl, rfl, rfl, rfl, rfl, rfl, rfl⟩
theorem JA.jb {w0 : World} {M0 Fz : Nat → Prop} {w : World} {H : List It} {q : JMem} {p : Pln} {ln : Nat} {here : Int} {b : Prop} {inst : Decidable b} {n : Int} {v2 : JVal} {x : Value} {w2 : World} (h : JA w0 M0 Fz w H q p ln here b n v2 x w2) (hn : n ≠ 0) : JB w0 M0 Fz w H q p ln here (if b then n else 0) v2 x w2 := by
 obtain ⟨F2, h1, ⟨h2, h3, h4⟩ | ⟨h2, h3, h4⟩⟩ := h
 ·exact ⟨F2, h1, by rw [if_pos h2]; exact h3, .inl ⟨by rw [if_pos h2]; exact hn, h4⟩⟩
 ·exact ⟨F2, h1, by rw [if_neg h2]; exact h3, .inr ⟨by rw [if_neg h2], h4⟩⟩
def opK (l : List Evt) (o : Wsh) (k j : Nat) : Option HOp := if ourC l o j then some (opU l k j) else none
theorem ldata_ok {w : World} {b : UInt8} : Ret prog 18 #[bv b] w (fun v w' => ∃ A c, v = .slice A (dat b).length c ∧ GS byteR (fun b => w.heap.size ≤ b) w' A c (dat b) ∧ Ext w w') := by
 refine ret_of_wk func18 rfl ntmps18 leB_ ?_
 have hp := HP.begin_ w
 generalize hF0 : (fun b => b < w.heap.size) = F0 at hp
 refine so ?_
 refine wl_make (k := 16) (z := .int .u8 0) (by decide) sl40 (by kernel_rfl) rfl rfl (by omega) 0 (Nat.zero_le _) ?_
 rintro g5 w5 hg5 hrow E5
 replace hp := hp.add E5 (x := itR 5 1 (some ⟨g5, 0, none⟩) 16 16 (List.replicate 16 (bv 0))) (K := fun b => (16 : Nat) ≠ 0 ∧ blk (some ⟨g5, 0, none⟩) b) ⟨hrow, fun _ => Iff.rfl⟩ (fun b hb => by
  obtain ⟨_, a, ha, rfl⟩ := hb
  cases ha
  rw [hg5]
  exact Nat.le_refl _)
 refine so ?_
 refine Lp [0, 3, 4] (fun L' w' mes => ∃ j : Nat, L' = [(0, bv b), (3, .slice (some ⟨g5, 0, none⟩) 16 16), (4, iv (j : Int))] ∧ j ≤ 16 ∧ HP w (fun _ => False) F0 w' (itR 5 1 (some ⟨g5, 0, none⟩) 16 16 (List.replicate j (bv b) ++ List.replicate (16 - j) (bv 0)) :: []) ∧ mes = 16 - j) (16 - 0) ⟨0, rfl, Nat.zero_le _, hp, rfl⟩ ?_
 clear hp
 rintro _ wr _ ⟨j, rfl, hj, hp, rfl⟩ KL hKL
 refine so ?_
 refine Cd ?_ ?_ <;> intro hc
 ·have hj9 : j < 16 := by omega
  refine so ?_
  refine wl_idxR (by decide) sl40 rfl rfl j rfl hj9 (so ?_)
  refine wl_hstoreR (i := 0) (o := j * 1) rfl rfl hp rfl (show szB prog 5 1 = true by kernel_rfl) rfl ?_ (show (1 : Nat) ≠ 0 by decide) (List.all_eq_true.1 rfl) (fun w7 hp C7 => so ?_)
  ·rw [List.length_append, List.length_replicate, List.length_replicate]
   show j * 1 + 1 ≤ j + (16 - j)
   omega
  refine Kl [0, 3, 4] hKL (16 - (j + 1)) ⟨j + 1, rfl, by omega, ?_, rfl⟩ (by omega)
  rw [Nat.mul_one] at hp
  exact hp.as_ (H' := itR 5 1 (some ⟨g5, 0, none⟩) 16 16 (List.replicate (j + 1) (bv b) ++ List.replicate (16 - (j + 1)) (bv 0)) :: []) (by rw [← rep_snoc b j hj9]; rfl)
 ·obtain rfl : j = 16 := by omega
  refine so ?_
  have hrow := hp.rowLo (i := 0) rfl
  refine Pt ⟨_, rfl, some ⟨g5, 0, none⟩, 16, rfl, ?_, hp.chg⟩
  refine OwnRow.gsRF (r := byteR) (rows := List.replicate 16 [bv b]) (l := List.replicate 16 b) hrow ⟨rfl, fun j hj => ⟨[bv b], ?_, ?_⟩⟩ (fun d hd hb => (hrow.lt hd d hb).1)
  ·rw [List.length_replicate] at hj
   rw [List.getElem?_replicate, if_pos hj]
  ·rw [List.getElem_replicate]
   exact rfl
end Go.Proofs.Ytgheaedligkhoaa
namespace Go.Proofs.Ytgheaedligkhoaa
open Go.RowKit Go.Eng Go.Eng _root_.Go.Proofs.Try
set_option maxRecDepth 100000
variable {w0 w : World} {M0 Fz : Nat → Prop} {H : List It} {A : Option Addr} {c : Nat}
set_option maxHeartbeats 40000000 in
theorem lSame_ok {Aa : Option Addr} {ca : Nat} {a : List Evt} {Sa : Nat → Prop} {Ab : Option Addr} {cb : Nat} {b : List Evt} {Sb : Nat → Prop} (ha : GS evtR Sa w Aa ca a) (hb : GS evtR Sb w Ab cb b) : Ret prog 14 #[.slice Aa a.length ca, .slice Ab b.length cb] w (fun v w' => v = .bool (decide (a = b)) ∧ Ext w w') := by
 have mha:=ha.mx
 have mhb:=hb.mx
 refine ret_of_wk func14 rfl ntmps14 leB_ ?_
 have hp:=HP.begin_ w
 refine so ?_
 refine Cd ?_ ?_<;>intro hne
 refine so ?_
 refine Pt ?_
 exact ⟨_, rfl, bool_f (fun e => hne (by rw [e])), hp.chg⟩
 have hll : a.length = b.length := by omega
 refine so ?_
 refine Lp [0, 1, 5] (fun L' w' mes => ∃ (k : Nat), L' = [(0, .slice Aa a.length ca), (1, .slice Ab b.length cb), (5, iv (k : Int))] ∧ (k ≤ a.length) ∧ (a.take k = b.take k) ∧ (GS evtR (fun b => b < w.heap.size) w' Aa ca a) ∧ (GS evtR (fun b => b < w.heap.size) w' Ab cb b) ∧ (HP w (fun _ => False) (fun b => b < w.heap.size) w' ([])) ∧ a.length - k = mes) (a.length - 0) ⟨0, rfl, by omega, by simp, ha.tn, hb.tn, hp, rfl⟩ ?_
 rintro _ wr _ ⟨k, rfl, hk, htk, ha, hb, hp, rfl⟩ KL1 hKL1
 refine so ?_
 refine Cd ?_ ?_<;>intro hlt
 refine so ?_
 obtain ⟨aw2, pw2_0, qw2_0, pw2_1, qw2_1, pw2_2, qw2_2, pw2_3, qw2_3, hAw2, hatw2, hIw2, hw2_0, hw2_1, hw2_2, hw2_3⟩ := evtR_el ha k (by omega)
 obtain ⟨aw6, pw6_0, qw6_0, pw6_1, qw6_1, pw6_2, qw6_2, pw6_3, qw6_3, hAw6, hatw6, hIw6, hw6_0, hw6_1, hw6_2, hw6_3⟩ := evtR_el hb k (by omega)
 apply wc_drawW 11 8 9 10 6 7 46 (.agg #[iv 0, iv 0, iv 0, iv 0, iv 0, iv 0, iv 0, .int .u8 0, .int .u8 0, .int .u8 0, .int .u8 0, .int .u8 0, .int .u8 0, .int .u8 0, .int .u8 0, .int .u8 0, .int .u8 0, .int .u8 0, .int .u8 0, .int .u8 0, .int .u8 0, .int .u8 0, .int .u8 0, .int .u8 0, .int .u8 0, .int .u8 0, .int .u8 0, .int .u8 0, .int .u8 0, .int .u8 0, .int .u8 0, .int .u8 0, .int .u8 0, .int .u8 0, .int .u8 0, .int .u8 0, .int .u8 0, .int .u8 0, .int .u8 0, iv 0, iv 0, iv 0, iv 0, iv 0, iv 0, s0, iv 0, iv 0, s0, iv 0, s0, iv 0, s0] : Value).cells.toList ([iv ((a.getD k evt0).time), iv ((a.getD k evt0).kind), iv ((a.getD k evt0).a), iv ((a.getD k evt0).b), iv ((a.getD k evt0).group), iv ((a.getD k evt0).epoch), iv ((a.getD k evt0).seq)] ++ (digC ((a.getD k evt0).dig) ++ ([iv ((a.getD k evt0).wish.client), iv ((a.getD k evt0).wish.stamp), iv ((a.getD k evt0).wish.group), iv ((a.getD k evt0).wish.epoch), iv ((a.getD k evt0).wish.kind), iv ((a.getD k evt0).wish.block), .slice pw2_0 ((a.getD k evt0).wish.data).length qw2_0, iv ((a.getD k evt0).wish.old), iv ((a.getD k evt0).wish.new), .slice pw2_1 ((a.getD k evt0).wish.next).length qw2_1, iv ((a.getD k evt0).ans.err), .slice pw2_2 ((a.getD k evt0).ans.data).length qw2_2, iv ((a.getD k evt0).ans.epoch), .slice pw2_3 ((a.getD k evt0).ans.nodes).length qw2_3]))) [SP.eq _, SP.eq _, SP.eq _, SP.eq _, SP.eq _, SP.eq _, SP.eq _, SP.eq _, SP.any, SP.any, SP.any] (by kernel_rfl) (by kernel_rfl) (by kernel_rfl) (by kernel_rfl) ⟨.inr (fun _ _ _ _ h => h), .inr (fun _ _ _ _ h => h), .inr (fun _ _ _ _ h => h), .inr (fun _ _ _ _ h => h), .inr (fun _ _ _ _ h => h), .inr (fun _ _ _ _ h => h), .inr (fun _ _ _ _ h => h), .inr (fun _ _ _ _ h => h), .inr (fun _ _ _ _ _ => trivial), .inr (fun _ _ _ _ _ => trivial), .inr (fun _ _ _ _ _ => trivial), trivial⟩ leB_
 refine ⟨?_,?_,?_,?_,?_,?_,?_,?_,?_,?_,?_,trivial⟩<;>intro F wF hER hk hEE
 have e0:=hk.qi 0
 refine Mv_ e0 ?_
 exact qz ⟨RlW.o (by decide) (by decide) (by decide) (Chg.refl _ _), rfl⟩
 have e5:=hk.qi 5
 refine Mv_ e5 ?_
 exact qz ⟨RlW.o (by decide) (by decide) (by decide) (Chg.refl _ _), rfl⟩
 have e19:=hk.qe 0
 have e20:=hk.qe 1
 refine wl_idx0 (by decide) sl24 e19 e20 hAw2 k rfl (by omega) ?_
 exact qz ⟨RlW.o (by decide) (by decide) (by decide) (Chg.refl _ _), rfl⟩
 have e21:=hk.qe 2
 refine wl_loadA (by decide) ag46 e21 (hatw2.ext hER).at_ rfl ?_
 exact qz ⟨RlW.o (by decide) (by decide) (by decide) (Chg.refl _ _), rfl⟩
 have e1:=hk.qi 1
 refine Mv_ e1 ?_
 exact qz ⟨RlW.o (by decide) (by decide) (by decide) (Chg.refl _ _), rfl⟩
 have e5:=hk.qi 5
 refine Mv_ e5 ?_
 exact qz ⟨RlW.o (by decide) (by decide) (by decide) (Chg.refl _ _), rfl⟩
 have e23:=hk.qe 4
 have e24:=hk.qe 5
 refine wl_idx0 (by decide) sl24 e23 e24 hAw6 k rfl (by omega) ?_
 exact qz ⟨RlW.o (by decide) (by decide) (by decide) (Chg.refl _ _), rfl⟩
 have e25:=hk.qe 6
 refine wl_loadA (by decide) ag46 e25 (hatw6.ext hER).at_ rfl ?_
 exact qz ⟨RlW.o (by decide) (by decide) (by decide) (Chg.refl _ _), rfl⟩
 refine wl_alloc (z := .agg #[iv 0, iv 0, iv 0, iv 0, iv 0, iv 0, iv 0, .int .u8 0, .int .u8 0, .int .u8 0, .int .u8 0, .int .u8 0, .int .u8 0, .int .u8 0, .int .u8 0, .int .u8 0, .int .u8 0, .int .u8 0, .int .u8 0, .int .u8 0, .int .u8 0, .int .u8 0, .int .u8 0, .int .u8 0, .int .u8 0, .int .u8 0, .int .u8 0, .int .u8 0, .int .u8 0, .int .u8 0, .int .u8 0, .int .u8 0, .int .u8 0, .int .u8 0, .int .u8 0, .int .u8 0, .int .u8 0, .int .u8 0, .int .u8 0, iv 0, iv 0, iv 0, iv 0, iv 0, iv 0, s0, iv 0, iv 0, s0, iv 0, s0, iv 0, s0]) (by decide) (by kernel_rfl) ?_
 rintro g7 w7 hg7 hb7 hE7
 subst hg7
 exact qz ⟨RlW.a (.inl rfl) (by decide) hb7 hE7, trivial⟩
 refine wl_alloc (z := .agg #[iv 0, iv 0, iv 0, iv 0, iv 0, iv 0, iv 0, .int .u8 0, .int .u8 0, .int .u8 0, .int .u8 0, .int .u8 0, .int .u8 0, .int .u8 0, .int .u8 0, .int .u8 0, .int .u8 0, .int .u8 0, .int .u8 0, .int .u8 0, .int .u8 0, .int .u8 0, .int .u8 0, .int .u8 0, .int .u8 0, .int .u8 0, .int .u8 0, .int .u8 0, .int .u8 0, .int .u8 0, .int .u8 0, .int .u8 0, .int .u8 0, .int .u8 0, .int .u8 0, .int .u8 0, .int .u8 0, .int .u8 0, .int .u8 0, iv 0, iv 0, iv 0, iv 0, iv 0, iv 0, s0, iv 0, iv 0, s0, iv 0, s0, iv 0, s0]) (by decide) (by kernel_rfl) ?_
 rintro g7 w7 hg7 hb7 hE7
 subst hg7
 exact qz ⟨RlW.a (.inr rfl) (by decide) hb7 hE7, trivial⟩
 have e22:=hk.qe 3
 obtain ⟨g7, hg7, hb7⟩ := hEE rfl
 refine wl_storeB2 hg7 e22 hb7 sz46 leB_ (List.all_eq_true.1 rfl) ?_
 intro w7 hb8 hC7
 exact wl_nil (qr_none ⟨RlW.f hg7 hC7 hb8, trivial⟩)
 intro F wD hED hini hdo hWW
 obtain ⟨gs6, gs7, hWn, hWA, hWB, e6, e7, hbA, hbB⟩ := hWW
 refine wl_drop [(0, _), (1, _), (5, _), (6, _), (7, _), (26, _)] ⟨di hini 0, di hini 1, di hini 5, e6, e7, dr hdo 7, trivial⟩ ?_
 clear e6 e7 hini hdo
 replace hp:=hp.add2 hED hbA hbB hWn hWA hWB
 refine Hs 1 hp (h := fun w1 hp hC1 => so ?_)
 refine Gs 32 ?_ ?_<;>intro hg3<;>refine so ?_
 refine aT (so ?_)
 refine Pt ?_
 exact ⟨_, rfl, bool_f (fun e => by subst e; simp_all), hp.chg⟩
 refine Gs 39 ?_ ?_<;>intro hg4<;>refine so ?_
 refine aT (so ?_)
 refine Pt ?_
 exact ⟨_, rfl, bool_f (fun e => by subst e; simp_all), hp.chg⟩
 refine Gs 46 ?_ ?_<;>intro hg5<;>refine so ?_
 refine aT (so ?_)
 refine Pt ?_
 exact ⟨_, rfl, bool_f (fun e => by subst e; simp_all), hp.chg⟩
 refine Gs 53 ?_ ?_<;>intro hg6<;>refine so ?_
 refine aT (so ?_)
 refine Pt ?_
 exact ⟨_, rfl, bool_f (fun e => by subst e; simp_all), hp.chg⟩
 refine Gs 60 ?_ ?_<;>intro hg7<;>refine so ?_
 refine aT (so ?_)
 refine Pt ?_
 exact ⟨_, rfl, bool_f (fun e => by subst e; simp_all), hp.chg⟩
 refine Gs 67 ?_ ?_<;>intro hg8<;>refine so ?_
 refine aT (so ?_)
 refine Pt ?_
 exact ⟨_, rfl, bool_f (fun e => by subst e; simp_all), hp.chg⟩
 refine Gs 74 ?_ ?_<;>intro hg9<;>refine so ?_
 refine aT (so ?_)
 refine Pt ?_
 exact ⟨_, rfl, bool_f (fun e => by subst e; simp_all), hp.chg⟩
 refine wl_neqK (m := 6) ((a.getD k evt0).dig = (b.getD k evt0).dig) (by decide) key39 eg39 rfl rfl (digC_fit _) (digC_fit _) digC_inj ?_
 refine so ?_
 refine Gs 81 ?_ ?_<;>intro hg10<;>refine so ?_
 refine aT (so ?_)
 refine Pt ?_
 exact ⟨_, rfl, bool_f (fun e => by subst e; simp_all), hp.chg⟩
 refine Cx hp (r11Same_ok ⟨(hIw2.wish), _, _, _, _, rfl, hw2_0.to, hw2_1.to⟩ ⟨(hIw6.wish), _, _, _, _, rfl, hw6_0.to, hw6_1.to⟩) fun w2 hp hE2 => so ?_
 refine Gs 89 ?_ ?_<;>intro hg11<;>refine so ?_
 refine aT (so ?_)
 refine Pt ?_
 exact ⟨_, rfl, bool_f (fun e => by subst e; simp_all), hp.chg⟩
 refine Cx hp (r16Same_ok ⟨(hIw2.ans), _, _, _, _, rfl, hw2_2.to, hw2_3.to⟩ ⟨(hIw6.ans), _, _, _, _, rfl, hw6_2.to, hw6_3.to⟩) fun w3 hp hE3 => so ?_
 refine Cd ?_ ?_<;>intro hc12<;>refine so ?_
 refine Pt ?_
 exact ⟨_, rfl, bool_f (fun e => by subst e; simp_all), hp.chg⟩
 refine Kl [0, 1, 5] hKL1 (a.length - (k + 1)) ⟨(k + 1), rfl, by omega, ?_, ha.to, hb.to, hp.tail.tail, rfl⟩ (by omega)
 rw [take_snoc evt0 (by omega : k < a.length), take_snoc evt0 (by omega : k < b.length), htk, show a.getD k evt0 = b.getD k evt0 from Evt_eq.2 (by simp_all)]
 have hkl : k = a.length := by omega
 refine so ?_
 refine Pt ?_
 exact ⟨_, rfl, bool_t (by rw [hkl, List.take_length, hll, List.take_length] at htk; exact htk), hp.chg⟩
end Go.Proofs.Ytgheaedligkhoaa
