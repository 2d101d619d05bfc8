/- Lnu (printed by program: wip/gen) -/
import Derived.Test.YtnlpibfdobinoaaLns
namespace Go.Proofs.Ytnlpibfdobinoaa
open Go.RowKit Go.Eng

theorem putL_flat : ∀ (rows : List (List Value)) (k i o : Nat) (vs : List Value) (hi : i < rows.length), (∀ x ∈ rows, x.length = k) → o + vs.length ≤ k → putL rows.flatten (i * k + o) vs = (rows.set i (putL rows[i] o vs)).flatten
  | [], _, _, _, _, hi, _, _ => absurd hi (by simp)
  | x :: r, k, 0, o, vs, _, hl, hv => by
    have hx := hl x (by simp)
    simp only [putL, List.flatten_cons, Nat.zero_mul, Nat.zero_add, List.set_cons_zero, List.getElem_cons_zero]
    rw [List.take_append_of_le_length (by omega), List.drop_append_of_le_length (by omega)]
    simp
  | x :: r, k, i + 1, o, vs, hi, hl, hv => by
    have hx := hl x (by simp)
    have ih := putL_flat r k i o vs (by simpa using hi) (fun y hy => hl y (by simp [hy])) hv
    simp only [List.flatten_cons, List.set_cons_succ, List.getElem_cons_succ, ← ih]
    have e : (i + 1) * k + o = x.length + (i * k + o) := by rw [hx, Nat.succ_mul]; omega
    simp only [putL]
    rw [e, List.take_length_add_append, show x.length + (i * k + o) + vs.length = x.length + (i * k + o + vs.length) by omega, List.drop_length_add_append]
    simp
theorem _root_.Go.Eng.RF.set {α : Type} {r : Rep α} {Fz : Nat → Prop} {w : World} {rows : List (List Value)} {l : List α} (h : RF r Fz w rows l) (i : Nat) {cs : List Value} {v : α} (hr : r.rd Fz w cs v) : RF r Fz w (rows.set i cs) (l.set i v) := by
  refine ⟨by simp [h.1], fun j hj => ?_⟩
  have hj' : j < l.length := by simpa using hj
  by_cases e : i = j
  · subst e
    exact ⟨cs, by rw [List.getElem?_set_self (by rw [h.1]; exact hj')], by simpa using hr⟩
  · obtain ⟨ds, h1, h2⟩ := h.2 j hj'
    exact ⟨ds, by rw [List.getElem?_set_ne e]; exact h1, by rw [List.getElem_set_ne e]; exact h2⟩
/-- The register's value behind a history. -/
def seqV : List UInt8 → List HOp → List UInt8
  | v, [] => v
  | v, x :: r => seqV (if x.wr then x.val else v) r
theorem seqV_app (x : HOp) : ∀ (H : List HOp) (v : List UInt8), seqV v (H ++ [x]) = if x.wr then x.val else seqV v H
  | [], v => by simp [seqV]
  | y :: r, v => by simp only [List.cons_append, seqV]; exact seqV_app x r _
theorem seqOK_app (x : HOp) : ∀ (H : List HOp) (v : List UInt8), seqOK v (H ++ [x]) = (seqOK v H && (x.wr || decide (x.val = seqV v H)))
  | [], v => by rw [List.nil_append]; unfold seqOK; unfold seqOK; simp only [seqV, Bool.and_true, Bool.true_and]; rfl
  | y :: r, v => by rw [List.cons_append]; unfold seqOK; rw [seqOK_app x r, Bool.and_assoc]; rfl
/-- What made makes. -/
structure MadeH (n : Nat) (H : List HOp) : Prop where
  len : H.length = min n 14
  tm : ∀ i, i < H.length → 100 * ((i : Int) + 1) - 89 ≤ (hop H i).b ∧ (hop H i).b ≤ 100 * ((i : Int) + 1) ∧ 100 * ((i : Int) + 1) < (hop H i).e ∧ (hop H i).e ≤ 100 * ((i : Int) + 1) + 90
  ok : seqOK [0] H = true
theorem hop_app_lt {H : List HOp} {x : HOp} {i : Nat} (h : i < H.length) : hop (H ++ [x]) i = hop H i := by simp [hop, List.getElem?_append_left h]
theorem hop_app_eq (H : List HOp) (x : HOp) : hop (H ++ [x]) H.length = x := by simp [hop]
theorem shr_e (N : Int) (k : Nat) (e : Int) (he : e = (k : Int)) (hk : k ≤ 64) : N.fdiv (2 ^ min e.toNat IntKind.i64.bits) = N / (2 ^ k : Nat) := by
  subst he
  have e1 : min (k : Int).toNat IntKind.i64.bits = k := by simp [IntKind.bits]; omega
  rw [e1, Int.fdiv_eq_ediv_of_nonneg _ (Int.le_of_lt (by exact_mod_cast Nat.two_pow_pos k))]
  norm_cast

theorem made_ok {A0 : Option Addr} {c0 : Nat} {l : List Int} {S : Nat → Prop} {w : World} (h : IS S w A0 c0 l) (hlm : ∀ x ∈ l, -9223372036854775808 ≤ x ∧ x ≤ 9223372036854775807) : Ret Try.prog 24 #[.slice A0 l.length c0] w (fun v w' => ∃ A c H, v = .slice A H.length c ∧ OutR opR (fun b => S b ∨ w.heap.size ≤ b) 45 w.heap.size w' A c H ∧ Ext w w' ∧ MadeH l.length H) := by
  refine ret_of_wk Try.func24 rfl Try.ntmps24 (Nat.le_of_ble_eq_true rfl) ?_
  have hp := HP.beginS w S
  have hFU : ∀ b, (S b ∧ b < w.heap.size) → S b ∨ w.heap.size ≤ b := fun _ h => .inl h.1
  replace h := h.nowS
  refine wc_seq ?_
  refine wc_region ?_
  refine wl_assign (by decide) rfl ?_
  refine wl_nil ?_
  refine wk_norm ?_
  refine wc_seq ?_
  refine wc_region ?_
  refine wl_assign (by decide) rfl ?_
  replace hp := hp.noRow 45 4
  refine wl_nil ?_
  refine wk_norm ?_
  refine wc_seq ?_
  refine wc_region ?_
  refine wl_assign (by decide) rfl ?_
  refine wl_nil ?_
  refine wk_norm ?_
  refine wc_seq ?_
  refine wc_seq ?_
  refine wc_region ?_
  refine wl_assign (by decide) rfl ?_
  refine wl_nil ?_
  refine wk_norm ?_
  refine wc_block ?_
  refine wc_loop (fun L' w' mes => ∃ (k : Nat), ∃ (Fz : Nat → Prop), ∃ (A : Option Addr), ∃ (c : Nat), ∃ (rows : List (List Value)), ∃ (H : List HOp), ∃ (vb : UInt8), L' = [(0, .slice A0 l.length c0), (3, .slice A k c), (4, bv vb), (5, .int .i64 (k : Int))] ∧ (k ≤ l.length) ∧ (k ≤ 14) ∧ (H.length = k) ∧ (IS Fz w' A0 c0 l) ∧ (∀ b, Fz b → S b ∨ w.heap.size ≤ b) ∧ (HP w (fun _ => False) Fz w' [itR 45 4 A k c rows.flatten]) ∧ (RF opR Fz w' rows H) ∧ (∀ i, i < H.length → 100 * ((i : Int) + 1) - 89 ≤ (hop H i).b ∧ (hop H i).b ≤ 100 * ((i : Int) + 1) ∧ 100 * ((i : Int) + 1) < (hop H i).e ∧ (hop H i).e ≤ 100 * ((i : Int) + 1) + 90) ∧ (seqOK [0] H = true) ∧ (seqV [0] H = [vb]) ∧ l.length - k = mes) [(0, .slice A0 l.length c0), (3, .slice none 0 0), (4, bv 0), (5, .int .i64 (0 : Int))] (l.length - 0) (by
      refine ⟨0, (fun b => S b ∧ b < w.heap.size), none, 0, [], [], 0, rfl, ?_, ?_, ?_, ?_, ?_, ?_, ?_, ?_, ?_, ?_, rfl⟩
      · omega
      · omega
      · rfl
      · exact h
      · exact hFU
      · exact hp
      · exact RF.nil _ _ _
      · intro i hi; simp at hi
      · rfl
      · rfl) ⟨rfl, rfl, rfl, rfl, trivial⟩ ?_
  rintro _ wr _ ⟨k, Fz, A, c, rows, H, vb, rfl, hk, hk14, hHl, h, hFU, hp, hR, htm, hok, hsv, rfl⟩ KL1 hKL1
  have hmx := h.mx
  refine wc_seq ?_
  refine wc_seq ?_
  refine wc_region ?_
  refine wl_move (by decide) rfl ?_
  refine wl_move (by decide) rfl ?_
  refine wl_len (by decide) Try.underlying33 rfl ?_
  refine wl_lss (by decide) rfl rfl ?_
  refine wl_move (by decide) rfl ?_
  refine wl_gsplit (dj := 13) rfl (fun hlt => ?_) (fun hlt => ?_)
  ·
    try replace hlt := of_decide_eq_true hlt
    refine wl_gyes rfl rfl ?_
    refine wl_move (by decide) rfl ?_
    refine wl_gyes rfl rfl ?_
    refine wl_lss (by decide) rfl rfl ?_
    refine wl_pick (by decide) rfl rfl ?_
    refine wl_nil ?_
    refine wk_norm ?_
    refine wc_cond rfl (fun hl14 => ?_) (fun hl14 => ?_)
    ·
      try replace hl14 := of_decide_eq_true hl14
      refine wc_skip ?_
      refine wk_norm ?_
      refine wc_seq ?_
      refine wc_block ?_
      refine wc_seq ?_
      refine wc_region ?_
      refine wl_move (by decide) rfl ?_
      obtain ⟨aK, hAK, hatK⟩ := GS.el1 h k (by omega)
      have hlk := hlm _ (List.getElem_mem (show k < l.length by omega))
      refine wl_add (by decide) rfl rfl (w64 (by omega) (by omega)) ?_
      refine wl_mul (by decide) rfl rfl (w64 (by omega) (by omega)) ?_
      refine wl_assign (by decide) rfl ?_
      refine wl_nil ?_
      refine wk_norm ?_
      refine wc_seq ?_
      refine wc_region ?_
      refine wl_move (by decide) rfl ?_
      refine wl_move (by decide) rfl ?_
      refine wl_idx0 (by decide) Try.sl33 rfl rfl hAK k rfl (by omega) ?_
      refine wl_load (by decide) Try.sc3 rfl hatK.head ?_
      refine wl_call (by decide) Try.cl25 rfl (bring_ok (by omega) (by omega) (by omega) (by omega)) ?_
      rintro _ _ ⟨rfl, rfl⟩
      have lo2 := brg_lo (l[k]'(by omega)) 1048576
      have hi2 := brg_hi (l[k]'(by omega)) 1048576 (by decide)
      generalize brg (l[k]'(by omega)) 1048576 = N at *
      refine wl_assign (by decide) rfl ?_
      refine wl_nil ?_
      refine wk_norm ?_
      refine wc_seq ?_
      refine wc_region ?_
      refine wl_move (by decide) rfl ?_
      refine wl_move (by decide) rfl ?_
      refine wl_shr (by decide) rfl rfl (by decide) (show _ = N / 4 from shr_e N 2 2 rfl (by decide)) ?_
      refine wl_rem (by decide) rfl rfl (by decide) (Int.tmod_eq_emod_of_nonneg (by omega)) ?_
      refine wl_sub (by decide) rfl rfl (w64 (by omega) (by omega)) ?_
      refine wl_move (by decide) rfl ?_
      refine wl_add (by decide) rfl rfl (w64 (by omega) (by omega)) ?_
      refine wl_move (by decide) rfl ?_
      refine wl_shr (by decide) rfl rfl (by decide) (show _ = N / 512 from shr_e N 9 9 rfl (by decide)) ?_
      refine wl_rem (by decide) rfl rfl (by decide) (Int.tmod_eq_emod_of_nonneg (by omega)) ?_
      refine wl_add (by decide) rfl rfl (w64 (by omega) (by omega)) ?_
      refine wl_built (ps := [(2, .tmp 31), (3, .tmp 37)]) (by decide) Try.bld45 rfl rfl ?_
      refine wl_halloc (z := .agg #[.bool false, .slice none 0 0, .int .i64 0, .int .i64 0]) (by decide) (by kernel_rfl) hp ?_
      rintro gs8 w2 hp2 hE2
      replace h := h.ext hE2
      replace hR := hR.ext hE2
      replace hatK := hatK.ext hE2
      replace hp := hp2
      refine wl_hstore (i := 0) rfl rfl hp rfl Try.sz45 (Nat.le_of_ble_eq_true rfl) (List.all_eq_true.1 rfl) ?_
      rintro w3 hp3 hC3
      replace h := h.fz hC3
      replace hR := hR.fz hC3
      replace hatK := hatK.fz hC3
      replace hp := hp3
      refine wl_nil ?_
      refine wk_norm ?_
      refine wc_seq_cut (fun L' w' => ∃ (wr : Bool), ∃ (v2 : UInt8), L' = [(0, .slice A0 l.length c0), (3, .slice A k c), (4, bv v2), (5, .int .i64 (k : Int)), (8, .pointer (some ⟨gs8, 0, none⟩))] ∧ (wr = true ∨ v2 = vb) ∧ (IS Fz w' A0 c0 l) ∧ (RF opR Fz w' rows H) ∧ (HP w (fun _ => False) Fz w' [itB gs8 45 [.bool wr, .slice none 0 0, .int .i64 (100 * ((k : Int) + 1) - N / 4 % 90), .int .i64 (100 * ((k : Int) + 1) + 1 + N / 512 % 90)], itR 45 4 A k c rows.flatten])) (fun K hK => ?_) ?_
      ·
        refine wc_seq ?_
        refine wc_region ?_
        refine wl_move (by decide) rfl ?_
        refine wl_rem (by decide) rfl rfl (by decide) (Int.tmod_eq_emod_of_nonneg (by omega)) ?_
        refine wl_eql (by decide) rfl rfl ?_
        refine wl_nil ?_
        refine wk_norm ?_
        refine wc_cond rfl (fun hc3 => ?_) (fun hc3 => ?_)
        ·
          try replace hc3 := of_decide_eq_true hc3
          refine wc_seq ?_
          refine wc_region ?_
          refine wl_move (by decide) rfl ?_
          refine wl_shr (by decide) rfl rfl (by decide) (show _ = N / 65536 from shr_e N 16 16 rfl (by decide)) ?_
          refine wl_conv (by decide) Try.it3 Try.it5 rfl (wrap_u8 _) ?_
          refine wl_assign (by decide) rfl ?_
          refine wl_nil ?_
          refine wk_norm ?_
          refine wc_region ?_
          refine wl_fld' (o' := 0) (by decide) Try.fld45_0 rfl rfl ?_
          refine wl_hstore (i := 0) rfl rfl hp rfl Try.sz4 (Nat.le_of_ble_eq_true rfl) (List.all_eq_true.1 rfl) ?_
          rintro w4 hp4 hC4
          replace h := h.fz hC4
          replace hR := hR.fz hC4
          replace hatK := hatK.fz hC4
          replace hp := hp4
          refine wl_nil ?_
          refine wk_norm ?_
          refine wk_drop [(0, .slice A0 l.length c0), (3, .slice A k c), (4, bv _), (5, .int .i64 (k : Int)), (8, .pointer (some ⟨gs8, 0, none⟩))] ⟨rfl, rfl, rfl, rfl, rfl, trivial⟩ (hK _ _ ?_)
          refine ⟨true, _, rfl, ?_, ?_, ?_, ?_⟩
          · first | exact .inl rfl | exact .inr rfl
          · exact h
          · exact hR
          · exact hp
        ·
          try replace hc3 := of_decide_eq_false hc3
          refine wc_skip ?_
          refine wk_norm ?_
          refine wk_drop [(0, .slice A0 l.length c0), (3, .slice A k c), (4, bv _), (5, .int .i64 (k : Int)), (8, .pointer (some ⟨gs8, 0, none⟩))] ⟨rfl, rfl, rfl, rfl, rfl, trivial⟩ (hK _ _ ?_)
          refine ⟨false, _, rfl, ?_, ?_, ?_, ?_⟩
          · first | exact .inl rfl | exact .inr rfl
          · exact h
          · exact hR
          · exact hp
      ·
        rintro _ wn ⟨wr, v2, rfl, hwv, h, hR, hp⟩
        refine wc_seq ?_
        refine wc_region ?_
        refine wl_move (by decide) rfl ?_
        refine wl_bsliceB (xs := [.tmp 46]) (bs := [v2]) (by decide) Try.sl23 rfl rfl rfl (by simp) _ (Nat.le_refl _) ?_
        rintro gt wt hgt hot hEt
        replace hot := hot.bs
        have hsz5 := hp.chg.size
        obtain ⟨Fz5, hp5, hsub5, hnew5, hup5⟩ := hp.frz hEt
        replace hp := hp5
        replace hFU : ∀ b, Fz5 b → _ := fun b hb => (hup5 b hb).elim (hFU b) (fun h => .inr (Nat.le_trans hsz5 h))
        replace h := (h.ext hEt).wid hsub5
        replace hR := (hR.ext hEt).wid hsub5
        replace hot := hot.frz hnew5
        refine wl_fld' (o' := 1) (by decide) Try.fld45_1 rfl rfl ?_
        refine wl_hstore (i := 0) rfl rfl hp rfl Try.sz23 (Nat.le_of_ble_eq_true rfl) (List.all_eq_true.1 rfl) ?_
        rintro w6 hp6 hC6
        replace h := h.fz hC6
        replace hR := hR.fz hC6
        replace hot := hot.fz hC6
        replace hp := hp6
        refine wl_nil ?_
        refine wk_norm ?_
        refine wc_region ?_
        refine wl_move (by decide) rfl ?_
        refine wl_hloadA (i := 0) (by decide) Try.ag45 rfl hp rfl rfl ?_
        refine wl_bslice (size := 4) (xs := [.tmp 50]) (by decide) Try.sl22 rfl rfl rfl (by intro v hv; rw [List.mem_singleton.1 hv]; rfl) (Nat.le_of_ble_eq_true rfl) _ (Nat.le_refl _) ?_
        rintro gu wu hgu hou hEu
        replace h := h.ext hEu
        replace hR := hR.ext hEu
        replace hot := hot.ext hEu
        replace hp := hp.ext hEu
        refine wl_happend (i := 1) (m := 1) (news := [.bool wr, .slice (some ⟨gt, 0, none⟩) 1 1, .int .i64 (100 * ((k : Int) + 1) - N / 4 % 90), .int .i64 (100 * ((k : Int) + 1) + 1 + N / 512 % 90)]) (by decide) Try.sl22 rfl rfl hp rfl rfl (fun b hb => by cases hb; exact hou.at0) (by simp) (List.all_eq_true.1 rfl) (by omega) ?_
        rintro A3 c3 w3 hp3 hC3
        replace h := h.fz hC3
        replace hR := hR.fz hC3
        replace hot := hot.fz hC3
        replace hp := hp3
        refine wl_assign (by decide) rfl ?_
        refine wl_nil ?_
        refine wk_blk_norm ?_
        refine wk_norm ?_
        refine wc_region ?_
        refine wl_move (by decide) rfl ?_
        refine wl_add (by decide) rfl rfl (w64 (by omega) (by omega)) ?_
        refine wl_assign (by decide) rfl ?_
        refine wl_nil ?_
        refine wk_norm ?_
        refine wk_drop [(0, .slice A0 l.length c0), (3, .slice A3 (k + 1) c3), (4, bv v2), (5, .int .i64 ((k + 1) : Int))] ⟨rfl, rfl, rfl, rfl, trivial⟩ (hKL1 _ _ (m2 := l.length - (k + 1)) ?_ ?_)
        ·
          refine ⟨(k + 1), Fz5, A3, c3, (rows ++ [[.bool wr, .slice (some ⟨gt, 0, none⟩) 1 1, .int .i64 (100 * ((k : Int) + 1) - N / 4 % 90), .int .i64 (100 * ((k : Int) + 1) + 1 + N / 512 % 90)]]), (H ++ [⟨wr, [v2], (100 * ((k : Int) + 1) - N / 4 % 90), (100 * ((k : Int) + 1) + 1 + N / 512 % 90)⟩]), v2, rfl, ?_, ?_, ?_, ?_, ?_, ?_, ?_, ?_, ?_, ?_, rfl⟩
          · omega
          · omega
          · rw [List.length_append, hHl]; rfl
          · exact h
          · exact hFU
          · rw [List.flatten_append]; exact hp.tail
          · exact hR.append (RF.one ⟨_, _, rfl, hot⟩)
          · intro i hi
            rw [List.length_append, List.length_singleton] at hi
            by_cases e : i = H.length
            · rw [e, hop_app_eq, hHl]
              show _ ≤ (100 * ((k : Int) + 1) - N / 4 % 90) ∧ (100 * ((k : Int) + 1) - N / 4 % 90) ≤ _ ∧ _ < (100 * ((k : Int) + 1) + 1 + N / 512 % 90) ∧ (100 * ((k : Int) + 1) + 1 + N / 512 % 90) ≤ _
              omega
            · rw [hop_app_lt (show i < H.length by omega)]
              exact htm i (by omega)
          · rw [seqOK_app, hok, hsv]
            rcases hwv with e | e <;> simp [e]
          · rw [seqV_app, hsv]
            rcases hwv with e | e <;> simp [e]
        · omega
    ·
      try replace hl14 := of_decide_eq_false hl14
      refine wc_exit ?_
      refine wk_then_exit ?_
      refine wk_then_exit ?_
      refine wk_blk_exit ?_
      refine wk_norm ?_
      refine wc_seq ?_
      refine wc_region ?_
      refine wl_move (by decide) rfl ?_
      refine wl_assign (by decide) rfl ?_
      refine wl_nil ?_
      refine wk_norm ?_
      refine wc_ret ?_
      refine wk_post1 (.inl rfl) Try.results24 rfl ?_
      exact ⟨_, rfl, A, c, H, by rw [hHl], (hp.outR (i := 0) (by rw [hHl]; rfl) hR hFU), hp.chg, ⟨by omega, htm, hok⟩⟩
  ·
    try replace hlt := of_decide_eq_false hlt
    refine wl_gno (by decide) rfl rfl (.inl rfl) ?_
    refine wl_gno (by decide) rfl rfl (.inl rfl) ?_
    refine wl_pick (by decide) rfl rfl ?_
    refine wl_nil ?_
    refine wk_norm ?_
    refine wc_cond_f rfl ?_
    refine wc_exit ?_
    refine wk_then_exit ?_
    refine wk_then_exit ?_
    refine wk_blk_exit ?_
    refine wk_norm ?_
    refine wc_seq ?_
    refine wc_region ?_
    refine wl_move (by decide) rfl ?_
    refine wl_assign (by decide) rfl ?_
    refine wl_nil ?_
    refine wk_norm ?_
    refine wc_ret ?_
    refine wk_post1 (.inl rfl) Try.results24 rfl ?_
    exact ⟨_, rfl, A, c, H, by rw [hHl], (hp.outR (i := 0) (by rw [hHl]; rfl) hR hFU), hp.chg, ⟨by omega, htm, hok⟩⟩

end Go.Proofs.Ytnlpibfdobinoaa
