/- Lnw (printed by program: wip/gen) -/
import Derived.Test.YtnlpibfdobinoaaLnv
namespace Go.Proofs.Ytnlpibfdobinoaa
open Go.RowKit Go.Eng

section
variable {α : Type} {r : Rep α} {w w0 : World} {M0 Fz : Nat → Prop} {F : List It}
theorem flat_el : ∀ (rows : List (List Value)) (k j : Nat) (cs : List Value), (∀ x ∈ rows, x.length = k) → rows[j]? = some cs → (rows.flatten.drop (j * k)).take k = cs
  | [], _, _, _, _, h => by simp at h
  | x :: t, k, 0, cs, hl, h => by
    simp only [List.getElem?_cons_zero, Option.some.injEq] at h
    subst h
    have hx := hl x (by simp)
    simp [← hx]
  | x :: t, k, j + 1, cs, hl, h => by
    have hx := hl x (by simp)
    have ih := flat_el t k j cs (fun y hy => hl y (by simp [hy])) (by simpa using h)
    rw [List.flatten_cons, Nat.succ_mul, show j * k + k = x.length + j * k by omega, List.drop_length_add_append]
    exact ih
theorem rowPut {rows : List (List Value)} {k j o : Nat} {cs vs : List Value} (hrj : rows[j]? = some cs) (hl : ∀ x ∈ rows, x.length = k) (hv : o + vs.length ≤ k) : putL rows.flatten (j * k + o) vs = (rows.set j (putL cs o vs)).flatten := by
  obtain ⟨hj, rfl⟩ := List.getElem?_eq_some_iff.1 hrj
  exact putL_flat rows k j o vs hj hl hv
theorem _root_.Go.Eng.HP.gsRow (h : HP w0 M0 Fz w F) {i e c n : Nat} {A : Option Addr} {rows : List (List Value)} {l : List α} (hi : F[i]? = some (itR e r.size A n c rows.flatten)) (hr : RF r Fz w rows l) (hn : n = l.length) : GS r (fun _ => True) w A c l := by
  subst hn
  obtain ⟨K, ⟨ho, hK⟩, hF, _⟩ := h.focus hi
  have hO : OutR r (fun _ => True) e 0 w A c l := ⟨rows, ho, hr.1, fun j hj => by
    obtain ⟨cs, h1, h2⟩ := hr.2 j hj
    exact ⟨cs, h1, r.mono (fun b _ hb => ⟨trivial, fun hc hbl => hF b ((hK b).2 ⟨hc, hbl⟩) hb⟩) h2⟩⟩
  exact hO.gs.any
theorem _root_.Go.Eng.HP.rowEl (h : HP w0 M0 Fz w F) {i e c n : Nat} {A : Option Addr} {rows : List (List Value)} {l : List α} (hi : F[i]? = some (itR e r.size A n c rows.flatten)) (hr : RF r Fz w rows l) (j : Nat) (hj : j < l.length) (hn : n = l.length) :
    ∃ g cs, A = some ⟨g, 0, none⟩ ∧ rows[j]? = some cs ∧ AtF (fun _ => True) w ((⟨g, 0, none⟩ : Addr).add (j * r.size)) cs ∧ r.rd Fz w cs l[j] := by
  obtain ⟨cs, h1, h2⟩ := hr.2 j hj
  obtain ⟨g, hA, hat⟩ := (h.rowAt hi).el j (by omega)
  rw [flat_el rows r.size j cs hr.lens h1] at hat
  exact ⟨g, cs, hA, h1, hat, h2⟩
theorem _root_.Go.Eng.OutR.ownR {S : Nat → Prop} {e lo c : Nat} {A : Option Addr} {l : List α} (h : OutR r S e lo w A c l) : OwnR r e lo w A c l := by
  obtain ⟨rows, ho, hr⟩ := h.ex
  refine ⟨rows, ho, hr.1, fun i hi => ?_⟩
  obtain ⟨cs, h1, h2⟩ := hr.2 i hi
  have hc : c ≠ 0 := by have := ho.le; omega
  exact ⟨cs, h1, r.mono (fun b _ hb => hb.2 hc) h2⟩
def SP.ownR (r : Rep α) (e lo : Nat) (l : List α) : SP := ⟨fun v w => ∃ A c, v = .slice A l.length c ∧ OwnR r e lo w A c l, by rintro v w w' hE ⟨A, c, h1, h2⟩; exact ⟨A, c, h1, h2.ext hE⟩⟩
theorem _root_.Go.Eng.RF.erase {rows : List (List Value)} {l : List α} (h : RF r Fz w rows l) (j : Nat) (hj : j < l.length) : RF r Fz w (rows.eraseIdx j) (l.eraseIdx j) := by
  have hlr := h.1
  refine ⟨by rw [List.length_eraseIdx, List.length_eraseIdx, h.1], fun i hi => ?_⟩
  rw [List.length_eraseIdx, if_pos hj] at hi
  by_cases e : i < j
  · obtain ⟨cs, h1, h2⟩ := h.2 i (by omega)
    exact ⟨cs, by rw [List.getElem?_eraseIdx, if_pos e]; exact h1, by rw [List.getElem_eraseIdx_of_lt (h' := e)]; exact h2⟩
  · obtain ⟨cs, h1, h2⟩ := h.2 (i + 1) (by omega)
    exact ⟨cs, by rw [List.getElem?_eraseIdx, if_neg e]; exact h1, by rw [List.getElem_eraseIdx_of_ge (h' := by omega)]; exact h2⟩
theorem flat_erase : ∀ (rows : List (List Value)) (k j : Nat), (∀ x ∈ rows, x.length = k) → j < rows.length → rows.flatten.take (j * k) ++ rows.flatten.drop ((j + 1) * k) = (rows.eraseIdx j).flatten
  | [], _, _, _, h => by simp at h
  | x :: t, k, 0, hl, h => by
    have hx := hl x (by simp)
    simp [← hx]
  | x :: t, k, j + 1, hl, h => by
    have hx := hl x (by simp)
    have ih := flat_erase t k j (fun y hy => hl y (by simp [hy])) (by simpa using h)
    have e1 : (j + 1) * k = x.length + j * k := by rw [Nat.succ_mul]; omega
    rw [List.eraseIdx_cons_succ, List.flatten_cons, List.flatten_cons, show (j + 1 + 1) * k = x.length + (j + 1) * k by rw [Nat.succ_mul (j + 1)]; omega, List.drop_length_add_append, ← ih, e1, List.take_length_add_append, List.append_assoc]
end
section
variable {P : Program} {n : Nat} {L : List (Nat × Value)} {w : World} {Q : Exit → Act → World → Prop} {ops : Array Oper} {rest : List Oper} {ty : TypeId} {pos : String} {af : Array Edge} {d : Nat}
/-- 's[j:]', what it reads left aside. -/
theorem wl_after {A : Option Addr} {c t e size bytes m : Nat} {x lo : Operand} {k : IntKind} {i : Int} (hd : d < n) (hT : slB P t e size bytes = true)
    (hx : ev L x = some (.slice A m c)) (hi : ev L lo = some (.int k i)) (j : Nat) (hj : i = (j : Int)) (hle : j ≤ m)
    (h : WL P n ops Q rest ((d, .slice (if c = j then A else A.map (·.add (j * size))) (m - j) (c - j)) :: L) w) :
    WL P n ops Q ({ dst := some d, op := .slice t x (some lo) none none, type := ty, pos := pos, after := af, guard := none } :: rest) L w := by
  subst hj
  refine wl_run hd (fun a ha => ?_) h
  simp [execOp, ha.eval hx, ha.eval hi, run_cut_lo w hT j k hle]
end
/-- Numbers of 64 bits. -/
def opGood (x : HOp) : Prop := -9223372036854775808 ≤ x.b ∧ x.b ≤ 9223372036854775807 ∧ -9223372036854775808 ≤ x.e ∧ x.e ≤ 9223372036854775807
theorem hop_set {H : List HOp} {j : Nat} {x : HOp} (hj : j < H.length) (i : Nat) : hop (H.set j x) i = if i = j then x else hop H i := by
  unfold hop
  rw [List.getD_eq_getElem?_getD, List.getD_eq_getElem?_getD]
  by_cases e : i = j
  · subst e; rw [List.getElem?_set_self hj, if_pos rfl]; rfl
  · rw [List.getElem?_set_ne (Ne.symm e), if_neg e]
theorem bad_hop {H : List HOp} (h : chkH H = 0) {j : Nat} (hj : j < H.length) : 1 ≤ (hop H j).b ∧ ((hop H j).e = 0 ∨ (hop H j).b < (hop H j).e) := by
  have := ((chkH_zero H).1 h).2 (hop H j) (by rw [hop_get H hj]; exact List.getElem_mem hj)
  simp only [badOp, decide_eq_false_iff_not] at this
  omega
theorem set_ok {H : List HOp} {f : List UInt8} {j : Nat} {x : HOp} (hc : chkH H = 0) (hl : linB H f = true) (hj : j < H.length) (h1 : x.wr = (hop H j).wr) (h2 : x.val = (hop H j).val) (h3 : 1 ≤ x.b) (h4 : x.b ≤ (hop H j).b)
    (h5 : x.e = 0 ∨ (0 < (hop H j).e ∧ (hop H j).e ≤ x.e)) : chkH (H.set j x) = 0 ∧ linB (H.set j x) f = true := by
  have hb := bad_hop hc hj
  have hc' := (chkH_zero H).1 hc
  refine ⟨(chkH_zero _).2 ⟨by rw [List.length_set]; exact hc'.1, fun y hy => ?_⟩, lin_mono f (by rw [List.length_set]) (fun i => ?_) (fun i k hi hk h => ?_) (fun k hk h => ?_) hl⟩
  · rcases List.mem_or_eq_of_mem_set hy with h | rfl
    · exact hc'.2 y h
    · simp only [badOp, decide_eq_false_iff_not]
      omega
  · rw [hop_set hj]
    split
    · subst_vars; exact ⟨h1, h2⟩
    · exact ⟨rfl, rfl⟩
  · unfold ahd at h ⊢
    rw [decide_eq_true_eq] at h ⊢
    rw [hop_set hj, hop_set hj] at h
    split at h <;> split at h <;> subst_vars <;> omega
  · rw [hop_set hj] at h
    split at h <;> subst_vars <;> omega
theorem erase_ok {H : List HOp} {f : List UInt8} {j : Nat} (hc : chkH H = 0) (hl : linB H f = true) (hj : j < H.length) (h1 : (hop H j).wr = false) : chkH (H.eraseIdx j) = 0 ∧ linB (H.eraseIdx j) f = true := by
  have hc' := (chkH_zero H).1 hc
  refine ⟨(chkH_zero _).2 ⟨?_, fun y hy => hc'.2 y (List.mem_of_mem_eraseIdx hy)⟩, lin_erase f hj h1 hl⟩
  rw [List.length_eraseIdx]
  split <;> omega
theorem erase_len {H : List HOp} {j : Nat} (hj : j < H.length) : (H.eraseIdx j).length = j + (H.length - (j + 1)) := by
  rw [List.length_eraseIdx, if_pos hj]
  omega
theorem made_ok2 {n : Nat} {H : List HOp} (h : MadeH n H) : chkH H = 0 ∧ linB H [0] = true := by
  refine ⟨(chkH_zero H).2 ⟨by have := h.len; omega, fun y hy => ?_⟩, seq_lin H [0] h.ok (fun i k hik hk hx => ?_)⟩
  · obtain ⟨i, hi, rfl⟩ := List.mem_iff_getElem.1 hy
    have := h.tm i hi
    rw [hop_get H hi] at this
    simp only [badOp, decide_eq_false_iff_not]
    omega
  · have h1 := h.tm i (by omega)
    have h2 := h.tm k hk
    omega

theorem lineLater_ok {A : Option Addr} {c : Nat} {H : List HOp} {n1 n2 : Int} {S : Nat → Prop} {w : World} (h : HS S w A c H) (hgood : ∀ x ∈ H, opGood x) (lo1 : -9223372036854775808 ≤ n1) (hi1 : n1 ≤ 9223372036854775807) (lo4 : -9223372036854775808 ≤ n2) (hi4 : n2 ≤ 9223372036854775807) : Ret Try.prog 7 #[.slice A H.length c, .int .i64 n1, .int .i64 n2] w (fun v w' => v = .bool true ∧ Ext w w') := by
  refine ret_of_wk Try.func7 rfl Try.ntmps7 (Nat.le_of_ble_eq_true rfl) ?_
  have hp := HP.begin_ w
  replace h := h.now
  refine wc_seq ?_
  refine wc_region ?_
  refine wl_assign (by decide) rfl ?_
  refine wl_nil ?_
  refine wk_norm ?_
  refine wc_seq ?_
  refine wc_seq ?_
  refine wc_region ?_
  refine wl_call (by decide) Try.cl16 rfl (works28_ok) ?_
  rintro _ w1 ⟨rfl, hE1⟩
  replace h := h.ext hE1
  replace hp := hp.ext hE1
  first | refine wl_notd (by decide) rfl ?_ | refine wl_not (by decide) rfl ?_
  refine wl_nil ?_
  refine wk_norm ?_
  refine wc_cond_f rfl ?_
  refine wc_skip ?_
  refine wk_norm ?_
  refine wc_seq ?_
  refine wc_region ?_
  refine wl_bsliceB (xs := [.const (.int .u8 0)]) (bs := [0]) (by decide) Try.sl23 rfl rfl rfl (by simp) _ (Nat.le_refl _) ?_
  rintro gt wt hgt hot hEt
  replace hot := hot.bs
  have hsz2 := hp.chg.size
  obtain ⟨Fz2, hp2, hsub2, hnew2, hup2⟩ := hp.frz hEt
  replace hp := hp2
  replace h := (h.ext hEt).wid hsub2
  replace hot := hot.frz hnew2
  refine wl_assign (by decide) rfl ?_
  refine wl_nil ?_
  refine wk_norm ?_
  refine wc_seq ?_
  refine wc_region ?_
  refine wl_move (by decide) rfl ?_
  refine wl_move (by decide) rfl ?_
  have hcl := plinear_ok h hot
  refine wl_call (by decide) Try.cl19 rfl hcl ?_
  clear hcl
  rintro _ w3 ⟨rfl, hE3⟩
  replace h := h.ext hE3
  replace hot := hot.ext hE3
  replace hp := hp.ext hE3
  refine wl_move (by decide) rfl ?_
  refine wl_extract (by decide) rfl rfl ?_
  refine wl_extract (by decide) rfl rfl ?_
  refine wl_assign (by decide) rfl ?_
  refine wl_assign (by decide) rfl ?_
  refine wl_nil ?_
  refine wk_norm ?_
  refine wc_seq ?_
  refine wc_seq ?_
  refine wc_region ?_
  refine wl_move (by decide) rfl ?_
  refine wl_neq (by decide) rfl rfl ?_
  refine wl_move (by decide) rfl ?_
  refine wl_gsplit (dj := 24) rfl (fun he => ?_) (fun he => ?_)
  ·
    try replace he := of_decide_eq_true he
    refine wl_gno (by decide) rfl rfl (.inl rfl) ?_
    refine wl_gno (by decide) rfl rfl (.inl rfl) ?_
    refine wl_pick (by decide) rfl rfl ?_
    refine wl_move (by decide) rfl ?_
    refine wl_gno (by decide) rfl rfl (.inl rfl) ?_
    refine wl_gno (by decide) rfl rfl (.inl rfl) ?_
    refine wl_gno (by decide) rfl rfl (.inl rfl) ?_
    refine wl_pick (by decide) rfl rfl ?_
    refine wl_nil ?_
    refine wk_norm ?_
    refine wc_cond_t rfl ?_
    refine wc_seq ?_
    refine wc_region ?_
    refine wl_assign (by decide) rfl ?_
    refine wl_nil ?_
    refine wk_norm ?_
    refine wc_ret ?_
    refine wk_then_ret ?_
    refine wk_post1 (.inl rfl) Try.results7 rfl ?_
    exact ⟨_, rfl, rfl, hp.chg⟩
  ·
    try replace he := of_decide_eq_false he
    have hck : chkH H = 0 := by rw [← ordS_err H [0]]; exact Decidable.not_not.1 he
    refine wl_gyes rfl rfl ?_
    refine wl_move (by decide) rfl ?_
    refine wl_gyes rfl rfl ?_
    first | refine wl_notd (by decide) rfl ?_ | refine wl_not (by decide) rfl ?_
    refine wl_pick (by decide) rfl rfl ?_
    refine wl_move (by decide) rfl ?_
    refine wl_gsplit (dj := 28) rfl (fun his => ?_) (fun his => ?_)
    ·
      try replace his := of_decide_eq_true his
      refine wl_gno (by decide) rfl rfl (.inl rfl) ?_
      refine wl_gno (by decide) rfl rfl (.inl rfl) ?_
      refine wl_gno (by decide) rfl rfl (.inl rfl) ?_
      refine wl_pick (by decide) rfl rfl ?_
      refine wl_nil ?_
      refine wk_norm ?_
      refine wc_cond_t rfl ?_
      refine wc_seq ?_
      refine wc_region ?_
      refine wl_assign (by decide) rfl ?_
      refine wl_nil ?_
      refine wk_norm ?_
      refine wc_ret ?_
      refine wk_then_ret ?_
      refine wk_post1 (.inl rfl) Try.results7 rfl ?_
      exact ⟨_, rfl, rfl, hp.chg⟩
    ·
      try replace his := of_decide_eq_false his
      replace his : (ordS H [0]).2.1 = true := by simpa using his
      have hlin := his
      rw [ordS_is hck] at hlin
      refine wl_gyes rfl rfl ?_
      refine wl_move (by decide) rfl ?_
      refine wl_gyes rfl rfl ?_
      refine wl_len (by decide) Try.underlying22 rfl ?_
      refine wl_gyes rfl rfl ?_
      refine wl_eql (by decide) rfl rfl ?_
      refine wl_pick (by decide) rfl rfl ?_
      refine wl_nil ?_
      refine wk_norm ?_
      refine wc_cond rfl (fun h0 => ?_) (fun h0 => ?_)
      ·
        try replace h0 := of_decide_eq_true h0
        refine wc_seq ?_
        refine wc_region ?_
        refine wl_assign (by decide) rfl ?_
        refine wl_nil ?_
        refine wk_norm ?_
        refine wc_ret ?_
        refine wk_then_ret ?_
        refine wk_post1 (.inl rfl) Try.results7 rfl ?_
        exact ⟨_, rfl, rfl, hp.chg⟩
      ·
        try replace h0 := of_decide_eq_false h0
        have hl14 := ((chkH_zero H).1 hck).1
        have hmx := h.mx
        refine wc_skip ?_
        refine wk_norm ?_
        refine wc_seq ?_
        refine wc_region ?_
        refine wl_move (by decide) rfl ?_
        refine wl_move (by decide) rfl ?_
        refine wl_len (by decide) Try.underlying22 rfl ?_
        refine wl_call (by decide) Try.cl25 rfl (bring_ok (by omega) (by omega) (by omega) (by omega)) ?_
        rintro _ _ ⟨rfl, rfl⟩
        refine wl_assign (by decide) rfl ?_
        have lo2 := brg_lo n1 (H.length : Int)
        have hi2 := brg_hi n1 (H.length : Int) (by omega)
        obtain ⟨j, hj⟩ : ∃ j : Nat, brg n1 (H.length : Int) = j := ⟨_, (Int.toNat_of_nonneg lo2).symm⟩
        rw [hj] at lo2 hi2 ⊢
        have hjl : j < H.length := by omega
        refine wl_nil ?_
        refine wk_norm ?_
        refine wc_seq ?_
        refine wc_region ?_
        refine wl_move (by decide) rfl ?_
        have hcl := copied_ok h (by omega)
        refine wl_call (by decide) Try.cl10 rfl hcl ?_
        clear hcl
        rintro _ w8 ⟨A8, c8, rfl, hO8, hE8⟩
        obtain ⟨Fz8, rows, hp8, hR, hs8, hu8⟩ := hp.outIn hE8 hO8
        obtain ⟨g8, _, rfl, _⟩ := hp8.rowEl (r := opR) (i := 0) rfl hR j hjl rfl
        replace h := (h.fz hE8.ext).wid hs8
        replace hot := (hot.fz hE8.ext).wid hs8
        replace hp := hp8
        refine wl_assign (by decide) rfl ?_
        refine wl_nil ?_
        refine wk_norm ?_
        refine wc_seq_cut (fun L' w' => ∃ (A7 : Option Addr), ∃ (c7 : Nat), ∃ (H2 : List HOp), L' = [(10, .slice A7 H2.length c7), (7, .slice (some ⟨gt, 0, none⟩) [(0 : UInt8)].length 1)] ∧ (Ext w w') ∧ (HS (fun _ => True) w' A7 c7 H2) ∧ (chkH H2 = 0) ∧ (linB H2 [0] = true) ∧ (BS (fun _ => True) w' (some ⟨gt, 0, none⟩) 1 [0])) (fun K hK => ?_) ?_
        ·
          refine wc_seq ?_
          refine wc_region ?_
          refine wl_move (by decide) rfl ?_
          refine wl_call (by decide) Try.cl25 rfl (bring_ok (by omega) (by omega) (by omega) (by omega)) ?_
          rintro _ _ ⟨rfl, rfl⟩
          have lo3 := brg_lo n2 4
          have hi3 := brg_hi n2 4 (by decide)
          have hbj := bad_hop hck hjl
          have hgj := hgood (hop H j) (by rw [hop_get H hjl]; exact List.getElem_mem hjl)
          obtain ⟨hg1, hg2, hg3, hg4⟩ := hgj
          obtain ⟨aL, BL, dL, hAL, hatL, hvL⟩ := HS.el h j hjl
          obtain ⟨_, _, e8, hrj, hatJ, BJ, dJ, rfl, hvJ⟩ := hp.rowEl (r := opR) (i := 0) rfl hR j hjl rfl
          cases e8
          rw [← hop_get H hjl] at hrj hatJ hvJ
          refine wl_nil ?_
          refine wk_norm ?_
          refine wc_block ?_
          refine wc_seq ?_
          refine wc_region ?_
          refine wl_eql (by decide) rfl rfl ?_
          refine wl_assign (by decide) rfl ?_
          refine wl_nil ?_
          refine wk_norm ?_
          refine wc_cond rfl (fun hc4 => ?_) (fun hc4 => ?_)
          ·
            try replace hc4 := of_decide_eq_true hc4
            refine wc_region ?_
            refine wl_move (by decide) rfl ?_
            refine wl_move (by decide) rfl ?_
            refine wl_idx0 (by decide) Try.sl22 rfl rfl rfl j rfl hjl ?_
            refine wl_fld (by decide) Try.fld45_3 rfl ?_
            refine wl_re (k := 67) (v := .pointer (some ⟨g8, j * 4 + 3, none⟩)) rfl (by rw [add_lit', add_lit', Nat.zero_add]) ?_
            refine wl_hstoreR (i := 0) (o := j * 4 + 3) rfl rfl hp rfl Try.sz3 rfl (by rw [flat_len rows 4 hR.lens, hR.1]; show _ + 1 ≤ _; omega) (show (1 : Nat) ≠ 0 by decide) (List.all_eq_true.1 rfl) ?_
            rintro w9 hp9 hC9
            replace hp9 : HP w (fun _ => False) Fz8 w9 [itR 45 opR.size (some ⟨g8, 0, none⟩) H.length c8 (rows.set j [.bool (hop H j).wr, .slice BJ (hop H j).val.length dJ, .int .i64 (hop H j).b, .int .i64 0]).flatten] := by
              have e9 : putL rows.flatten (j * 4 + 3) [.int .i64 0] = (rows.set j [.bool (hop H j).wr, .slice BJ (hop H j).val.length dJ, .int .i64 (hop H j).b, .int .i64 0]).flatten := rowPut hrj hR.lens (show 3 + 1 ≤ 4 by decide)
              rw [← e9]; exact hp9
            have hv9 := hvJ.fz hC9
            replace h := h.fz hC9
            replace hot := hot.fz hC9
            replace hR := hR.fz hC9
            replace hp := hp9
            have hHn : HS (fun _ => True) w9 _ c8 (H.set j ⟨(hop H j).wr, (hop H j).val, (hop H j).b, 0⟩) := hp.gsRow (r := opR) (i := 0) rfl (hR.set j (cs := [.bool (hop H j).wr, .slice BJ (hop H j).val.length dJ, .int .i64 (hop H j).b, .int .i64 0]) ⟨_, _, rfl, hv9⟩) (by rw [List.length_set])
            have hpl := set_ok (x := ⟨(hop H j).wr, (hop H j).val, (hop H j).b, 0⟩) hck hlin hjl rfl rfl hbj.1 (Int.le_refl _) (.inl rfl)
            refine wl_nil ?_
            refine wk_blk_norm ?_
            refine wk_norm ?_
            refine wk_drop [(10, .slice _ (H.set j ⟨(hop H j).wr, (hop H j).val, (hop H j).b, 0⟩).length _), (7, .slice (some ⟨gt, 0, none⟩) [(0 : UInt8)].length 1)] ⟨(by rw [List.length_set]; rfl), rfl, trivial⟩ (hK _ _ ?_)
            refine ⟨_, _, (H.set j ⟨(hop H j).wr, (hop H j).val, (hop H j).b, 0⟩), rfl, ?_, ?_, ?_, ?_, ?_⟩
            · exact hp.chg
            · exact hHn
            · exact hpl.1
            · exact hpl.2
            · exact hot.any
          ·
            try replace hc4 := of_decide_eq_false hc4
            refine wc_seq ?_
            refine wc_region ?_
            refine wl_eql (by decide) rfl rfl ?_
            refine wl_assign (by decide) rfl ?_
            refine wl_nil ?_
            refine wk_norm ?_
            refine wc_cond rfl (fun hc5 => ?_) (fun hc5 => ?_)
            ·
              try replace hc5 := of_decide_eq_true hc5
              refine wc_seq ?_
              refine wc_seq ?_
              refine wc_region ?_
              refine wl_move (by decide) rfl ?_
              refine wl_move (by decide) rfl ?_
              refine wl_idx0 (by decide) Try.sl22 rfl rfl rfl j rfl hjl ?_
              refine wl_fld (by decide) Try.fld45_3 rfl ?_
              refine wl_load (by decide) Try.sc3 rfl (hatJ.get rfl) ?_
              refine wl_eql (by decide) rfl rfl ?_
              refine wl_move (by decide) rfl ?_
              refine wl_gsplit (dj := 76) rfl (fun hz0 => ?_) (fun hz0 => ?_)
              ·
                try replace hz0 := of_decide_eq_true hz0
                refine wl_gno (by decide) rfl rfl (.inl rfl) ?_
                refine wl_gno (by decide) rfl rfl (.inl rfl) ?_
                refine wl_gno (by decide) rfl rfl (.inl rfl) ?_
                refine wl_gno (by decide) rfl rfl (.inl rfl) ?_
                refine wl_gno (by decide) rfl rfl (.inl rfl) ?_
                refine wl_gno (by decide) rfl rfl (.inl rfl) ?_
                refine wl_pick (by decide) rfl rfl ?_
                refine wl_nil ?_
                refine wk_norm ?_
                refine wc_cond_t rfl ?_
                refine wc_seq ?_
                refine wc_region ?_
                refine wl_assign (by decide) rfl ?_
                refine wl_nil ?_
                refine wk_norm ?_
                refine wc_ret ?_
                refine wk_then_ret ?_
                refine wk_blk_ret ?_
                refine wk_then_ret ?_
                refine wk_post1 (.inl rfl) Try.results7 rfl ?_
                exact ⟨_, rfl, rfl, hp.chg⟩
              ·
                try replace hz0 := of_decide_eq_false hz0
                refine wl_gyes rfl rfl ?_
                refine wl_move (by decide) rfl ?_
                refine wl_gyes rfl rfl ?_
                refine wl_move (by decide) rfl ?_
                refine wl_gyes rfl rfl ?_
                refine wl_idx0 (by decide) Try.sl22 rfl rfl rfl j rfl hjl ?_
                refine wl_gyes rfl rfl ?_
                refine wl_fld (by decide) Try.fld45_3 rfl ?_
                refine wl_gyes rfl rfl ?_
                refine wl_load (by decide) Try.sc3 rfl (hatJ.get rfl) ?_
                refine wl_gyes rfl rfl ?_
                refine wl_eql (by decide) rfl rfl ?_
                refine wl_pick (by decide) rfl rfl ?_
                refine wl_nil ?_
                refine wk_norm ?_
                refine wc_cond rfl (fun hmx1 => ?_) (fun hmx1 => ?_)
                ·
                  try replace hmx1 := of_decide_eq_true hmx1
                  refine wc_seq ?_
                  refine wc_region ?_
                  refine wl_assign (by decide) rfl ?_
                  refine wl_nil ?_
                  refine wk_norm ?_
                  refine wc_ret ?_
                  refine wk_then_ret ?_
                  refine wk_blk_ret ?_
                  refine wk_then_ret ?_
                  refine wk_post1 (.inl rfl) Try.results7 rfl ?_
                  exact ⟨_, rfl, rfl, hp.chg⟩
                ·
                  try replace hmx1 := of_decide_eq_false hmx1
                  refine wc_skip ?_
                  refine wk_norm ?_
                  refine wc_region ?_
                  refine wl_move (by decide) rfl ?_
                  refine wl_move (by decide) rfl ?_
                  refine wl_move (by decide) rfl ?_
                  refine wl_move (by decide) rfl ?_
                  refine wl_idx0 (by decide) Try.sl22 rfl rfl rfl j rfl hjl ?_
                  refine wl_fld (by decide) Try.fld45_3 rfl ?_
                  refine wl_load (by decide) Try.sc3 rfl (hatJ.get rfl) ?_
                  refine wl_add (by decide) rfl rfl (w64 (by omega) (by omega)) ?_
                  refine wl_idx0 (by decide) Try.sl22 rfl rfl rfl j rfl hjl ?_
                  refine wl_fld (by decide) Try.fld45_3 rfl ?_
                  refine wl_re (k := 93) (v := .pointer (some ⟨g8, j * 4 + 3, none⟩)) rfl (by rw [add_lit', add_lit', Nat.zero_add]) ?_
                  refine wl_hstoreR (i := 0) (o := j * 4 + 3) rfl rfl hp rfl Try.sz3 rfl (by rw [flat_len rows 4 hR.lens, hR.1]; show _ + 1 ≤ _; omega) (show (1 : Nat) ≠ 0 by decide) (List.all_eq_true.1 rfl) ?_
                  rintro w9 hp9 hC9
                  replace hp9 : HP w (fun _ => False) Fz8 w9 [itR 45 opR.size (some ⟨g8, 0, none⟩) H.length c8 (rows.set j [.bool (hop H j).wr, .slice BJ (hop H j).val.length dJ, .int .i64 (hop H j).b, .int .i64 ((hop H j).e + 1)]).flatten] := by
                    have e9 : putL rows.flatten (j * 4 + 3) [.int .i64 ((hop H j).e + 1)] = (rows.set j [.bool (hop H j).wr, .slice BJ (hop H j).val.length dJ, .int .i64 (hop H j).b, .int .i64 ((hop H j).e + 1)]).flatten := rowPut hrj hR.lens (show 3 + 1 ≤ 4 by decide)
                    rw [← e9]; exact hp9
                  have hv9 := hvJ.fz hC9
                  replace h := h.fz hC9
                  replace hot := hot.fz hC9
                  replace hR := hR.fz hC9
                  replace hp := hp9
                  have hHn : HS (fun _ => True) w9 _ c8 (H.set j ⟨(hop H j).wr, (hop H j).val, (hop H j).b, ((hop H j).e + 1)⟩) := hp.gsRow (r := opR) (i := 0) rfl (hR.set j (cs := [.bool (hop H j).wr, .slice BJ (hop H j).val.length dJ, .int .i64 (hop H j).b, .int .i64 ((hop H j).e + 1)]) ⟨_, _, rfl, hv9⟩) (by rw [List.length_set])
                  have hpl := set_ok (x := ⟨(hop H j).wr, (hop H j).val, (hop H j).b, ((hop H j).e + 1)⟩) hck hlin hjl rfl rfl hbj.1 (Int.le_refl _) (.inr ⟨by omega, by show _ ≤ (hop H j).e + 1; omega⟩)
                  refine wl_nil ?_
                  refine wk_blk_norm ?_
                  refine wk_norm ?_
                  refine wk_drop [(10, .slice _ (H.set j ⟨(hop H j).wr, (hop H j).val, (hop H j).b, ((hop H j).e + 1)⟩).length _), (7, .slice (some ⟨gt, 0, none⟩) [(0 : UInt8)].length 1)] ⟨(by rw [List.length_set]; rfl), rfl, trivial⟩ (hK _ _ ?_)
                  refine ⟨_, _, (H.set j ⟨(hop H j).wr, (hop H j).val, (hop H j).b, ((hop H j).e + 1)⟩), rfl, ?_, ?_, ?_, ?_, ?_⟩
                  · exact hp.chg
                  · exact hHn
                  · exact hpl.1
                  · exact hpl.2
                  · exact hot.any
            ·
              try replace hc5 := of_decide_eq_false hc5
              refine wc_seq ?_
              refine wc_region ?_
              refine wl_eql (by decide) rfl rfl ?_
              refine wl_assign (by decide) rfl ?_
              refine wl_nil ?_
              refine wk_norm ?_
              refine wc_cond rfl (fun hc8 => ?_) (fun hc8 => ?_)
              ·
                try replace hc8 := of_decide_eq_true hc8
                refine wc_region ?_
                refine wl_move (by decide) rfl ?_
                refine wl_move (by decide) rfl ?_
                refine wl_idx0 (by decide) Try.sl22 rfl rfl rfl j rfl hjl ?_
                refine wl_fld (by decide) Try.fld45_2 rfl ?_
                refine wl_re (k := 99) (v := .pointer (some ⟨g8, j * 4 + 2, none⟩)) rfl (by rw [add_lit', add_lit', Nat.zero_add]) ?_
                refine wl_hstoreR (i := 0) (o := j * 4 + 2) rfl rfl hp rfl Try.sz3 rfl (by rw [flat_len rows 4 hR.lens, hR.1]; show _ + 1 ≤ _; omega) (show (1 : Nat) ≠ 0 by decide) (List.all_eq_true.1 rfl) ?_
                rintro w9 hp9 hC9
                replace hp9 : HP w (fun _ => False) Fz8 w9 [itR 45 opR.size (some ⟨g8, 0, none⟩) H.length c8 (rows.set j [.bool (hop H j).wr, .slice BJ (hop H j).val.length dJ, .int .i64 1, .int .i64 (hop H j).e]).flatten] := by
                  have e9 : putL rows.flatten (j * 4 + 2) [.int .i64 1] = (rows.set j [.bool (hop H j).wr, .slice BJ (hop H j).val.length dJ, .int .i64 1, .int .i64 (hop H j).e]).flatten := rowPut hrj hR.lens (show 2 + 1 ≤ 4 by decide)
                  rw [← e9]; exact hp9
                have hv9 := hvJ.fz hC9
                replace h := h.fz hC9
                replace hot := hot.fz hC9
                replace hR := hR.fz hC9
                replace hp := hp9
                have hHn : HS (fun _ => True) w9 _ c8 (H.set j ⟨(hop H j).wr, (hop H j).val, 1, (hop H j).e⟩) := hp.gsRow (r := opR) (i := 0) rfl (hR.set j (cs := [.bool (hop H j).wr, .slice BJ (hop H j).val.length dJ, .int .i64 1, .int .i64 (hop H j).e]) ⟨_, _, rfl, hv9⟩) (by rw [List.length_set])
                have hpl := set_ok (x := ⟨(hop H j).wr, (hop H j).val, 1, (hop H j).e⟩) hck hlin hjl rfl rfl (Int.le_refl _) hbj.1 (by have := hbj.2; show (hop H j).e = 0 ∨ (0 < (hop H j).e ∧ (hop H j).e ≤ (hop H j).e); omega)
                refine wl_nil ?_
                refine wk_blk_norm ?_
                refine wk_norm ?_
                refine wk_drop [(10, .slice _ (H.set j ⟨(hop H j).wr, (hop H j).val, 1, (hop H j).e⟩).length _), (7, .slice (some ⟨gt, 0, none⟩) [(0 : UInt8)].length 1)] ⟨(by rw [List.length_set]; rfl), rfl, trivial⟩ (hK _ _ ?_)
                refine ⟨_, _, (H.set j ⟨(hop H j).wr, (hop H j).val, 1, (hop H j).e⟩), rfl, ?_, ?_, ?_, ?_, ?_⟩
                · exact hp.chg
                · exact hHn
                · exact hpl.1
                · exact hpl.2
                · exact hot.any
              ·
                try replace hc8 := of_decide_eq_false hc8
                refine wc_seq ?_
                refine wc_seq ?_
                refine wc_region ?_
                refine wl_move (by decide) rfl ?_
                refine wl_move (by decide) rfl ?_
                refine wl_idx0 (by decide) Try.sl22 rfl rfl hAL j rfl hjl ?_
                refine wl_fld (by decide) Try.fld45_0 rfl ?_
                refine wl_load (by decide) Try.sc4 rfl (hatL.get rfl) ?_
                refine wl_move (by decide) rfl ?_
                refine wl_gsplit (dj := 46) rfl (fun hrd => ?_) (fun hrd => ?_)
                ·
                  try replace hrd := of_decide_eq_true hrd
                  refine wl_gno (by decide) rfl rfl (.inl rfl) ?_
                  refine wl_gno (by decide) rfl rfl (.inl rfl) ?_
                  refine wl_gno (by decide) rfl rfl (.inl rfl) ?_
                  refine wl_gno (by decide) rfl rfl (.inl rfl) ?_
                  refine wl_gno (by decide) rfl rfl (.inl rfl) ?_
                  refine wl_gno (by decide) rfl rfl (.inl rfl) ?_
                  refine wl_pick (by decide) rfl rfl ?_
                  refine wl_nil ?_
                  refine wk_norm ?_
                  refine wc_cond_t rfl ?_
                  refine wc_seq ?_
                  refine wc_region ?_
                  refine wl_assign (by decide) rfl ?_
                  refine wl_nil ?_
                  refine wk_norm ?_
                  refine wc_ret ?_
                  refine wk_then_ret ?_
                  refine wk_blk_ret ?_
                  refine wk_then_ret ?_
                  refine wk_post1 (.inl rfl) Try.results7 rfl ?_
                  exact ⟨_, rfl, rfl, hp.chg⟩
                ·
                  try replace hrd := of_decide_eq_false hrd
                  refine wl_gyes rfl rfl ?_
                  refine wl_move (by decide) rfl ?_
                  refine wl_gyes rfl rfl ?_
                  refine wl_move (by decide) rfl ?_
                  refine wl_gyes rfl rfl ?_
                  refine wl_idx0 (by decide) Try.sl22 rfl rfl hAL j rfl hjl ?_
                  refine wl_gyes rfl rfl ?_
                  refine wl_fld (by decide) Try.fld45_3 rfl ?_
                  refine wl_gyes rfl rfl ?_
                  refine wl_load (by decide) Try.sc3 rfl (hatL.get rfl) ?_
                  refine wl_gyes rfl rfl ?_
                  refine wl_gtr (by decide) rfl rfl ?_
                  refine wl_pick (by decide) rfl rfl ?_
                  refine wl_nil ?_
                  refine wk_norm ?_
                  refine wc_cond rfl (fun hgt0 => ?_) (fun hgt0 => ?_)
                  ·
                    try replace hgt0 := of_decide_eq_true hgt0
                    refine wc_seq ?_
                    refine wc_region ?_
                    refine wl_assign (by decide) rfl ?_
                    refine wl_nil ?_
                    refine wk_norm ?_
                    refine wc_ret ?_
                    refine wk_then_ret ?_
                    refine wk_blk_ret ?_
                    refine wk_then_ret ?_
                    refine wk_post1 (.inl rfl) Try.results7 rfl ?_
                    exact ⟨_, rfl, rfl, hp.chg⟩
                  ·
                    try replace hgt0 := of_decide_eq_false hgt0
                    refine wc_skip ?_
                    refine wk_norm ?_
                    apply wc_drawTL 7 [SP.eq _, SP.eq _, SP.eq (.slice (some ⟨g8, 0, none⟩) j c8), SP.eq _, SP.eq _, SP.eq _, SP.eq (.slice (if c8 = j + 1 then some ⟨g8, 0, none⟩ else some ((⟨g8, 0, none⟩ : Addr).add ((j + 1) * 4))) (H.length - (j + 1)) (c8 - (j + 1)))] (by kernel_rfl) (by kernel_rfl)
                    · refine ⟨?_, ?_, ?_, ?_, ?_, ?_, ?_, trivial⟩
                      ·
                        intro F wF hER hk
                        have e10 := hk.init 10 _ rfl (by kernel_rfl)
                        refine wl_move (by decide) e10 ?_
                        exact wl_nil (qr_some ⟨Chg.refl _ _, rfl⟩)
                      ·
                        intro F wF hER hk
                        have e1 := hk.init 1 _ rfl (by kernel_rfl)
                        refine wl_move (by decide) e1 ?_
                        exact wl_nil (qr_some ⟨Chg.refl _ _, rfl⟩)
                      ·
                        intro F wF hER hk
                        obtain ⟨u54, e54, h54⟩ := hk.pred 0 (by kernel_rfl) 54 rfl
                        obtain rfl := h54
                        obtain ⟨u55, e55, h55⟩ := hk.pred 1 (by kernel_rfl) 55 rfl
                        obtain rfl := h55
                        refine wl_upto (by decide) Try.sl22 e54 e55 j rfl (by have := (hp.rowAt (i := 0) rfl).le; omega) ?_
                        exact wl_nil (qr_some ⟨Chg.refl _ _, rfl⟩)
                      ·
                        intro F wF hER hk
                        have e10 := hk.init 10 _ rfl (by kernel_rfl)
                        refine wl_move (by decide) e10 ?_
                        exact wl_nil (qr_some ⟨Chg.refl _ _, rfl⟩)
                      ·
                        intro F wF hER hk
                        have e1 := hk.init 1 _ rfl (by kernel_rfl)
                        refine wl_move (by decide) e1 ?_
                        exact wl_nil (qr_some ⟨Chg.refl _ _, rfl⟩)
                      ·
                        intro F wF hER hk
                        obtain ⟨u58, e58, h58⟩ := hk.pred 4 (by kernel_rfl) 58 rfl
                        obtain rfl := h58
                        refine wl_add (by decide) e58 rfl (w64 (by omega) (by omega)) ?_
                        exact wl_nil (qr_some ⟨Chg.refl _ _, rfl⟩)
                      ·
                        intro F wF hER hk
                        obtain ⟨u57, e57, h57⟩ := hk.pred 3 (by kernel_rfl) 57 rfl
                        obtain rfl := h57
                        obtain ⟨u59, e59, h59⟩ := hk.pred 5 (by kernel_rfl) 59 rfl
                        obtain rfl := h59
                        refine wl_after (by decide) Try.sl22 e57 e59 (j + 1) rfl (by omega) ?_
                        exact wl_nil (qr_some ⟨Chg.refl _ _, rfl⟩)
                    ·
                      intro F wD hED hini hdo
                      have e7 := hini 7 _ rfl (by kernel_rfl)
                      obtain ⟨u56, e56, h56⟩ := hdo 2 56 (Nat.lt_of_lt_of_eq (by decide) rfl) rfl
                      obtain rfl := h56
                      obtain ⟨u60, e60, h60⟩ := hdo 6 60 (Nat.lt_of_lt_of_eq (by decide) rfl) rfl
                      obtain rfl := h60
                      refine wl_drop [(7, _), (56, _), (60, _)] ⟨e7, e56, e60, trivial⟩ ?_
                      clear e7 e56 e60 hini hdo
                      replace h := h.ext hED
                      replace hot := hot.ext hED
                      replace hR := hR.ext hED
                      replace hp := hp.ext hED
                      have hcut := hp.cutRow (i := 0) rfl j (by omega)
                      have hfl := flat_len rows 4 hR.lens
                      rw [hR.1] at hfl
                      refine wl_happend (i := 0) (m := H.length - (j + 1)) (news := rows.flatten.drop ((j + 1) * 4)) (by decide) Try.sl22 rfl rfl hcut rfl (by rw [List.length_drop, hfl]; omega) ?_ ?_ ?_ (by omega) ?_
                      · intro b hb
                        split at hb
                        · have : H.length = j + 1 := by have := (hp.rowAt (i := 0) rfl).le; omega
                          rw [List.drop_eq_nil_of_le (by rw [hfl, this]; exact Nat.le_refl _)]; exact At.nil _ _
                        · cases hb; exact ((hp.rowAt (i := 0) rfl).at_ rfl).drop _
                      · intro hb; split at hb <;> cases hb
                      · intro u hu
                        obtain ⟨x, hx, hu⟩ := List.mem_flatten.1 (List.mem_of_mem_drop hu)
                        obtain ⟨i, hi, rfl⟩ := List.mem_iff_getElem.1 hx
                        obtain ⟨cs, h1, h2⟩ := hR.2 i (by rw [← hR.1]; exact hi)
                        rw [List.getElem?_eq_getElem hi] at h1
                        rw [Option.some.inj h1] at hu
                        exact opR.one h2 u hu
                      rintro A9 c9 w9 hp9 hC9
                      replace h := h.fz hC9
                      replace hot := hot.fz hC9
                      replace hR := hR.fz hC9
                      replace hp := hp9
                      have hHn : HS (fun _ => True) w9 A9 c9 (H.eraseIdx j) := hp.gsRow (r := opR) (i := 0) (rows := rows.eraseIdx j) (by rw [← flat_erase rows 4 j hR.lens (by rw [hR.1]; exact hjl)]; rfl) (hR.erase j hjl) (erase_len hjl).symm
                      have hpl := erase_ok hck hlin hjl hrd
                      refine wl_assign (by decide) rfl ?_
                      refine wl_nil ?_
                      refine wk_blk_norm ?_
                      refine wk_norm ?_
                      refine wk_drop [(10, .slice _ (H.eraseIdx j).length _), (7, .slice (some ⟨gt, 0, none⟩) [(0 : UInt8)].length 1)] ⟨(by rw [erase_len hjl]; rfl), rfl, trivial⟩ (hK _ _ ?_)
                      refine ⟨_, _, (H.eraseIdx j), rfl, ?_, ?_, ?_, ?_, ?_⟩
                      · exact hp.chg
                      · exact hHn
                      · exact hpl.1
                      · exact hpl.2
                      · exact hot.any
        ·
          rintro _ wn ⟨A7, c7, H2, rfl, hEc, hH, hck2, hlin2, ho⟩
          refine wc_seq ?_
          refine wc_region ?_
          refine wl_move (by decide) rfl ?_
          refine wl_move (by decide) rfl ?_
          have hcl := plinear_ok hH ho
          refine wl_call (by decide) Try.cl19 rfl hcl ?_
          clear hcl
          rintro _ w6 ⟨rfl, hE6⟩
          replace hH := hH.ext hE6
          replace ho := ho.ext hE6
          replace hEc := hEc.trans hE6
          refine wl_move (by decide) rfl ?_
          refine wl_extract (by decide) rfl rfl ?_
          refine wl_extract (by decide) rfl rfl ?_
          refine wl_assign (by decide) rfl ?_
          refine wl_assign (by decide) rfl ?_
          refine wl_nil ?_
          refine wk_norm ?_
          refine wc_seq ?_
          refine wc_region ?_
          refine wl_move (by decide) rfl ?_
          refine wl_eql (by decide) rfl rfl ?_
          refine wl_re (k := 107) (v := .bool true) rfl (congrArg Value.bool (decide_eq_true (by rw [ordS_err]; exact hck2))) ?_
          refine wl_move (by decide) rfl ?_
          refine wl_gyes rfl rfl ?_
          refine wl_move (by decide) rfl ?_
          refine wl_pick (by decide) rfl rfl ?_
          refine wl_assign (by decide) rfl ?_
          refine wl_re (k := 6) (v := .bool true) rfl (congrArg Value.bool (by rw [ordS_is hck2]; exact hlin2)) ?_
          refine wl_nil ?_
          refine wk_norm ?_
          refine wc_ret ?_
          refine wk_post1 (.inl rfl) Try.results7 rfl ?_
          exact ⟨_, rfl, rfl, hEc⟩

theorem lineMade_ok {A : Option Addr} {c : Nat} {l : List Int} {n1 n2 : Int} {S : Nat → Prop} {w : World} (h : IS S w A c l) (hlm : ∀ x ∈ l, -9223372036854775808 ≤ x ∧ x ≤ 9223372036854775807) (lo1 : -9223372036854775808 ≤ n1) (hi1 : n1 ≤ 9223372036854775807) (lo4 : -9223372036854775808 ≤ n2) (hi4 : n2 ≤ 9223372036854775807) : Ret Try.prog 6 #[.slice A l.length c, .int .i64 n1, .int .i64 n2] w (fun v w' => v = .bool true ∧ Ext w w') := by
  refine ret_of_wk Try.func6 rfl Try.ntmps6 (Nat.le_of_ble_eq_true rfl) ?_
  have hp := HP.begin_ w
  replace h := h.now
  refine wc_seq ?_
  refine wc_region ?_
  refine wl_assign (by decide) rfl ?_
  refine wl_nil ?_
  refine wk_norm ?_
  refine wc_seq ?_
  refine wc_seq ?_
  refine wc_region ?_
  refine wl_call (by decide) Try.cl16 rfl (works28_ok) ?_
  rintro _ w1 ⟨rfl, hE1⟩
  replace h := h.ext hE1
  replace hp := hp.ext hE1
  first | refine wl_notd (by decide) rfl ?_ | refine wl_not (by decide) rfl ?_
  refine wl_nil ?_
  refine wk_norm ?_
  refine wc_cond_f rfl ?_
  refine wc_skip ?_
  refine wk_norm ?_
  refine wc_seq ?_
  refine wc_region ?_
  refine wl_move (by decide) rfl ?_
  have hcl := made_ok h hlm
  refine wl_call (by decide) Try.cl24 rfl hcl ?_
  clear hcl
  rintro _ w8 ⟨A8, c8, H, rfl, hO8, hE8, hM⟩
  obtain ⟨Fz8, rows, hp8, hR, hs8, hu8⟩ := hp.outIn hE8 hO8
  obtain ⟨hck, hlin⟩ := made_ok2 hM
  have hz2 : (ordS H [0]).2.2 = 0 := by rw [ordS_err]; exact hck
  have hz1 : (ordS H [0]).2.1 = true := by rw [ordS_is hck]; exact hlin
  have hl14 := ((chkH_zero H).1 hck).1
  replace h := (h.fz hE8.ext).wid hs8
  replace hp := hp8
  refine wl_assign (by decide) rfl ?_
  refine wl_nil ?_
  refine wk_norm ?_
  refine wc_seq ?_
  refine wc_region ?_
  refine wl_move (by decide) rfl ?_
  refine wl_bsliceB (xs := [.const (.int .u8 0)]) (bs := [0]) (by decide) Try.sl23 rfl rfl rfl (by simp) _ (Nat.le_refl _) ?_
  rintro g2 w2 _ hs2 hE2
  replace hs2 := hs2.bs.any
  replace h := h.ext hE2
  replace hR := hR.ext hE2
  replace hp := hp.ext hE2
  have hcl := plinear_ok (hp.gsRow (r := opR) (i := 0) rfl hR rfl) hs2
  refine wl_call (by decide) Try.cl19 rfl hcl ?_
  clear hcl
  rintro _ w9 ⟨rfl, hE9⟩
  replace h := h.ext hE9
  replace hR := hR.ext hE9
  replace hs2 := hs2.ext hE9
  replace hp := hp.ext hE9
  refine wl_move (by decide) rfl ?_
  refine wl_extract (by decide) rfl rfl ?_
  refine wl_re (k := 20) (v := .bool true) rfl (congrArg Value.bool hz1) ?_
  refine wl_extract (by decide) rfl rfl ?_
  refine wl_assign (by decide) rfl ?_
  refine wl_assign (by decide) rfl ?_
  refine wl_nil ?_
  refine wk_norm ?_
  refine wc_seq ?_
  refine wc_seq ?_
  refine wc_region ?_
  refine wl_move (by decide) rfl ?_
  refine wl_len (by decide) Try.underlying22 rfl ?_
  refine wl_eql (by decide) rfl rfl ?_
  refine wl_move (by decide) rfl ?_
  refine wl_gsplit (dj := 25) rfl (fun h0 => ?_) (fun h0 => ?_)
  ·
    try replace h0 := of_decide_eq_true h0
    refine wl_gno (by decide) rfl rfl (.inl rfl) ?_
    refine wl_gno (by decide) rfl rfl (.inl rfl) ?_
    refine wl_pick (by decide) rfl rfl ?_
    refine wl_move (by decide) rfl ?_
    refine wl_gno (by decide) rfl rfl (.inl rfl) ?_
    refine wl_gno (by decide) rfl rfl (.inl rfl) ?_
    refine wl_pick (by decide) rfl rfl ?_
    refine wl_nil ?_
    refine wk_norm ?_
    refine wc_cond_t rfl ?_
    refine wc_seq ?_
    refine wc_region ?_
    refine wl_move (by decide) rfl ?_
    refine wl_len (by decide) Try.underlying22 rfl ?_
    refine wl_eql (by decide) rfl rfl ?_
    refine wl_re (k := 35) (v := .bool true) rfl (congrArg Value.bool (decide_eq_true (by exact h0))) ?_
    refine wl_move (by decide) rfl ?_
    refine wl_gyes rfl rfl ?_
    refine wl_move (by decide) rfl ?_
    refine wl_pick (by decide) rfl rfl ?_
    refine wl_move (by decide) rfl ?_
    refine wl_gyes rfl rfl ?_
    refine wl_move (by decide) rfl ?_
    refine wl_gyes rfl rfl ?_
    refine wl_eql (by decide) rfl rfl ?_
    refine wl_re (k := 41) (v := .bool true) rfl (congrArg Value.bool (decide_eq_true (by exact hz2))) ?_
    refine wl_pick (by decide) rfl rfl ?_
    refine wl_assign (by decide) rfl ?_
    refine wl_nil ?_
    refine wk_norm ?_
    refine wc_ret ?_
    refine wk_then_ret ?_
    refine wk_post1 (.inl rfl) Try.results6 rfl ?_
    exact ⟨_, rfl, rfl, hp.chg⟩
  ·
    try replace h0 := of_decide_eq_false h0
    refine wl_gyes rfl rfl ?_
    refine wl_move (by decide) rfl ?_
    refine wl_gyes rfl rfl ?_
    first | refine wl_notd (by decide) rfl ?_ | refine wl_not (by decide) rfl ?_
    refine wl_pick (by decide) rfl rfl ?_
    refine wl_move (by decide) rfl ?_
    refine wl_gyes rfl rfl ?_
    refine wl_move (by decide) rfl ?_
    refine wl_gyes rfl rfl ?_
    refine wl_neq (by decide) rfl rfl ?_
    refine wl_re (k := 31) (v := .bool false) rfl (congrArg Value.bool (decide_eq_false (by rw [hz2]; simp))) ?_
    refine wl_pick (by decide) rfl rfl ?_
    refine wl_nil ?_
    refine wk_norm ?_
    refine wc_cond_f rfl ?_
    refine wc_skip ?_
    refine wk_norm ?_
    refine wc_seq ?_
    refine wc_region ?_
    refine wl_move (by decide) rfl ?_
    refine wl_move (by decide) rfl ?_
    refine wl_len (by decide) Try.underlying22 rfl ?_
    refine wl_call (by decide) Try.cl25 rfl (bring_ok (by omega) (by omega) (by omega) (by omega)) ?_
    rintro _ _ ⟨rfl, rfl⟩
    refine wl_assign (by decide) rfl ?_
    have lo2 := brg_lo n1 (H.length : Int)
    have hi2 := brg_hi n1 (H.length : Int) (by omega)
    obtain ⟨j, hj⟩ : ∃ j : Nat, brg n1 (H.length : Int) = j := ⟨_, (Int.toNat_of_nonneg lo2).symm⟩
    rw [hj] at lo2 hi2 ⊢
    have hjl : j < H.length := by omega
    obtain ⟨g8, _, rfl, _⟩ := hp.rowEl (r := opR) (i := 0) rfl hR j hjl rfl
    refine wl_nil ?_
    refine wk_norm ?_
    refine wc_seq_cut (fun L' w' => ∃ (A7 : Option Addr), ∃ (c7 : Nat), ∃ (H2 : List HOp), L' = [(7, .slice A7 H2.length c7)] ∧ (Ext w w') ∧ (HS (fun _ => True) w' A7 c7 H2) ∧ (chkH H2 = 0) ∧ (linB H2 [0] = true)) (fun K hK => ?_) ?_
    ·
      refine wc_seq ?_
      refine wc_region ?_
      refine wl_move (by decide) rfl ?_
      refine wl_call (by decide) Try.cl25 rfl (bring_ok (by omega) (by omega) (by omega) (by omega)) ?_
      rintro _ _ ⟨rfl, rfl⟩
      have lo3 := brg_lo n2 4
      have hi3 := brg_hi n2 4 (by decide)
      have hbj := bad_hop hck hjl
      have htm := hM.tm j hjl
      have hlo9 := hp.chg.size
      obtain ⟨_, _, e8, hrj, hatJ, BJ, dJ, rfl, hvJ⟩ := hp.rowEl (r := opR) (i := 0) rfl hR j hjl rfl
      cases e8
      rw [← hop_get H hjl] at hrj hatJ hvJ
      refine wl_nil ?_
      refine wk_norm ?_
      refine wc_block ?_
      refine wc_seq ?_
      refine wc_region ?_
      refine wl_eql (by decide) rfl rfl ?_
      refine wl_assign (by decide) rfl ?_
      refine wl_nil ?_
      refine wk_norm ?_
      refine wc_cond rfl (fun hc2 => ?_) (fun hc2 => ?_)
      ·
        try replace hc2 := of_decide_eq_true hc2
        refine wc_region ?_
        refine wl_move (by decide) rfl ?_
        refine wl_move (by decide) rfl ?_
        refine wl_idx0 (by decide) Try.sl22 rfl rfl rfl j rfl hjl ?_
        refine wl_fld (by decide) Try.fld45_3 rfl ?_
        refine wl_re (k := 68) (v := .pointer (some ⟨g8, j * 4 + 3, none⟩)) rfl (by rw [add_lit', add_lit', Nat.zero_add]) ?_
        refine wl_hstoreR (i := 0) (o := j * 4 + 3) rfl rfl hp rfl Try.sz3 rfl (by rw [flat_len rows 4 hR.lens, hR.1]; show _ + 1 ≤ _; omega) (show (1 : Nat) ≠ 0 by decide) (List.all_eq_true.1 rfl) ?_
        rintro w9 hp9 hC9
        replace hp9 : HP w (fun _ => False) Fz8 w9 [itR 45 opR.size (some ⟨g8, 0, none⟩) H.length c8 (rows.set j [.bool (hop H j).wr, .slice BJ (hop H j).val.length dJ, .int .i64 (hop H j).b, .int .i64 0]).flatten] := by
          have e9 : putL rows.flatten (j * 4 + 3) [.int .i64 0] = (rows.set j [.bool (hop H j).wr, .slice BJ (hop H j).val.length dJ, .int .i64 (hop H j).b, .int .i64 0]).flatten := rowPut hrj hR.lens (show 3 + 1 ≤ 4 by decide)
          rw [← e9]; exact hp9
        have hv9 := hvJ.fz hC9
        replace h := h.fz hC9
        replace hR := hR.fz hC9
        replace hp := hp9
        have hHn : HS (fun _ => True) w9 _ c8 (H.set j ⟨(hop H j).wr, (hop H j).val, (hop H j).b, 0⟩) := hp.gsRow (r := opR) (i := 0) rfl (hR.set j (cs := [.bool (hop H j).wr, .slice BJ (hop H j).val.length dJ, .int .i64 (hop H j).b, .int .i64 0]) ⟨_, _, rfl, hv9⟩) (by rw [List.length_set])
        have hpl := set_ok (x := ⟨(hop H j).wr, (hop H j).val, (hop H j).b, 0⟩) hck hlin hjl rfl rfl hbj.1 (Int.le_refl _) (.inl rfl)
        refine wl_nil ?_
        refine wk_blk_norm ?_
        refine wk_norm ?_
        refine wk_drop [(7, .slice _ (H.set j ⟨(hop H j).wr, (hop H j).val, (hop H j).b, 0⟩).length _)] ⟨(by rw [List.length_set]; rfl), trivial⟩ (hK _ _ ?_)
        refine ⟨_, _, (H.set j ⟨(hop H j).wr, (hop H j).val, (hop H j).b, 0⟩), rfl, ?_, ?_, ?_, ?_⟩
        · exact hp.chg
        · exact hHn
        · exact hpl.1
        · exact hpl.2
      ·
        try replace hc2 := of_decide_eq_false hc2
        refine wc_seq ?_
        refine wc_region ?_
        refine wl_eql (by decide) rfl rfl ?_
        refine wl_assign (by decide) rfl ?_
        refine wl_nil ?_
        refine wk_norm ?_
        refine wc_cond rfl (fun hc3 => ?_) (fun hc3 => ?_)
        ·
          try replace hc3 := of_decide_eq_true hc3
          refine wc_region ?_
          refine wl_move (by decide) rfl ?_
          refine wl_move (by decide) rfl ?_
          refine wl_move (by decide) rfl ?_
          refine wl_move (by decide) rfl ?_
          refine wl_idx0 (by decide) Try.sl22 rfl rfl rfl j rfl hjl ?_
          refine wl_fld (by decide) Try.fld45_3 rfl ?_
          refine wl_load (by decide) Try.sc3 rfl (hatJ.get rfl) ?_
          refine wl_add (by decide) rfl rfl (w64 (by omega) (by omega)) ?_
          refine wl_idx0 (by decide) Try.sl22 rfl rfl rfl j rfl hjl ?_
          refine wl_fld (by decide) Try.fld45_3 rfl ?_
          refine wl_re (k := 80) (v := .pointer (some ⟨g8, j * 4 + 3, none⟩)) rfl (by rw [add_lit', add_lit', Nat.zero_add]) ?_
          refine wl_hstoreR (i := 0) (o := j * 4 + 3) rfl rfl hp rfl Try.sz3 rfl (by rw [flat_len rows 4 hR.lens, hR.1]; show _ + 1 ≤ _; omega) (show (1 : Nat) ≠ 0 by decide) (List.all_eq_true.1 rfl) ?_
          rintro w9 hp9 hC9
          replace hp9 : HP w (fun _ => False) Fz8 w9 [itR 45 opR.size (some ⟨g8, 0, none⟩) H.length c8 (rows.set j [.bool (hop H j).wr, .slice BJ (hop H j).val.length dJ, .int .i64 (hop H j).b, .int .i64 ((hop H j).e + 5000)]).flatten] := by
            have e9 : putL rows.flatten (j * 4 + 3) [.int .i64 ((hop H j).e + 5000)] = (rows.set j [.bool (hop H j).wr, .slice BJ (hop H j).val.length dJ, .int .i64 (hop H j).b, .int .i64 ((hop H j).e + 5000)]).flatten := rowPut hrj hR.lens (show 3 + 1 ≤ 4 by decide)
            rw [← e9]; exact hp9
          have hv9 := hvJ.fz hC9
          replace h := h.fz hC9
          replace hR := hR.fz hC9
          replace hp := hp9
          have hHn : HS (fun _ => True) w9 _ c8 (H.set j ⟨(hop H j).wr, (hop H j).val, (hop H j).b, ((hop H j).e + 5000)⟩) := hp.gsRow (r := opR) (i := 0) rfl (hR.set j (cs := [.bool (hop H j).wr, .slice BJ (hop H j).val.length dJ, .int .i64 (hop H j).b, .int .i64 ((hop H j).e + 5000)]) ⟨_, _, rfl, hv9⟩) (by rw [List.length_set])
          have hpl := set_ok (x := ⟨(hop H j).wr, (hop H j).val, (hop H j).b, ((hop H j).e + 5000)⟩) hck hlin hjl rfl rfl hbj.1 (Int.le_refl _) (.inr ⟨by omega, by show _ ≤ (hop H j).e + 5000; omega⟩)
          refine wl_nil ?_
          refine wk_blk_norm ?_
          refine wk_norm ?_
          refine wk_drop [(7, .slice _ (H.set j ⟨(hop H j).wr, (hop H j).val, (hop H j).b, ((hop H j).e + 5000)⟩).length _)] ⟨(by rw [List.length_set]; rfl), trivial⟩ (hK _ _ ?_)
          refine ⟨_, _, (H.set j ⟨(hop H j).wr, (hop H j).val, (hop H j).b, ((hop H j).e + 5000)⟩), rfl, ?_, ?_, ?_, ?_⟩
          · exact hp.chg
          · exact hHn
          · exact hpl.1
          · exact hpl.2
        ·
          try replace hc3 := of_decide_eq_false hc3
          refine wc_seq ?_
          refine wc_region ?_
          refine wl_eql (by decide) rfl rfl ?_
          refine wl_assign (by decide) rfl ?_
          refine wl_nil ?_
          refine wk_norm ?_
          refine wc_cond rfl (fun hc4 => ?_) (fun hc4 => ?_)
          ·
            try replace hc4 := of_decide_eq_true hc4
            refine wc_region ?_
            refine wl_move (by decide) rfl ?_
            refine wl_move (by decide) rfl ?_
            refine wl_idx0 (by decide) Try.sl22 rfl rfl rfl j rfl hjl ?_
            refine wl_fld (by decide) Try.fld45_2 rfl ?_
            refine wl_re (k := 86) (v := .pointer (some ⟨g8, j * 4 + 2, none⟩)) rfl (by rw [add_lit', add_lit', Nat.zero_add]) ?_
            refine wl_hstoreR (i := 0) (o := j * 4 + 2) rfl rfl hp rfl Try.sz3 rfl (by rw [flat_len rows 4 hR.lens, hR.1]; show _ + 1 ≤ _; omega) (show (1 : Nat) ≠ 0 by decide) (List.all_eq_true.1 rfl) ?_
            rintro w9 hp9 hC9
            replace hp9 : HP w (fun _ => False) Fz8 w9 [itR 45 opR.size (some ⟨g8, 0, none⟩) H.length c8 (rows.set j [.bool (hop H j).wr, .slice BJ (hop H j).val.length dJ, .int .i64 1, .int .i64 (hop H j).e]).flatten] := by
              have e9 : putL rows.flatten (j * 4 + 2) [.int .i64 1] = (rows.set j [.bool (hop H j).wr, .slice BJ (hop H j).val.length dJ, .int .i64 1, .int .i64 (hop H j).e]).flatten := rowPut hrj hR.lens (show 2 + 1 ≤ 4 by decide)
              rw [← e9]; exact hp9
            have hv9 := hvJ.fz hC9
            replace h := h.fz hC9
            replace hR := hR.fz hC9
            replace hp := hp9
            have hHn : HS (fun _ => True) w9 _ c8 (H.set j ⟨(hop H j).wr, (hop H j).val, 1, (hop H j).e⟩) := hp.gsRow (r := opR) (i := 0) rfl (hR.set j (cs := [.bool (hop H j).wr, .slice BJ (hop H j).val.length dJ, .int .i64 1, .int .i64 (hop H j).e]) ⟨_, _, rfl, hv9⟩) (by rw [List.length_set])
            have hpl := set_ok (x := ⟨(hop H j).wr, (hop H j).val, 1, (hop H j).e⟩) hck hlin hjl rfl rfl (Int.le_refl _) hbj.1 (by have := hbj.2; show (hop H j).e = 0 ∨ (0 < (hop H j).e ∧ (hop H j).e ≤ (hop H j).e); omega)
            refine wl_nil ?_
            refine wk_blk_norm ?_
            refine wk_norm ?_
            refine wk_drop [(7, .slice _ (H.set j ⟨(hop H j).wr, (hop H j).val, 1, (hop H j).e⟩).length _)] ⟨(by rw [List.length_set]; rfl), trivial⟩ (hK _ _ ?_)
            refine ⟨_, _, (H.set j ⟨(hop H j).wr, (hop H j).val, 1, (hop H j).e⟩), rfl, ?_, ?_, ?_, ?_⟩
            · exact hp.chg
            · exact hHn
            · exact hpl.1
            · exact hpl.2
          ·
            try replace hc4 := of_decide_eq_false hc4
            refine wc_seq ?_
            refine wc_seq ?_
            refine wc_region ?_
            refine wl_move (by decide) rfl ?_
            refine wl_move (by decide) rfl ?_
            refine wl_idx0 (by decide) Try.sl22 rfl rfl rfl j rfl hjl ?_
            refine wl_fld (by decide) Try.fld45_0 rfl ?_
            refine wl_load (by decide) Try.sc4 rfl (hatJ.get rfl) ?_
            refine wl_nil ?_
            refine wk_norm ?_
            refine wc_cond rfl (fun hrd => ?_) (fun hrd => ?_)
            ·
              try replace hrd := of_decide_eq_true hrd
              refine wc_seq ?_
              refine wc_region ?_
              refine wl_assign (by decide) rfl ?_
              refine wl_nil ?_
              refine wk_norm ?_
              refine wc_ret ?_
              refine wk_then_ret ?_
              refine wk_blk_ret ?_
              refine wk_then_ret ?_
              refine wk_post1 (.inl rfl) Try.results6 rfl ?_
              exact ⟨_, rfl, rfl, hp.chg⟩
            ·
              try replace hrd := of_decide_eq_false hrd
              refine wc_skip ?_
              refine wk_norm ?_
              apply wc_drawTL 8 [SP.eq _, SP.eq _, SP.gs opR (fun _ => True) (H.take j), SP.ownR opR 45 _ (H.take j), SP.eq _, SP.eq _, SP.eq _, SP.gs opR (fun b => b < _) (H.drop (j + 1))] (by kernel_rfl) (by kernel_rfl)
              · refine ⟨?_, ?_, ?_, ?_, ?_, ?_, ?_, ?_, trivial⟩
                ·
                  intro F wF hER hk
                  have e7 := hk.init 7 _ rfl (by kernel_rfl)
                  refine wl_move (by decide) e7 ?_
                  exact wl_nil (qr_some ⟨Chg.refl _ _, rfl⟩)
                ·
                  intro F wF hER hk
                  have e1 := hk.init 1 _ rfl (by kernel_rfl)
                  refine wl_move (by decide) e1 ?_
                  exact wl_nil (qr_some ⟨Chg.refl _ _, rfl⟩)
                ·
                  intro F wF hER hk
                  obtain ⟨u54, e54, h54⟩ := hk.pred 0 (by kernel_rfl) 54 rfl
                  obtain rfl := h54
                  obtain ⟨u55, e55, h55⟩ := hk.pred 1 (by kernel_rfl) 55 rfl
                  obtain rfl := h55
                  refine wl_to (by decide) Try.sl22 e54 e55 ((hp.gsRow (r := opR) (i := 0) rfl hR rfl).ext hER) j rfl (by omega) ?_
                  intro hg1
                  exact wl_nil (qr_some ⟨Chg.refl _ _, _, _, rfl, hg1⟩)
                ·
                  intro F wF hER hk
                  obtain ⟨u56, e56, h56⟩ := hk.pred 2 (by kernel_rfl) 56 rfl
                  obtain ⟨A56, c56, rfl, hg56⟩ := h56
                  have hcl := copied_ok hg56 (by rw [List.length_take]; omega)
                  refine wl_call (by decide) Try.cl10 (by simp only [evs, ev, e56]; first | done | rfl) hcl ?_
                  clear hcl
                  rintro _ w7 ⟨A7, c7, rfl, hO7, hE7⟩
                  exact wl_nil (qr_some ⟨hE7, _, _, rfl, hO7.ownR.lower hER.size⟩)
                ·
                  intro F wF hER hk
                  have e7 := hk.init 7 _ rfl (by kernel_rfl)
                  refine wl_move (by decide) e7 ?_
                  exact wl_nil (qr_some ⟨Chg.refl _ _, rfl⟩)
                ·
                  intro F wF hER hk
                  have e1 := hk.init 1 _ rfl (by kernel_rfl)
                  refine wl_move (by decide) e1 ?_
                  exact wl_nil (qr_some ⟨Chg.refl _ _, rfl⟩)
                ·
                  intro F wF hER hk
                  obtain ⟨u59, e59, h59⟩ := hk.pred 5 (by kernel_rfl) 59 rfl
                  obtain rfl := h59
                  refine wl_add (by decide) e59 rfl (w64 (by omega) (by omega)) ?_
                  exact wl_nil (qr_some ⟨Chg.refl _ _, rfl⟩)
                ·
                  intro F wF hER hk
                  obtain ⟨u58, e58, h58⟩ := hk.pred 4 (by kernel_rfl) 58 rfl
                  obtain rfl := h58
                  obtain ⟨u60, e60, h60⟩ := hk.pred 6 (by kernel_rfl) 60 rfl
                  obtain rfl := h60
                  refine wl_from (by decide) Try.sl22 e58 e60 ((hp.gsRow (r := opR) (i := 0) rfl hR rfl).now.ext hER) (j + 1) rfl (by omega) ?_
                  intro A7 c7 hg1
                  exact wl_nil (qr_some ⟨Chg.refl _ _, _, _, rfl, hg1⟩)
              ·
                intro F wD hED hini hdo
                obtain ⟨u57, e57, h57⟩ := hdo 3 57 (Nat.lt_of_lt_of_eq (by decide) rfl) rfl
                obtain ⟨A57, c57, rfl, ho57⟩ := h57
                obtain ⟨u61, e61, h61⟩ := hdo 7 61 (Nat.lt_of_lt_of_eq (by decide) rfl) rfl
                obtain ⟨A61, c61, rfl, hg61⟩ := h61
                refine wl_drop [(57, _), (61, _)] ⟨e57, e61, trivial⟩ ?_
                clear e57 e61 hini hdo
                replace h := h.ext hED
                replace hR := hR.ext hED
                replace hp := hp.ext hED
                refine wl_appendR (by decide) Try.sl22 rfl rfl ho57 (hg61.mono (fun b _ hb _ h1 _ => Nat.lt_irrefl _ (Nat.lt_of_lt_of_le hb h1))) (by simp only [List.length_take, List.length_drop]; omega) hED.size ?_
                rintro A9 c9 w9 ho9 hC9 _
                have hEc : Ext w w9 := hp.chg.step hC9 (fun b hb h1 => absurd (Nat.lt_of_lt_of_le hb (Nat.le_trans hlo9 h1.2.1)) (Nat.lt_irrefl _))
                have he11 : H.take j ++ H.drop (j + 1) = H.eraseIdx j := (List.eraseIdx_eq_take_drop_succ H j).symm
                rw [he11] at ho9
                have hHn := ho9.gs
                have hpl := erase_ok hck hlin hjl hrd
                refine wl_assign (by decide) rfl ?_
                refine wl_nil ?_
                refine wk_blk_norm ?_
                refine wk_norm ?_
                refine wk_drop [(7, .slice _ (H.eraseIdx j).length _)] ⟨(by rw [← he11]; rfl), trivial⟩ (hK _ _ ?_)
                refine ⟨_, _, (H.eraseIdx j), rfl, ?_, ?_, ?_, ?_⟩
                · exact hEc
                · exact hHn
                · exact hpl.1
                · exact hpl.2
    ·
      rintro _ wn ⟨A7, c7, H2, rfl, hEc, hH, hck2, hlin2⟩
      refine wc_seq ?_
      refine wc_region ?_
      refine wl_move (by decide) rfl ?_
      refine wl_bsliceB (xs := [.const (.int .u8 0)]) (bs := [0]) (by decide) Try.sl23 rfl rfl rfl (by simp) _ (Nat.le_refl _) ?_
      rintro g5 w5 _ hs5 hE5
      replace hs5 := hs5.bs.any
      replace hH := hH.ext hE5
      replace hEc := hEc.trans hE5
      have hcl := plinear_ok hH hs5
      refine wl_call (by decide) Try.cl19 rfl hcl ?_
      clear hcl
      rintro _ w6 ⟨rfl, hE6⟩
      replace hH := hH.ext hE6
      replace hs5 := hs5.ext hE6
      replace hEc := hEc.trans hE6
      refine wl_move (by decide) rfl ?_
      refine wl_extract (by decide) rfl rfl ?_
      refine wl_extract (by decide) rfl rfl ?_
      refine wl_assign (by decide) rfl ?_
      refine wl_assign (by decide) rfl ?_
      refine wl_nil ?_
      refine wk_norm ?_
      refine wc_seq ?_
      refine wc_region ?_
      refine wl_move (by decide) rfl ?_
      refine wl_re (k := 93) (v := .bool true) rfl (congrArg Value.bool (by rw [ordS_is hck2]; exact hlin2)) ?_
      refine wl_move (by decide) rfl ?_
      refine wl_gyes rfl rfl ?_
      refine wl_move (by decide) rfl ?_
      refine wl_gyes rfl rfl ?_
      refine wl_eql (by decide) rfl rfl ?_
      refine wl_re (k := 96) (v := .bool true) rfl (congrArg Value.bool (decide_eq_true (by rw [ordS_err]; exact hck2))) ?_
      refine wl_pick (by decide) rfl rfl ?_
      refine wl_assign (by decide) rfl ?_
      refine wl_nil ?_
      refine wk_norm ?_
      refine wc_ret ?_
      refine wk_post1 (.inl rfl) Try.results6 rfl ?_
      exact ⟨_, rfl, rfl, hEc⟩

end Go.Proofs.Ytnlpibfdobinoaa
