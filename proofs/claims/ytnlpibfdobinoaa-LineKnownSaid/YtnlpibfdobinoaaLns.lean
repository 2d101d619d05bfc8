/- Lns (printed by program: wip/gen) -/
import Derived.Test.YtnlpibfdobinoaaLnr
namespace Go.Proofs.Ytnlpibfdobinoaa
open Go.RowKit Go.Eng

/-- A row of bools. -/
def insC (n : Nat) (s : Nat → Bool) : List Value := (List.range n).map fun j => .bool (s j)
theorem insC_zero (n : Nat) : (List.replicate n (Value.bool false).cells.toList).flatten = insC n (fun _ => false) := by
  unfold insC
  induction n with
  | zero => rfl
  | succ n ih => rw [List.replicate_succ', List.flatten_append, ih, List.range_succ, List.map_append]; rfl
theorem insC_len (n : Nat) (s : Nat → Bool) : (insC n s).length = n := by simp [insC]
theorem insC_el {n : Nat} (s : Nat → Bool) {j : Nat} (h : j < n) : ((insC n s).drop (j * 1)).take 1 = [.bool (s j)] := by
  have hl := insC_len n s
  rw [Nat.mul_one, List.drop_eq_getElem_cons (by omega), List.take_succ_cons, List.take_zero]
  simp [insC]
theorem insC_set {n : Nat} (s : Nat → Bool) {j : Nat} (h : j < n) : putL (insC n s) j [.bool true] = insC n (fun k => s k || decide (k = j)) := by
  have hl := insC_len n s
  apply List.ext_getElem?
  intro i
  rw [putL]
  by_cases h1 : i < j
  · rw [List.append_assoc, List.getElem?_append_left (by rw [List.length_take]; omega), List.getElem?_take, if_pos h1]
    by_cases hi : i < n
    · simp [insC, show ¬ i = j by omega, hi]
    · simp [insC, hi]
  · by_cases h2 : i = j
    · subst h2
      rw [List.append_assoc, List.getElem?_append_right (by rw [List.length_take]; omega), List.length_take, show i - min i (insC n s).length = 0 by omega]
      simp [insC, h]
    · rw [List.getElem?_append_right (by rw [List.length_append, List.length_take, List.length_singleton]; omega), List.length_append, List.length_take, List.length_singleton, List.getElem?_drop]
      rw [show j + 1 + (i - (min j (insC n s).length + 1)) = i by omega]
      by_cases hi : i < n
      · simp [insC, h2, hi]
      · simp [insC, hi]

theorem explR_no1 {H : List HOp} {s : Nat → Bool} {v : List UInt8} {i : Int} {r : List Int} (h : ¬ (0 ≤ i ∧ i < H.length)) : explR H s v (i :: r) = false := by rw [explR, decide_eq_false h]; simp
theorem explR_no2 {H : List HOp} {s : Nat → Bool} {v : List UInt8} {j : Nat} {r : List Int} (h : s j = true) : explR H s v ((j : Int) :: r) = false := by rw [explR, Int.toNat_natCast, h]; simp
theorem explR_no3 {H : List HOp} {s : Nat → Bool} {v : List UInt8} {j k : Nat} {r : List Int} (hk : k < H.length) (h1 : s k = false) (h2 : 0 < (hop H k).e) (h3 : (hop H k).e < (hop H j).b) : explR H s v ((j : Int) :: r) = false := by
  cases h : explR H s v ((j : Int) :: r)
  · rfl
  · rw [explR, Int.toNat_natCast] at h
    simp only [Bool.and_eq_true] at h
    have := allN_iff.1 h.1.1.2 k hk
    simp [h1, ahd, h2, h3] at this
theorem explR_no4 {H : List HOp} {s : Nat → Bool} {v : List UInt8} {j : Nat} {r : List Int} (h1 : (hop H j).wr = false) (h2 : ¬ (hop H j).val = v) : explR H s v ((j : Int) :: r) = false := by
  rw [explR, Int.toNat_natCast, h1, decide_eq_false h2]
  simp
theorem explR_yes {H : List HOp} {s : Nat → Bool} {v : List UInt8} {j : Nat} {r : List Int} (hj : j < H.length) (h1 : s j = false) (h2 : ∀ k, k < H.length → s k = false → 0 < (hop H k).e → ¬ (hop H k).e < (hop H j).b) (h3 : (hop H j).wr = true ∨ (hop H j).val = v) :
    explR H s v ((j : Int) :: r) = explR H (fun k => s k || decide (k = j)) (if (hop H j).wr then (hop H j).val else v) r := by
  rw [explR, Int.toNat_natCast, decide_eq_true ⟨by omega, by omega⟩, h1]
  have e1 : (allN H.length fun k => s k || !ahd H j k) = true := by
    rw [allN_iff]
    intro k hk
    by_cases hs : s k = true
    · simp [hs]
    · have hs' : s k = false := by simpa using hs
      by_cases he : 0 < (hop H k).e
      · have := h2 k hk hs' he
        simp [hs', ahd, he, this]
      · simp [hs', ahd, he]
  have e2 : ((hop H j).wr || decide ((hop H j).val = v)) = true := by rcases h3 with h | h <;> simp [h]
  rw [e1, e2]
  simp

theorem explains_ok {A B D : Option Addr} {c d e : Nat} {H : List HOp} {first : List UInt8} {order : List Int} {S S2 S3 : Nat → Prop} {w : World} (h : HS S w A c H) (hf : BS S2 w B d first) (ho : IS S3 w D e order) : Ret Try.prog 23 #[.slice A H.length c, .slice B first.length d, .slice D order.length e] w (fun v w' => v = .bool (explR H (fun _ => false) first order) ∧ Ext w w') := by
  refine ret_of_wk Try.func23 rfl Try.ntmps23 (Nat.le_of_ble_eq_true rfl) ?_
  have hp := HP.begin_ w
  replace h := h.now
  replace hf := hf.now
  replace ho := ho.now
  refine wc_seq ?_
  refine wc_region ?_
  refine wl_assign (by decide) rfl ?_
  refine wl_nil ?_
  refine wk_norm ?_
  refine wc_seq ?_
  refine wc_region ?_
  refine wl_move (by decide) rfl ?_
  refine wl_assign (by decide) rfl ?_
  refine wl_nil ?_
  refine wk_norm ?_
  refine wc_seq ?_
  refine wc_region ?_
  refine wl_move (by decide) rfl ?_
  refine wl_len (by decide) Try.underlying22 rfl ?_
  have hmx := h.mx
  have hmk : 1 * H.length ≤ 140737488355328 := by omega
  apply wl_make (k := H.length) (z := .bool false) (hT := Try.sl69) (hd := by decide)
  case hz => kernel_rfl
  case hx => rfl
  case hy => rfl
  case hb => exact hmk
  case hlo => exact Nat.le_refl _
  rintro gi wi hgi hoi hEi
  rw [insC_zero] at hoi
  replace h := h.ext hEi
  replace hf := hf.ext hEi
  replace ho := ho.ext hEi
  replace hp := (hp.newRow hEi hgi hoi)
  refine wl_assign (by decide) rfl ?_
  refine wl_nil ?_
  refine wk_norm ?_
  refine wc_seq ?_
  refine wc_seq ?_
  refine wc_region ?_
  refine wl_assign (by decide) rfl ?_
  refine wl_nil ?_
  refine wk_norm ?_
  refine wc_block ?_
  refine wc_loop (fun L' w' mes => ∃ (k : Nat), ∃ (s : Nat → Bool), ∃ (A7 : Option Addr), ∃ (c7 : Nat), ∃ (v : List UInt8), L' = [(0, .slice A H.length c), (2, .slice D order.length e), (7, .slice A7 v.length c7), (8, .slice (some ⟨gi, 0, none⟩) H.length H.length), (9, .int .i64 (k : Int))] ∧ (k ≤ order.length) ∧ (explR H (fun _ => false) first order = explR H s v (order.drop k)) ∧ (HP w (fun _ => False) (fun b => b < w.heap.size) w' [itR 4 1 (some ⟨gi, 0, none⟩) H.length H.length (insC H.length s)]) ∧ (HS (fun b => b < w.heap.size) w' A c H) ∧ (BS (fun b => b < w.heap.size) w' B d first) ∧ (IS (fun b => b < w.heap.size) w' D e order) ∧ (BS (fun b => b < w.heap.size) w' A7 c7 v) ∧ order.length - k = mes) [(0, .slice A H.length c), (2, .slice D order.length e), (7, .slice B first.length d), (8, .slice (some ⟨gi, 0, none⟩) H.length H.length), (9, .int .i64 (0 : Int))] (order.length - 0) (by
      refine ⟨0, (fun _ => false), B, d, first, rfl, ?_, ?_, ?_, ?_, ?_, ?_, ?_, rfl⟩
      · omega
      · rfl
      · exact hp
      · exact h
      · exact hf
      · exact ho
      · exact hf) ⟨rfl, rfl, rfl, rfl, rfl, trivial⟩ ?_
  rintro _ wr _ ⟨k, s, A7, c7, v, rfl, hk, hx, hp, h, hf, ho, hv, rfl⟩ KL1 hKL1
  have hmx := h.mx
  have hmo := ho.mx
  refine wc_seq ?_
  refine wc_seq ?_
  refine wc_region ?_
  refine wl_move (by decide) rfl ?_
  refine wl_move (by decide) rfl ?_
  refine wl_len (by decide) Try.underlying33 rfl ?_
  refine wl_lss (by decide) rfl rfl ?_
  refine wl_nil ?_
  refine wk_norm ?_
  refine wc_cond rfl (fun hlt => ?_) (fun hlt => ?_)
  ·
    try replace hlt := of_decide_eq_true hlt
    refine wc_skip ?_
    refine wk_norm ?_
    refine wc_seq ?_
    refine wc_block ?_
    refine wc_seq ?_
    refine wc_region ?_
    refine wl_move (by decide) rfl ?_
    obtain ⟨aN, hAN, hatN⟩ := GS.el1 ho k (by omega)
    have hdk : order.drop k = order[k]'(by omega) :: order.drop (k + 1) := List.drop_eq_getElem_cons (by omega)
    generalize order[k]'(by omega) = nn at hatN hdk
    refine wl_move (by decide) rfl ?_
    refine wl_idx0 (by decide) Try.sl33 rfl rfl hAN k rfl (by omega) ?_
    refine wl_load (by decide) Try.sc3 rfl hatN.head ?_
    refine wl_assign (by decide) rfl ?_
    refine wl_nil ?_
    refine wk_norm ?_
    refine wc_seq ?_
    refine wc_seq ?_
    refine wc_region ?_
    refine wl_move (by decide) rfl ?_
    refine wl_lss (by decide) rfl rfl ?_
    refine wl_move (by decide) rfl ?_
    refine wl_gsplit (dj := 29) rfl (fun hn0 => ?_) (fun hn0 => ?_)
    ·
      try replace hn0 := of_decide_eq_true hn0
      have hno := explR_no1 (H := H) (s := s) (v := v) (i := nn) (r := order.drop (k + 1)) (by omega)
      refine wl_gno (by decide) rfl rfl (.inl rfl) ?_
      refine wl_gno (by decide) rfl rfl (.inl rfl) ?_
      refine wl_gno (by decide) rfl rfl (.inl rfl) ?_
      refine wl_gno (by decide) rfl rfl (.inl rfl) ?_
      refine wl_pick (by decide) rfl rfl ?_
      refine wl_move (by decide) rfl ?_
      refine wl_gno (by decide) rfl rfl (.inl rfl) ?_
      refine wl_gno (by decide) rfl rfl (.inl rfl) ?_
      refine wl_gno (by decide) rfl rfl (.inl rfl) ?_
      refine wl_gno (by decide) rfl rfl (.inl rfl) ?_
      refine wl_pick (by decide) rfl rfl ?_
      refine wl_nil ?_
      refine wk_norm ?_
      refine wc_cond_t rfl ?_
      refine wc_seq ?_
      refine wc_region ?_
      refine wl_assign (by decide) rfl ?_
      refine wl_nil ?_
      refine wk_norm ?_
      refine wc_ret ?_
      refine wk_then_ret ?_
      refine wk_blk_ret ?_
      refine wk_then_ret ?_
      refine wk_then_ret ?_
      refine wk_blk_ret ?_
      refine wk_then_ret ?_
      refine wk_post1 (.inl rfl) Try.results23 rfl ?_
      exact ⟨_, rfl, by rw [hx, hdk]; exact congrArg Value.bool (hno).symm, hp.chg⟩
    ·
      try replace hn0 := of_decide_eq_false hn0
      refine wl_gyes rfl rfl ?_
      refine wl_move (by decide) rfl ?_
      refine wl_gyes rfl rfl ?_
      refine wl_move (by decide) rfl ?_
      refine wl_gyes rfl rfl ?_
      refine wl_len (by decide) Try.underlying22 rfl ?_
      refine wl_gyes rfl rfl ?_
      refine wl_geq (by decide) rfl rfl ?_
      refine wl_pick (by decide) rfl rfl ?_
      refine wl_move (by decide) rfl ?_
      refine wl_gsplit (dj := 35) rfl (fun hn1 => ?_) (fun hn1 => ?_)
      ·
        try replace hn1 := of_decide_eq_true hn1
        have hno := explR_no1 (H := H) (s := s) (v := v) (i := nn) (r := order.drop (k + 1)) (by omega)
        refine wl_gno (by decide) rfl rfl (.inl rfl) ?_
        refine wl_gno (by decide) rfl rfl (.inl rfl) ?_
        refine wl_gno (by decide) rfl rfl (.inl rfl) ?_
        refine wl_gno (by decide) rfl rfl (.inl rfl) ?_
        refine wl_pick (by decide) rfl rfl ?_
        refine wl_nil ?_
        refine wk_norm ?_
        refine wc_cond_t rfl ?_
        refine wc_seq ?_
        refine wc_region ?_
        refine wl_assign (by decide) rfl ?_
        refine wl_nil ?_
        refine wk_norm ?_
        refine wc_ret ?_
        refine wk_then_ret ?_
        refine wk_blk_ret ?_
        refine wk_then_ret ?_
        refine wk_then_ret ?_
        refine wk_blk_ret ?_
        refine wk_then_ret ?_
        refine wk_post1 (.inl rfl) Try.results23 rfl ?_
        exact ⟨_, rfl, by rw [hx, hdk]; exact congrArg Value.bool (hno).symm, hp.chg⟩
      ·
        try replace hn1 := of_decide_eq_false hn1
        obtain ⟨j, rfl⟩ : ∃ j : Nat, nn = j := ⟨nn.toNat, by omega⟩
        have hjl : j < H.length := by omega
        obtain ⟨gI, hAI, hatI⟩ := OwnRow.el (hp.rowAt (i := 0) rfl) j hjl
        rw [insC_el s hjl] at hatI
        refine wl_gyes rfl rfl ?_
        refine wl_move (by decide) rfl ?_
        refine wl_gyes rfl rfl ?_
        refine wl_move (by decide) rfl ?_
        refine wl_gyes rfl rfl ?_
        refine wl_idx0 (by decide) Try.sl69 rfl rfl hAI j rfl (by omega) ?_
        refine wl_gyes rfl rfl ?_
        refine wl_load (by decide) Try.sc4 rfl hatI.head ?_
        refine wl_pick (by decide) rfl rfl ?_
        refine wl_nil ?_
        refine wk_norm ?_
        refine wc_cond rfl (fun hin => ?_) (fun hin => ?_)
        ·
          try replace hin := of_decide_eq_true hin
          have hno := explR_no2 (H := H) (s := s) (v := v) (r := order.drop (k + 1)) hin
          refine wc_seq ?_
          refine wc_region ?_
          refine wl_assign (by decide) rfl ?_
          refine wl_nil ?_
          refine wk_norm ?_
          refine wc_ret ?_
          refine wk_then_ret ?_
          refine wk_blk_ret ?_
          refine wk_then_ret ?_
          refine wk_then_ret ?_
          refine wk_blk_ret ?_
          refine wk_then_ret ?_
          refine wk_post1 (.inl rfl) Try.results23 rfl ?_
          exact ⟨_, rfl, by rw [hx, hdk]; exact congrArg Value.bool (hno).symm, hp.chg⟩
        ·
          try replace hin := of_decide_eq_false hin
          refine wc_skip ?_
          refine wk_norm ?_
          refine wc_seq ?_
          refine wc_seq ?_
          refine wc_region ?_
          refine wl_assign (by decide) rfl ?_
          refine wl_nil ?_
          refine wk_norm ?_
          refine wc_block ?_
          refine wc_loop (fun L' w' mes => ∃ (q : Nat), L' = [(0, .slice A H.length c), (2, .slice D order.length e), (7, .slice A7 v.length c7), (8, .slice (some ⟨gi, 0, none⟩) H.length H.length), (9, .int .i64 (k : Int)), (10, .int .i64 (j : Int)), (11, .int .i64 (q : Int))] ∧ (q ≤ H.length) ∧ (∀ m, m < q → s m = false → 0 < (hop H m).e → ¬ (hop H m).e < (hop H j).b) ∧ (HP w (fun _ => False) (fun b => b < w.heap.size) w' [itR 4 1 (some ⟨gi, 0, none⟩) H.length H.length (insC H.length s)]) ∧ (HS (fun b => b < w.heap.size) w' A c H) ∧ (BS (fun b => b < w.heap.size) w' B d first) ∧ (IS (fun b => b < w.heap.size) w' D e order) ∧ (BS (fun b => b < w.heap.size) w' A7 c7 v) ∧ H.length - q = mes) [(0, .slice A H.length c), (2, .slice D order.length e), (7, .slice A7 v.length c7), (8, .slice (some ⟨gi, 0, none⟩) H.length H.length), (9, .int .i64 (k : Int)), (10, .int .i64 (j : Int)), (11, .int .i64 (0 : Int))] (H.length - 0) (by
              refine ⟨0, rfl, ?_, ?_, ?_, ?_, ?_, ?_, ?_, rfl⟩
              · omega
              · intro m hm; omega
              · exact hp
              · exact h
              · exact hf
              · exact ho
              · exact hv) ⟨rfl, rfl, rfl, rfl, rfl, rfl, rfl, trivial⟩ ?_
          rintro _ wq _ ⟨q, rfl, hq, hal, hp, h, hf, ho, hv, rfl⟩ KL2 hKL2
          refine wc_seq ?_
          refine wc_seq ?_
          refine wc_region ?_
          refine wl_move (by decide) rfl ?_
          refine wl_move (by decide) rfl ?_
          refine wl_len (by decide) Try.underlying22 rfl ?_
          refine wl_lss (by decide) rfl rfl ?_
          refine wl_nil ?_
          refine wk_norm ?_
          refine wc_cond rfl (fun hlt2 => ?_) (fun hlt2 => ?_)
          ·
            try replace hlt2 := of_decide_eq_true hlt2
            obtain ⟨gQ, hAQ, hatQ⟩ := OwnRow.el (hp.rowAt (i := 0) rfl) q (by omega)
            rw [insC_el s (by omega)] at hatQ
            obtain ⟨aL, BL, dL, hAL, hatL, hvL⟩ := HS.el h q (by omega)
            obtain ⟨aJ, BJ, dJ, hAJ, hatJ, hvJ⟩ := HS.el h j hjl
            refine wc_skip ?_
            refine wk_norm ?_
            refine wc_seq ?_
            refine wc_block ?_
            refine wc_seq ?_
            by_cases h3 : s q = true
            ·
              apply wc_drawL [SP.eq _, SP.eq _, SP.eq _, SP.eq (.bool true), SP.eq (.bool false), SP.eq (.bool false), SP.eq undef, SP.eq undef, SP.eq undef, SP.eq undef, SP.eq undef, SP.eq undef, SP.eq (.bool false), SP.eq (.bool false), SP.eq undef, SP.eq undef, SP.eq undef, SP.eq undef, SP.eq undef, SP.eq undef, SP.eq undef, SP.eq undef, SP.eq undef, SP.eq undef, SP.eq undef, SP.eq (.bool false)] (by kernel_rfl) (by kernel_rfl)
              · refine ⟨?_, ?_, ?_, ?_, ?_, ?_, ?_, ?_, ?_, ?_, ?_, ?_, ?_, ?_, ?_, ?_, ?_, ?_, ?_, ?_, ?_, ?_, ?_, ?_, ?_, ?_, trivial⟩
                ·
                  intro F wF hER hk
                  have e8 := hk.init 8 _ rfl (by kernel_rfl)
                  refine wl_move (by decide) e8 ?_
                  exact wl_nil (qr_some ⟨Chg.refl _ _, rfl⟩)
                ·
                  intro F wF hER hk
                  have e11 := hk.init 11 _ rfl (by kernel_rfl)
                  refine wl_move (by decide) e11 ?_
                  exact wl_nil (qr_some ⟨Chg.refl _ _, rfl⟩)
                ·
                  intro F wF hER hk
                  obtain ⟨u47, e47, h47⟩ := hk.pred 0 (by kernel_rfl) 47 rfl
                  obtain rfl := h47
                  obtain ⟨u48, e48, h48⟩ := hk.pred 1 (by kernel_rfl) 48 rfl
                  obtain rfl := h48
                  refine wl_idx0 (by decide) Try.sl69 e47 e48 hAQ q rfl (by omega) ?_
                  exact wl_nil (qr_some ⟨Chg.refl _ _, rfl⟩)
                ·
                  intro F wF hER hk
                  obtain ⟨u49, e49, h49⟩ := hk.pred 2 (by kernel_rfl) 49 rfl
                  obtain rfl := h49
                  refine wl_load (by decide) Try.sc4 e49 (hatQ.ext hER).head ?_
                  refine wl_re (k := 50) (v := .bool true) rfl (congrArg Value.bool h3) ?_
                  exact wl_nil (qr_re ⟨Chg.refl _ _, rfl⟩)
                ·
                  intro F wF hER hk
                  obtain ⟨u50, e50, h50⟩ := hk.pred 3 (by kernel_rfl) 50 rfl
                  obtain rfl := h50
                  first | refine wl_notd (by decide) e50 ?_ | refine wl_not (by decide) e50 ?_
                  exact wl_nil (qr_some ⟨Chg.refl _ _, rfl⟩)
                ·
                  intro F wF hER hk
                  obtain ⟨u51, e51, h51⟩ := hk.pred 4 (by kernel_rfl) 51 rfl
                  obtain rfl := h51
                  refine wl_move (by decide) e51 ?_
                  exact wl_nil (qr_some ⟨Chg.refl _ _, rfl⟩)
                ·
                  intro F wF hER hk
                  obtain ⟨u52, e52, h52⟩ := hk.pred 5 (by kernel_rfl) 52 rfl
                  obtain rfl := h52
                  refine wl_gno (by decide) rfl e52 (.inl rfl) ?_
                  exact wl_nil (qr_some ⟨Chg.refl _ _, rfl⟩)
                ·
                  intro F wF hER hk
                  obtain ⟨u52, e52, h52⟩ := hk.pred 5 (by kernel_rfl) 52 rfl
                  obtain rfl := h52
                  refine wl_gno (by decide) rfl e52 (.inl rfl) ?_
                  exact wl_nil (qr_some ⟨Chg.refl _ _, rfl⟩)
                ·
                  intro F wF hER hk
                  obtain ⟨u52, e52, h52⟩ := hk.pred 5 (by kernel_rfl) 52 rfl
                  obtain rfl := h52
                  refine wl_gno (by decide) rfl e52 (.inl rfl) ?_
                  exact wl_nil (qr_some ⟨Chg.refl _ _, rfl⟩)
                ·
                  intro F wF hER hk
                  obtain ⟨u52, e52, h52⟩ := hk.pred 5 (by kernel_rfl) 52 rfl
                  obtain rfl := h52
                  refine wl_gno (by decide) rfl e52 (.inl rfl) ?_
                  exact wl_nil (qr_some ⟨Chg.refl _ _, rfl⟩)
                ·
                  intro F wF hER hk
                  obtain ⟨u52, e52, h52⟩ := hk.pred 5 (by kernel_rfl) 52 rfl
                  obtain rfl := h52
                  refine wl_gno (by decide) rfl e52 (.inl rfl) ?_
                  exact wl_nil (qr_some ⟨Chg.refl _ _, rfl⟩)
                ·
                  intro F wF hER hk
                  obtain ⟨u52, e52, h52⟩ := hk.pred 5 (by kernel_rfl) 52 rfl
                  obtain rfl := h52
                  refine wl_gno (by decide) rfl e52 (.inl rfl) ?_
                  exact wl_nil (qr_some ⟨Chg.refl _ _, rfl⟩)
                ·
                  intro F wF hER hk
                  obtain ⟨u52, e52, h52⟩ := hk.pred 5 (by kernel_rfl) 52 rfl
                  obtain rfl := h52
                  obtain ⟨u58, e58, h58⟩ := hk.pred 11 (by kernel_rfl) 58 rfl
                  obtain rfl := h58
                  refine wl_pick (by decide) e52 rfl ?_
                  exact wl_nil (qr_some ⟨Chg.refl _ _, rfl⟩)
                ·
                  intro F wF hER hk
                  obtain ⟨u59, e59, h59⟩ := hk.pred 12 (by kernel_rfl) 59 rfl
                  obtain rfl := h59
                  refine wl_move (by decide) e59 ?_
                  exact wl_nil (qr_some ⟨Chg.refl _ _, rfl⟩)
                ·
                  intro F wF hER hk
                  obtain ⟨u60, e60, h60⟩ := hk.pred 13 (by kernel_rfl) 60 rfl
                  obtain rfl := h60
                  refine wl_gno (by decide) rfl e60 (.inl rfl) ?_
                  exact wl_nil (qr_some ⟨Chg.refl _ _, rfl⟩)
                ·
                  intro F wF hER hk
                  obtain ⟨u60, e60, h60⟩ := hk.pred 13 (by kernel_rfl) 60 rfl
                  obtain rfl := h60
                  refine wl_gno (by decide) rfl e60 (.inl rfl) ?_
                  exact wl_nil (qr_some ⟨Chg.refl _ _, rfl⟩)
                ·
                  intro F wF hER hk
                  obtain ⟨u60, e60, h60⟩ := hk.pred 13 (by kernel_rfl) 60 rfl
                  obtain rfl := h60
                  refine wl_gno (by decide) rfl e60 (.inl rfl) ?_
                  exact wl_nil (qr_some ⟨Chg.refl _ _, rfl⟩)
                ·
                  intro F wF hER hk
                  obtain ⟨u60, e60, h60⟩ := hk.pred 13 (by kernel_rfl) 60 rfl
                  obtain rfl := h60
                  refine wl_gno (by decide) rfl e60 (.inl rfl) ?_
                  exact wl_nil (qr_some ⟨Chg.refl _ _, rfl⟩)
                ·
                  intro F wF hER hk
                  obtain ⟨u60, e60, h60⟩ := hk.pred 13 (by kernel_rfl) 60 rfl
                  obtain rfl := h60
                  refine wl_gno (by decide) rfl e60 (.inl rfl) ?_
                  exact wl_nil (qr_some ⟨Chg.refl _ _, rfl⟩)
                ·
                  intro F wF hER hk
                  obtain ⟨u60, e60, h60⟩ := hk.pred 13 (by kernel_rfl) 60 rfl
                  obtain rfl := h60
                  refine wl_gno (by decide) rfl e60 (.inl rfl) ?_
                  exact wl_nil (qr_some ⟨Chg.refl _ _, rfl⟩)
                ·
                  intro F wF hER hk
                  obtain ⟨u60, e60, h60⟩ := hk.pred 13 (by kernel_rfl) 60 rfl
                  obtain rfl := h60
                  refine wl_gno (by decide) rfl e60 (.inl rfl) ?_
                  exact wl_nil (qr_some ⟨Chg.refl _ _, rfl⟩)
                ·
                  intro F wF hER hk
                  obtain ⟨u60, e60, h60⟩ := hk.pred 13 (by kernel_rfl) 60 rfl
                  obtain rfl := h60
                  refine wl_gno (by decide) rfl e60 (.inl rfl) ?_
                  exact wl_nil (qr_some ⟨Chg.refl _ _, rfl⟩)
                ·
                  intro F wF hER hk
                  obtain ⟨u60, e60, h60⟩ := hk.pred 13 (by kernel_rfl) 60 rfl
                  obtain rfl := h60
                  refine wl_gno (by decide) rfl e60 (.inl rfl) ?_
                  exact wl_nil (qr_some ⟨Chg.refl _ _, rfl⟩)
                ·
                  intro F wF hER hk
                  obtain ⟨u60, e60, h60⟩ := hk.pred 13 (by kernel_rfl) 60 rfl
                  obtain rfl := h60
                  refine wl_gno (by decide) rfl e60 (.inl rfl) ?_
                  exact wl_nil (qr_some ⟨Chg.refl _ _, rfl⟩)
                ·
                  intro F wF hER hk
                  obtain ⟨u60, e60, h60⟩ := hk.pred 13 (by kernel_rfl) 60 rfl
                  obtain rfl := h60
                  refine wl_gno (by decide) rfl e60 (.inl rfl) ?_
                  exact wl_nil (qr_some ⟨Chg.refl _ _, rfl⟩)
                ·
                  intro F wF hER hk
                  obtain ⟨u60, e60, h60⟩ := hk.pred 13 (by kernel_rfl) 60 rfl
                  obtain rfl := h60
                  obtain ⟨u71, e71, h71⟩ := hk.pred 24 (by kernel_rfl) 71 rfl
                  obtain rfl := h71
                  refine wl_pick (by decide) e60 rfl ?_
                  exact wl_nil (qr_some ⟨Chg.refl _ _, rfl⟩)
              ·
                intro F wD hED hini hdo
                have e0 := hini 0 _ rfl (by kernel_rfl)
                have e2 := hini 2 _ rfl (by kernel_rfl)
                have e7 := hini 7 _ rfl (by kernel_rfl)
                have e8 := hini 8 _ rfl (by kernel_rfl)
                have e9 := hini 9 _ rfl (by kernel_rfl)
                have e10 := hini 10 _ rfl (by kernel_rfl)
                have e11 := hini 11 _ rfl (by kernel_rfl)
                obtain ⟨u72, e72, h72⟩ := hdo 25 72 rfl
                obtain rfl := h72
                refine wk_drop [(0, _), (2, _), (7, _), (8, _), (9, _), (10, _), (11, _), (72, _)] ⟨e0, e2, e7, e8, e9, e10, e11, e72, trivial⟩ ?_
                clear e0 e2 e7 e8 e9 e10 e11 e72 hini hdo
                replace h := h.ext hED
                replace hf := hf.ext hED
                replace ho := ho.ext hED
                replace hv := hv.ext hED
                replace hp := hp.ext hED
                refine wk_norm ?_
                refine wc_cond_f rfl ?_
                refine wc_skip ?_
                refine wk_blk_norm ?_
                refine wk_norm ?_
                refine wc_region ?_
                refine wl_move (by decide) rfl ?_
                refine wl_add (by decide) rfl rfl (w64 (by omega) (by omega)) ?_
                refine wl_assign (by decide) rfl ?_
                refine wl_nil ?_
                refine wk_norm ?_
                refine wk_drop [(0, .slice A H.length c), (2, .slice D order.length e), (7, .slice A7 v.length c7), (8, .slice (some ⟨gi, 0, none⟩) H.length H.length), (9, .int .i64 (k : Int)), (10, .int .i64 (j : Int)), (11, .int .i64 ((q + 1) : Int))] ⟨rfl, rfl, rfl, rfl, rfl, rfl, rfl, trivial⟩ (hKL2 _ _ (m2 := H.length - (q + 1)) ?_ ?_)
                ·
                  refine ⟨(q + 1), rfl, ?_, ?_, ?_, ?_, ?_, ?_, ?_, rfl⟩
                  · omega
                  · intro m hm h1 h2
                    by_cases e : m = q
                    · subst e; first | exact hlq | exact absurd h2 h11 | exact absurd h1 (by rw [h3]; simp)
                    · exact hal m (by omega) h1 h2
                  · exact hp
                  · exact h
                  · exact hf
                  · exact ho
                  · exact hv
                · omega
            ·
              replace h3 := eq_false_of_ne_true h3
              by_cases h11 : 0 < (hop H q).e
              ·
                apply wc_drawL [SP.eq _, SP.eq _, SP.eq _, SP.eq (.bool false), SP.eq (.bool true), SP.eq (.bool true), SP.eq _, SP.eq _, SP.eq _, SP.eq _, SP.eq _, SP.eq (.bool true), SP.eq (.bool true), SP.eq (.bool true), SP.eq _, SP.eq _, SP.eq _, SP.eq _, SP.eq _, SP.eq _, SP.eq _, SP.eq _, SP.eq _, SP.eq _, SP.eq _, SP.eq _] (by kernel_rfl) (by kernel_rfl)
                · refine ⟨?_, ?_, ?_, ?_, ?_, ?_, ?_, ?_, ?_, ?_, ?_, ?_, ?_, ?_, ?_, ?_, ?_, ?_, ?_, ?_, ?_, ?_, ?_, ?_, ?_, ?_, trivial⟩
                  ·
                    intro F wF hER hk
                    have e8 := hk.init 8 _ rfl (by kernel_rfl)
                    refine wl_move (by decide) e8 ?_
                    exact wl_nil (qr_some ⟨Chg.refl _ _, rfl⟩)
                  ·
                    intro F wF hER hk
                    have e11 := hk.init 11 _ rfl (by kernel_rfl)
                    refine wl_move (by decide) e11 ?_
                    exact wl_nil (qr_some ⟨Chg.refl _ _, rfl⟩)
                  ·
                    intro F wF hER hk
                    obtain ⟨u47, e47, h47⟩ := hk.pred 0 (by kernel_rfl) 47 rfl
                    obtain rfl := h47
                    obtain ⟨u48, e48, h48⟩ := hk.pred 1 (by kernel_rfl) 48 rfl
                    obtain rfl := h48
                    refine wl_idx0 (by decide) Try.sl69 e47 e48 hAQ q rfl (by omega) ?_
                    exact wl_nil (qr_some ⟨Chg.refl _ _, rfl⟩)
                  ·
                    intro F wF hER hk
                    obtain ⟨u49, e49, h49⟩ := hk.pred 2 (by kernel_rfl) 49 rfl
                    obtain rfl := h49
                    refine wl_load (by decide) Try.sc4 e49 (hatQ.ext hER).head ?_
                    refine wl_re (k := 50) (v := .bool false) rfl (congrArg Value.bool h3) ?_
                    exact wl_nil (qr_re ⟨Chg.refl _ _, rfl⟩)
                  ·
                    intro F wF hER hk
                    obtain ⟨u50, e50, h50⟩ := hk.pred 3 (by kernel_rfl) 50 rfl
                    obtain rfl := h50
                    first | refine wl_notd (by decide) e50 ?_ | refine wl_not (by decide) e50 ?_
                    exact wl_nil (qr_some ⟨Chg.refl _ _, rfl⟩)
                  ·
                    intro F wF hER hk
                    obtain ⟨u51, e51, h51⟩ := hk.pred 4 (by kernel_rfl) 51 rfl
                    obtain rfl := h51
                    refine wl_move (by decide) e51 ?_
                    exact wl_nil (qr_some ⟨Chg.refl _ _, rfl⟩)
                  ·
                    intro F wF hER hk
                    have e0 := hk.init 0 _ rfl (by kernel_rfl)
                    obtain ⟨u52, e52, h52⟩ := hk.pred 5 (by kernel_rfl) 52 rfl
                    obtain rfl := h52
                    refine wl_gyes rfl e52 ?_
                    refine wl_move (by decide) e0 ?_
                    exact wl_nil (qr_some ⟨Chg.refl _ _, rfl⟩)
                  ·
                    intro F wF hER hk
                    have e11 := hk.init 11 _ rfl (by kernel_rfl)
                    obtain ⟨u52, e52, h52⟩ := hk.pred 5 (by kernel_rfl) 52 rfl
                    obtain rfl := h52
                    refine wl_gyes rfl e52 ?_
                    refine wl_move (by decide) e11 ?_
                    exact wl_nil (qr_some ⟨Chg.refl _ _, rfl⟩)
                  ·
                    intro F wF hER hk
                    obtain ⟨u53, e53, h53⟩ := hk.pred 6 (by kernel_rfl) 53 rfl
                    obtain rfl := h53
                    obtain ⟨u54, e54, h54⟩ := hk.pred 7 (by kernel_rfl) 54 rfl
                    obtain rfl := h54
                    obtain ⟨u52, e52, h52⟩ := hk.pred 5 (by kernel_rfl) 52 rfl
                    obtain rfl := h52
                    refine wl_gyes rfl e52 ?_
                    refine wl_idx0 (by decide) Try.sl22 e53 e54 hAL q rfl (by omega) ?_
                    exact wl_nil (qr_some ⟨Chg.refl _ _, rfl⟩)
                  ·
                    intro F wF hER hk
                    obtain ⟨u55, e55, h55⟩ := hk.pred 8 (by kernel_rfl) 55 rfl
                    obtain rfl := h55
                    obtain ⟨u52, e52, h52⟩ := hk.pred 5 (by kernel_rfl) 52 rfl
                    obtain rfl := h52
                    refine wl_gyes rfl e52 ?_
                    refine wl_fld (by decide) Try.fld45_3 e55 ?_
                    exact wl_nil (qr_some ⟨Chg.refl _ _, rfl⟩)
                  ·
                    intro F wF hER hk
                    obtain ⟨u56, e56, h56⟩ := hk.pred 9 (by kernel_rfl) 56 rfl
                    obtain rfl := h56
                    obtain ⟨u52, e52, h52⟩ := hk.pred 5 (by kernel_rfl) 52 rfl
                    obtain rfl := h52
                    refine wl_gyes rfl e52 ?_
                    refine wl_load (by decide) Try.sc3 e56 ((hatL.ext hER).get rfl) ?_
                    exact wl_nil (qr_some ⟨Chg.refl _ _, rfl⟩)
                  ·
                    intro F wF hER hk
                    obtain ⟨u57, e57, h57⟩ := hk.pred 10 (by kernel_rfl) 57 rfl
                    obtain rfl := h57
                    obtain ⟨u52, e52, h52⟩ := hk.pred 5 (by kernel_rfl) 52 rfl
                    obtain rfl := h52
                    refine wl_gyes rfl e52 ?_
                    refine wl_gtr (by decide) e57 rfl ?_
                    refine wl_re (k := 58) (v := .bool true) rfl (congrArg Value.bool (decide_eq_true (by first | exact h11 | omega | simpa using h11))) ?_
                    exact wl_nil (qr_re ⟨Chg.refl _ _, rfl⟩)
                  ·
                    intro F wF hER hk
                    obtain ⟨u52, e52, h52⟩ := hk.pred 5 (by kernel_rfl) 52 rfl
                    obtain rfl := h52
                    obtain ⟨u58, e58, h58⟩ := hk.pred 11 (by kernel_rfl) 58 rfl
                    obtain rfl := h58
                    refine wl_pick (by decide) e52 e58 ?_
                    exact wl_nil (qr_some ⟨Chg.refl _ _, rfl⟩)
                  ·
                    intro F wF hER hk
                    obtain ⟨u59, e59, h59⟩ := hk.pred 12 (by kernel_rfl) 59 rfl
                    obtain rfl := h59
                    refine wl_move (by decide) e59 ?_
                    exact wl_nil (qr_some ⟨Chg.refl _ _, rfl⟩)
                  ·
                    intro F wF hER hk
                    have e0 := hk.init 0 _ rfl (by kernel_rfl)
                    obtain ⟨u60, e60, h60⟩ := hk.pred 13 (by kernel_rfl) 60 rfl
                    obtain rfl := h60
                    refine wl_gyes rfl e60 ?_
                    refine wl_move (by decide) e0 ?_
                    exact wl_nil (qr_some ⟨Chg.refl _ _, rfl⟩)
                  ·
                    intro F wF hER hk
                    have e11 := hk.init 11 _ rfl (by kernel_rfl)
                    obtain ⟨u60, e60, h60⟩ := hk.pred 13 (by kernel_rfl) 60 rfl
                    obtain rfl := h60
                    refine wl_gyes rfl e60 ?_
                    refine wl_move (by decide) e11 ?_
                    exact wl_nil (qr_some ⟨Chg.refl _ _, rfl⟩)
                  ·
                    intro F wF hER hk
                    obtain ⟨u61, e61, h61⟩ := hk.pred 14 (by kernel_rfl) 61 rfl
                    obtain rfl := h61
                    obtain ⟨u62, e62, h62⟩ := hk.pred 15 (by kernel_rfl) 62 rfl
                    obtain rfl := h62
                    obtain ⟨u60, e60, h60⟩ := hk.pred 13 (by kernel_rfl) 60 rfl
                    obtain rfl := h60
                    refine wl_gyes rfl e60 ?_
                    refine wl_idx0 (by decide) Try.sl22 e61 e62 hAL q rfl (by omega) ?_
                    exact wl_nil (qr_some ⟨Chg.refl _ _, rfl⟩)
                  ·
                    intro F wF hER hk
                    obtain ⟨u63, e63, h63⟩ := hk.pred 16 (by kernel_rfl) 63 rfl
                    obtain rfl := h63
                    obtain ⟨u60, e60, h60⟩ := hk.pred 13 (by kernel_rfl) 60 rfl
                    obtain rfl := h60
                    refine wl_gyes rfl e60 ?_
                    refine wl_fld (by decide) Try.fld45_3 e63 ?_
                    exact wl_nil (qr_some ⟨Chg.refl _ _, rfl⟩)
                  ·
                    intro F wF hER hk
                    obtain ⟨u64, e64, h64⟩ := hk.pred 17 (by kernel_rfl) 64 rfl
                    obtain rfl := h64
                    obtain ⟨u60, e60, h60⟩ := hk.pred 13 (by kernel_rfl) 60 rfl
                    obtain rfl := h60
                    refine wl_gyes rfl e60 ?_
                    refine wl_load (by decide) Try.sc3 e64 ((hatL.ext hER).get rfl) ?_
                    exact wl_nil (qr_some ⟨Chg.refl _ _, rfl⟩)
                  ·
                    intro F wF hER hk
                    have e0 := hk.init 0 _ rfl (by kernel_rfl)
                    obtain ⟨u60, e60, h60⟩ := hk.pred 13 (by kernel_rfl) 60 rfl
                    obtain rfl := h60
                    refine wl_gyes rfl e60 ?_
                    refine wl_move (by decide) e0 ?_
                    exact wl_nil (qr_some ⟨Chg.refl _ _, rfl⟩)
                  ·
                    intro F wF hER hk
                    have e10 := hk.init 10 _ rfl (by kernel_rfl)
                    obtain ⟨u60, e60, h60⟩ := hk.pred 13 (by kernel_rfl) 60 rfl
                    obtain rfl := h60
                    refine wl_gyes rfl e60 ?_
                    refine wl_move (by decide) e10 ?_
                    exact wl_nil (qr_some ⟨Chg.refl _ _, rfl⟩)
                  ·
                    intro F wF hER hk
                    obtain ⟨u66, e66, h66⟩ := hk.pred 19 (by kernel_rfl) 66 rfl
                    obtain rfl := h66
                    obtain ⟨u67, e67, h67⟩ := hk.pred 20 (by kernel_rfl) 67 rfl
                    obtain rfl := h67
                    obtain ⟨u60, e60, h60⟩ := hk.pred 13 (by kernel_rfl) 60 rfl
                    obtain rfl := h60
                    refine wl_gyes rfl e60 ?_
                    refine wl_idx0 (by decide) Try.sl22 e66 e67 hAJ j rfl (by omega) ?_
                    exact wl_nil (qr_some ⟨Chg.refl _ _, rfl⟩)
                  ·
                    intro F wF hER hk
                    obtain ⟨u68, e68, h68⟩ := hk.pred 21 (by kernel_rfl) 68 rfl
                    obtain rfl := h68
                    obtain ⟨u60, e60, h60⟩ := hk.pred 13 (by kernel_rfl) 60 rfl
                    obtain rfl := h60
                    refine wl_gyes rfl e60 ?_
                    refine wl_fld (by decide) Try.fld45_2 e68 ?_
                    exact wl_nil (qr_some ⟨Chg.refl _ _, rfl⟩)
                  ·
                    intro F wF hER hk
                    obtain ⟨u69, e69, h69⟩ := hk.pred 22 (by kernel_rfl) 69 rfl
                    obtain rfl := h69
                    obtain ⟨u60, e60, h60⟩ := hk.pred 13 (by kernel_rfl) 60 rfl
                    obtain rfl := h60
                    refine wl_gyes rfl e60 ?_
                    refine wl_load (by decide) Try.sc3 e69 ((hatJ.ext hER).get rfl) ?_
                    exact wl_nil (qr_some ⟨Chg.refl _ _, rfl⟩)
                  ·
                    intro F wF hER hk
                    obtain ⟨u65, e65, h65⟩ := hk.pred 18 (by kernel_rfl) 65 rfl
                    obtain rfl := h65
                    obtain ⟨u70, e70, h70⟩ := hk.pred 23 (by kernel_rfl) 70 rfl
                    obtain rfl := h70
                    obtain ⟨u60, e60, h60⟩ := hk.pred 13 (by kernel_rfl) 60 rfl
                    obtain rfl := h60
                    refine wl_gyes rfl e60 ?_
                    refine wl_lss (by decide) e65 e70 ?_
                    exact wl_nil (qr_some ⟨Chg.refl _ _, rfl⟩)
                  ·
                    intro F wF hER hk
                    obtain ⟨u60, e60, h60⟩ := hk.pred 13 (by kernel_rfl) 60 rfl
                    obtain rfl := h60
                    obtain ⟨u71, e71, h71⟩ := hk.pred 24 (by kernel_rfl) 71 rfl
                    obtain rfl := h71
                    refine wl_pick (by decide) e60 e71 ?_
                    exact wl_nil (qr_some ⟨Chg.refl _ _, rfl⟩)
                ·
                  intro F wD hED hini hdo
                  have e0 := hini 0 _ rfl (by kernel_rfl)
                  have e2 := hini 2 _ rfl (by kernel_rfl)
                  have e7 := hini 7 _ rfl (by kernel_rfl)
                  have e8 := hini 8 _ rfl (by kernel_rfl)
                  have e9 := hini 9 _ rfl (by kernel_rfl)
                  have e10 := hini 10 _ rfl (by kernel_rfl)
                  have e11 := hini 11 _ rfl (by kernel_rfl)
                  obtain ⟨u72, e72, h72⟩ := hdo 25 72 rfl
                  obtain rfl := h72
                  refine wk_drop [(0, _), (2, _), (7, _), (8, _), (9, _), (10, _), (11, _), (72, _)] ⟨e0, e2, e7, e8, e9, e10, e11, e72, trivial⟩ ?_
                  clear e0 e2 e7 e8 e9 e10 e11 e72 hini hdo
                  replace h := h.ext hED
                  replace hf := hf.ext hED
                  replace ho := ho.ext hED
                  replace hv := hv.ext hED
                  replace hp := hp.ext hED
                  refine wk_norm ?_
                  refine wc_cond rfl (fun hlq => ?_) (fun hlq => ?_)
                  ·
                    try replace hlq := of_decide_eq_true hlq
                    have hno := explR_no3 (H := H) (s := s) (v := v) (r := order.drop (k + 1)) (j := j) (k := q) (by omega) h3 h11 hlq
                    refine wc_seq ?_
                    refine wc_region ?_
                    refine wl_assign (by decide) rfl ?_
                    refine wl_nil ?_
                    refine wk_norm ?_
                    refine wc_ret ?_
                    refine wk_blk_ret ?_
                    refine wk_then_ret ?_
                    refine wk_then_ret ?_
                    refine wk_blk_ret ?_
                    refine wk_then_ret ?_
                    refine wk_blk_ret ?_
                    refine wk_then_ret ?_
                    refine wk_then_ret ?_
                    refine wk_blk_ret ?_
                    refine wk_then_ret ?_
                    refine wk_post1 (.inl rfl) Try.results23 rfl ?_
                    exact ⟨_, rfl, by rw [hx, hdk]; exact congrArg Value.bool (hno).symm, hp.chg⟩
                  ·
                    try replace hlq := of_decide_eq_false hlq
                    refine wc_skip ?_
                    refine wk_blk_norm ?_
                    refine wk_norm ?_
                    refine wc_region ?_
                    refine wl_move (by decide) rfl ?_
                    refine wl_add (by decide) rfl rfl (w64 (by omega) (by omega)) ?_
                    refine wl_assign (by decide) rfl ?_
                    refine wl_nil ?_
                    refine wk_norm ?_
                    refine wk_drop [(0, .slice A H.length c), (2, .slice D order.length e), (7, .slice A7 v.length c7), (8, .slice (some ⟨gi, 0, none⟩) H.length H.length), (9, .int .i64 (k : Int)), (10, .int .i64 (j : Int)), (11, .int .i64 ((q + 1) : Int))] ⟨rfl, rfl, rfl, rfl, rfl, rfl, rfl, trivial⟩ (hKL2 _ _ (m2 := H.length - (q + 1)) ?_ ?_)
                    ·
                      refine ⟨(q + 1), rfl, ?_, ?_, ?_, ?_, ?_, ?_, ?_, rfl⟩
                      · omega
                      · intro m hm h1 h2
                        by_cases e : m = q
                        · subst e; first | exact hlq | exact absurd h2 h11 | exact absurd h1 (by rw [h3]; simp)
                        · exact hal m (by omega) h1 h2
                      · exact hp
                      · exact h
                      · exact hf
                      · exact ho
                      · exact hv
                    · omega
              ·
                apply wc_drawL [SP.eq _, SP.eq _, SP.eq _, SP.eq (.bool false), SP.eq (.bool true), SP.eq (.bool true), SP.eq _, SP.eq _, SP.eq _, SP.eq _, SP.eq _, SP.eq (.bool false), SP.eq (.bool false), SP.eq (.bool false), SP.eq undef, SP.eq undef, SP.eq undef, SP.eq undef, SP.eq undef, SP.eq undef, SP.eq undef, SP.eq undef, SP.eq undef, SP.eq undef, SP.eq undef, SP.eq (.bool false)] (by kernel_rfl) (by kernel_rfl)
                · refine ⟨?_, ?_, ?_, ?_, ?_, ?_, ?_, ?_, ?_, ?_, ?_, ?_, ?_, ?_, ?_, ?_, ?_, ?_, ?_, ?_, ?_, ?_, ?_, ?_, ?_, ?_, trivial⟩
                  ·
                    intro F wF hER hk
                    have e8 := hk.init 8 _ rfl (by kernel_rfl)
                    refine wl_move (by decide) e8 ?_
                    exact wl_nil (qr_some ⟨Chg.refl _ _, rfl⟩)
                  ·
                    intro F wF hER hk
                    have e11 := hk.init 11 _ rfl (by kernel_rfl)
                    refine wl_move (by decide) e11 ?_
                    exact wl_nil (qr_some ⟨Chg.refl _ _, rfl⟩)
                  ·
                    intro F wF hER hk
                    obtain ⟨u47, e47, h47⟩ := hk.pred 0 (by kernel_rfl) 47 rfl
                    obtain rfl := h47
                    obtain ⟨u48, e48, h48⟩ := hk.pred 1 (by kernel_rfl) 48 rfl
                    obtain rfl := h48
                    refine wl_idx0 (by decide) Try.sl69 e47 e48 hAQ q rfl (by omega) ?_
                    exact wl_nil (qr_some ⟨Chg.refl _ _, rfl⟩)
                  ·
                    intro F wF hER hk
                    obtain ⟨u49, e49, h49⟩ := hk.pred 2 (by kernel_rfl) 49 rfl
                    obtain rfl := h49
                    refine wl_load (by decide) Try.sc4 e49 (hatQ.ext hER).head ?_
                    refine wl_re (k := 50) (v := .bool false) rfl (congrArg Value.bool h3) ?_
                    exact wl_nil (qr_re ⟨Chg.refl _ _, rfl⟩)
                  ·
                    intro F wF hER hk
                    obtain ⟨u50, e50, h50⟩ := hk.pred 3 (by kernel_rfl) 50 rfl
                    obtain rfl := h50
                    first | refine wl_notd (by decide) e50 ?_ | refine wl_not (by decide) e50 ?_
                    exact wl_nil (qr_some ⟨Chg.refl _ _, rfl⟩)
                  ·
                    intro F wF hER hk
                    obtain ⟨u51, e51, h51⟩ := hk.pred 4 (by kernel_rfl) 51 rfl
                    obtain rfl := h51
                    refine wl_move (by decide) e51 ?_
                    exact wl_nil (qr_some ⟨Chg.refl _ _, rfl⟩)
                  ·
                    intro F wF hER hk
                    have e0 := hk.init 0 _ rfl (by kernel_rfl)
                    obtain ⟨u52, e52, h52⟩ := hk.pred 5 (by kernel_rfl) 52 rfl
                    obtain rfl := h52
                    refine wl_gyes rfl e52 ?_
                    refine wl_move (by decide) e0 ?_
                    exact wl_nil (qr_some ⟨Chg.refl _ _, rfl⟩)
                  ·
                    intro F wF hER hk
                    have e11 := hk.init 11 _ rfl (by kernel_rfl)
                    obtain ⟨u52, e52, h52⟩ := hk.pred 5 (by kernel_rfl) 52 rfl
                    obtain rfl := h52
                    refine wl_gyes rfl e52 ?_
                    refine wl_move (by decide) e11 ?_
                    exact wl_nil (qr_some ⟨Chg.refl _ _, rfl⟩)
                  ·
                    intro F wF hER hk
                    obtain ⟨u53, e53, h53⟩ := hk.pred 6 (by kernel_rfl) 53 rfl
                    obtain rfl := h53
                    obtain ⟨u54, e54, h54⟩ := hk.pred 7 (by kernel_rfl) 54 rfl
                    obtain rfl := h54
                    obtain ⟨u52, e52, h52⟩ := hk.pred 5 (by kernel_rfl) 52 rfl
                    obtain rfl := h52
                    refine wl_gyes rfl e52 ?_
                    refine wl_idx0 (by decide) Try.sl22 e53 e54 hAL q rfl (by omega) ?_
                    exact wl_nil (qr_some ⟨Chg.refl _ _, rfl⟩)
                  ·
                    intro F wF hER hk
                    obtain ⟨u55, e55, h55⟩ := hk.pred 8 (by kernel_rfl) 55 rfl
                    obtain rfl := h55
                    obtain ⟨u52, e52, h52⟩ := hk.pred 5 (by kernel_rfl) 52 rfl
                    obtain rfl := h52
                    refine wl_gyes rfl e52 ?_
                    refine wl_fld (by decide) Try.fld45_3 e55 ?_
                    exact wl_nil (qr_some ⟨Chg.refl _ _, rfl⟩)
                  ·
                    intro F wF hER hk
                    obtain ⟨u56, e56, h56⟩ := hk.pred 9 (by kernel_rfl) 56 rfl
                    obtain rfl := h56
                    obtain ⟨u52, e52, h52⟩ := hk.pred 5 (by kernel_rfl) 52 rfl
                    obtain rfl := h52
                    refine wl_gyes rfl e52 ?_
                    refine wl_load (by decide) Try.sc3 e56 ((hatL.ext hER).get rfl) ?_
                    exact wl_nil (qr_some ⟨Chg.refl _ _, rfl⟩)
                  ·
                    intro F wF hER hk
                    obtain ⟨u57, e57, h57⟩ := hk.pred 10 (by kernel_rfl) 57 rfl
                    obtain rfl := h57
                    obtain ⟨u52, e52, h52⟩ := hk.pred 5 (by kernel_rfl) 52 rfl
                    obtain rfl := h52
                    refine wl_gyes rfl e52 ?_
                    refine wl_gtr (by decide) e57 rfl ?_
                    refine wl_re (k := 58) (v := .bool false) rfl (congrArg Value.bool (decide_eq_false (by first | exact h11 | omega | simpa using h11))) ?_
                    exact wl_nil (qr_re ⟨Chg.refl _ _, rfl⟩)
                  ·
                    intro F wF hER hk
                    obtain ⟨u52, e52, h52⟩ := hk.pred 5 (by kernel_rfl) 52 rfl
                    obtain rfl := h52
                    obtain ⟨u58, e58, h58⟩ := hk.pred 11 (by kernel_rfl) 58 rfl
                    obtain rfl := h58
                    refine wl_pick (by decide) e52 e58 ?_
                    exact wl_nil (qr_some ⟨Chg.refl _ _, rfl⟩)
                  ·
                    intro F wF hER hk
                    obtain ⟨u59, e59, h59⟩ := hk.pred 12 (by kernel_rfl) 59 rfl
                    obtain rfl := h59
                    refine wl_move (by decide) e59 ?_
                    exact wl_nil (qr_some ⟨Chg.refl _ _, rfl⟩)
                  ·
                    intro F wF hER hk
                    obtain ⟨u60, e60, h60⟩ := hk.pred 13 (by kernel_rfl) 60 rfl
                    obtain rfl := h60
                    refine wl_gno (by decide) rfl e60 (.inl rfl) ?_
                    exact wl_nil (qr_some ⟨Chg.refl _ _, rfl⟩)
                  ·
                    intro F wF hER hk
                    obtain ⟨u60, e60, h60⟩ := hk.pred 13 (by kernel_rfl) 60 rfl
                    obtain rfl := h60
                    refine wl_gno (by decide) rfl e60 (.inl rfl) ?_
                    exact wl_nil (qr_some ⟨Chg.refl _ _, rfl⟩)
                  ·
                    intro F wF hER hk
                    obtain ⟨u60, e60, h60⟩ := hk.pred 13 (by kernel_rfl) 60 rfl
                    obtain rfl := h60
                    refine wl_gno (by decide) rfl e60 (.inl rfl) ?_
                    exact wl_nil (qr_some ⟨Chg.refl _ _, rfl⟩)
                  ·
                    intro F wF hER hk
                    obtain ⟨u60, e60, h60⟩ := hk.pred 13 (by kernel_rfl) 60 rfl
                    obtain rfl := h60
                    refine wl_gno (by decide) rfl e60 (.inl rfl) ?_
                    exact wl_nil (qr_some ⟨Chg.refl _ _, rfl⟩)
                  ·
                    intro F wF hER hk
                    obtain ⟨u60, e60, h60⟩ := hk.pred 13 (by kernel_rfl) 60 rfl
                    obtain rfl := h60
                    refine wl_gno (by decide) rfl e60 (.inl rfl) ?_
                    exact wl_nil (qr_some ⟨Chg.refl _ _, rfl⟩)
                  ·
                    intro F wF hER hk
                    obtain ⟨u60, e60, h60⟩ := hk.pred 13 (by kernel_rfl) 60 rfl
                    obtain rfl := h60
                    refine wl_gno (by decide) rfl e60 (.inl rfl) ?_
                    exact wl_nil (qr_some ⟨Chg.refl _ _, rfl⟩)
                  ·
                    intro F wF hER hk
                    obtain ⟨u60, e60, h60⟩ := hk.pred 13 (by kernel_rfl) 60 rfl
                    obtain rfl := h60
                    refine wl_gno (by decide) rfl e60 (.inl rfl) ?_
                    exact wl_nil (qr_some ⟨Chg.refl _ _, rfl⟩)
                  ·
                    intro F wF hER hk
                    obtain ⟨u60, e60, h60⟩ := hk.pred 13 (by kernel_rfl) 60 rfl
                    obtain rfl := h60
                    refine wl_gno (by decide) rfl e60 (.inl rfl) ?_
                    exact wl_nil (qr_some ⟨Chg.refl _ _, rfl⟩)
                  ·
                    intro F wF hER hk
                    obtain ⟨u60, e60, h60⟩ := hk.pred 13 (by kernel_rfl) 60 rfl
                    obtain rfl := h60
                    refine wl_gno (by decide) rfl e60 (.inl rfl) ?_
                    exact wl_nil (qr_some ⟨Chg.refl _ _, rfl⟩)
                  ·
                    intro F wF hER hk
                    obtain ⟨u60, e60, h60⟩ := hk.pred 13 (by kernel_rfl) 60 rfl
                    obtain rfl := h60
                    refine wl_gno (by decide) rfl e60 (.inl rfl) ?_
                    exact wl_nil (qr_some ⟨Chg.refl _ _, rfl⟩)
                  ·
                    intro F wF hER hk
                    obtain ⟨u60, e60, h60⟩ := hk.pred 13 (by kernel_rfl) 60 rfl
                    obtain rfl := h60
                    refine wl_gno (by decide) rfl e60 (.inl rfl) ?_
                    exact wl_nil (qr_some ⟨Chg.refl _ _, rfl⟩)
                  ·
                    intro F wF hER hk
                    obtain ⟨u60, e60, h60⟩ := hk.pred 13 (by kernel_rfl) 60 rfl
                    obtain rfl := h60
                    obtain ⟨u71, e71, h71⟩ := hk.pred 24 (by kernel_rfl) 71 rfl
                    obtain rfl := h71
                    refine wl_pick (by decide) e60 rfl ?_
                    exact wl_nil (qr_some ⟨Chg.refl _ _, rfl⟩)
                ·
                  intro F wD hED hini hdo
                  have e0 := hini 0 _ rfl (by kernel_rfl)
                  have e2 := hini 2 _ rfl (by kernel_rfl)
                  have e7 := hini 7 _ rfl (by kernel_rfl)
                  have e8 := hini 8 _ rfl (by kernel_rfl)
                  have e9 := hini 9 _ rfl (by kernel_rfl)
                  have e10 := hini 10 _ rfl (by kernel_rfl)
                  have e11 := hini 11 _ rfl (by kernel_rfl)
                  obtain ⟨u72, e72, h72⟩ := hdo 25 72 rfl
                  obtain rfl := h72
                  refine wk_drop [(0, _), (2, _), (7, _), (8, _), (9, _), (10, _), (11, _), (72, _)] ⟨e0, e2, e7, e8, e9, e10, e11, e72, trivial⟩ ?_
                  clear e0 e2 e7 e8 e9 e10 e11 e72 hini hdo
                  replace h := h.ext hED
                  replace hf := hf.ext hED
                  replace ho := ho.ext hED
                  replace hv := hv.ext hED
                  replace hp := hp.ext hED
                  refine wk_norm ?_
                  refine wc_cond_f rfl ?_
                  refine wc_skip ?_
                  refine wk_blk_norm ?_
                  refine wk_norm ?_
                  refine wc_region ?_
                  refine wl_move (by decide) rfl ?_
                  refine wl_add (by decide) rfl rfl (w64 (by omega) (by omega)) ?_
                  refine wl_assign (by decide) rfl ?_
                  refine wl_nil ?_
                  refine wk_norm ?_
                  refine wk_drop [(0, .slice A H.length c), (2, .slice D order.length e), (7, .slice A7 v.length c7), (8, .slice (some ⟨gi, 0, none⟩) H.length H.length), (9, .int .i64 (k : Int)), (10, .int .i64 (j : Int)), (11, .int .i64 ((q + 1) : Int))] ⟨rfl, rfl, rfl, rfl, rfl, rfl, rfl, trivial⟩ (hKL2 _ _ (m2 := H.length - (q + 1)) ?_ ?_)
                  ·
                    refine ⟨(q + 1), rfl, ?_, ?_, ?_, ?_, ?_, ?_, ?_, rfl⟩
                    · omega
                    · intro m hm h1 h2
                      by_cases e : m = q
                      · subst e; first | exact hlq | exact absurd h2 h11 | exact absurd h1 (by rw [h3]; simp)
                      · exact hal m (by omega) h1 h2
                    · exact hp
                    · exact h
                    · exact hf
                    · exact ho
                    · exact hv
                  · omega
          ·
            try replace hlt2 := of_decide_eq_false hlt2
            have hall : ∀ m, m < H.length → s m = false → 0 < (hop H m).e → ¬ (hop H m).e < (hop H j).b := fun m hm => hal m (by omega)
            refine wc_exit ?_
            refine wk_then_exit ?_
            refine wk_then_exit ?_
            refine wk_blk_exit ?_
            refine wk_norm ?_
            refine wc_seq ?_
            refine wc_seq ?_
            refine wc_region ?_
            refine wl_move (by decide) rfl ?_
            obtain ⟨aJ, BJ, dJ, hAJ, hatJ, hvJ⟩ := HS.el h j hjl
            refine wl_move (by decide) rfl ?_
            refine wl_idx0 (by decide) Try.sl22 rfl rfl hAJ j rfl (by omega) ?_
            refine wl_fld (by decide) Try.fld45_0 rfl ?_
            refine wl_load (by decide) Try.sc4 rfl (hatJ.get rfl) ?_
            first | refine wl_notd (by decide) rfl ?_ | refine wl_not (by decide) rfl ?_
            refine wl_move (by decide) rfl ?_
            refine wl_gsplit (dj := 79) rfl (fun hwr => ?_) (fun hwr => ?_)
            ·
              try replace hwr := of_decide_eq_true hwr
              replace hwr : (hop H j).wr = false := by simpa using hwr
              refine wl_gyes rfl rfl ?_
              refine wl_move (by decide) rfl ?_
              refine wl_gyes rfl rfl ?_
              refine wl_move (by decide) rfl ?_
              refine wl_gyes rfl rfl ?_
              refine wl_idx0 (by decide) Try.sl22 rfl rfl hAJ j rfl (by omega) ?_
              refine wl_gyes rfl rfl ?_
              refine wl_fld (by decide) Try.fld45_1 rfl ?_
              refine wl_gyes rfl rfl ?_
              refine wl_load (by decide) Try.sc23 rfl (hatJ.get rfl) ?_
              refine wl_gyes rfl rfl ?_
              refine wl_move (by decide) rfl ?_
              refine wl_gyes rfl rfl ?_
              have hcl := eqBytes_ok hvJ hv
              refine wl_call (by decide) Try.cl22 rfl hcl ?_
              clear hcl
              rintro _ w1 ⟨rfl, hE1⟩
              replace h := h.ext hE1
              replace hf := hf.ext hE1
              replace ho := ho.ext hE1
              replace hv := hv.ext hE1
              replace hatJ := hatJ.ext hE1
              replace hvJ := hvJ.ext hE1
              replace hp := hp.ext hE1
              refine wl_gyes rfl rfl ?_
              first | refine wl_notd (by decide) rfl ?_ | refine wl_not (by decide) rfl ?_
              refine wl_pick (by decide) rfl rfl ?_
              refine wl_nil ?_
              refine wk_norm ?_
              refine wc_cond rfl (fun hne => ?_) (fun hne => ?_)
              ·
                try replace hne := of_decide_eq_true hne
                have hno := explR_no4 (H := H) (s := s) (v := v) (r := order.drop (k + 1)) hwr hne
                refine wc_seq ?_
                refine wc_region ?_
                refine wl_assign (by decide) rfl ?_
                refine wl_nil ?_
                refine wk_norm ?_
                refine wc_ret ?_
                refine wk_then_ret ?_
                refine wk_blk_ret ?_
                refine wk_then_ret ?_
                refine wk_then_ret ?_
                refine wk_blk_ret ?_
                refine wk_then_ret ?_
                refine wk_post1 (.inl rfl) Try.results23 rfl ?_
                exact ⟨_, rfl, by rw [hx, hdk]; exact congrArg Value.bool (hno).symm, hp.chg⟩
              ·
                try replace hne := of_decide_eq_false hne
                have hval : (hop H j).wr = true ∨ (hop H j).val = v := .inr (Decidable.not_not.1 hne)
                refine wc_skip ?_
                refine wk_norm ?_
                refine wc_seq_cut (fun L' w' => ∃ (A8 : Option Addr), ∃ (c8 : Nat), L' = [(0, .slice A H.length c), (2, .slice D order.length e), (7, .slice A8 (if (hop H j).wr then (hop H j).val else v).length c8), (8, .slice (some ⟨gi, 0, none⟩) H.length H.length), (9, .int .i64 (k : Int)), (10, .int .i64 (j : Int))] ∧ (HP w (fun _ => False) (fun b => b < w.heap.size) w' [itR 4 1 (some ⟨gi, 0, none⟩) H.length H.length (insC H.length s)]) ∧ (HS (fun b => b < w.heap.size) w' A c H) ∧ (BS (fun b => b < w.heap.size) w' B d first) ∧ (IS (fun b => b < w.heap.size) w' D e order) ∧ (BS (fun b => b < w.heap.size) w' A8 c8 (if (hop H j).wr then (hop H j).val else v))) (fun K hK => ?_) ?_
                ·
                  refine wc_seq ?_
                  refine wc_region ?_
                  refine wl_move (by decide) rfl ?_
                  refine wl_move (by decide) rfl ?_
                  refine wl_idx0 (by decide) Try.sl22 rfl rfl hAJ j rfl (by omega) ?_
                  refine wl_fld (by decide) Try.fld45_0 rfl ?_
                  refine wl_load (by decide) Try.sc4 rfl (hatJ.get rfl) ?_
                  refine wl_nil ?_
                  refine wk_norm ?_
                  refine wc_cond rfl (fun hwr2 => ?_) (fun hwr2 => ?_)
                  ·
                    try replace hwr2 := of_decide_eq_true hwr2
                    have hnv : (if (hop H j).wr then (hop H j).val else v) = (hop H j).val := by rw [if_pos hwr2]
                    refine wc_region ?_
                    refine wl_move (by decide) rfl ?_
                    refine wl_move (by decide) rfl ?_
                    refine wl_idx0 (by decide) Try.sl22 rfl rfl hAJ j rfl (by omega) ?_
                    refine wl_fld (by decide) Try.fld45_1 rfl ?_
                    refine wl_load (by decide) Try.sc23 rfl (hatJ.get rfl) ?_
                    refine wl_assign (by decide) rfl ?_
                    refine wl_nil ?_
                    refine wk_norm ?_
                    refine wk_drop [(0, .slice A H.length c), (2, .slice D order.length e), (7, .slice _ (if (hop H j).wr then (hop H j).val else v).length _), (8, .slice (some ⟨gi, 0, none⟩) H.length H.length), (9, .int .i64 (k : Int)), (10, .int .i64 (j : Int))] ⟨rfl, rfl, (by rw [hnv]; rfl), rfl, rfl, rfl, trivial⟩ (hK _ _ ?_)
                    refine ⟨_, _, rfl, ?_, ?_, ?_, ?_, ?_⟩
                    · exact hp
                    · exact h
                    · exact hf
                    · exact ho
                    · rw [hnv]; first | exact hvJ | exact hv
                  ·
                    try replace hwr2 := of_decide_eq_false hwr2
                    have hnv : (if (hop H j).wr then (hop H j).val else v) = v := by rw [if_neg (by rw [hwr2]; simp)]
                    refine wc_skip ?_
                    refine wk_norm ?_
                    refine wk_drop [(0, .slice A H.length c), (2, .slice D order.length e), (7, .slice _ (if (hop H j).wr then (hop H j).val else v).length _), (8, .slice (some ⟨gi, 0, none⟩) H.length H.length), (9, .int .i64 (k : Int)), (10, .int .i64 (j : Int))] ⟨rfl, rfl, (by rw [hnv]; rfl), rfl, rfl, rfl, trivial⟩ (hK _ _ ?_)
                    refine ⟨_, _, rfl, ?_, ?_, ?_, ?_, ?_⟩
                    · exact hp
                    · exact h
                    · exact hf
                    · exact ho
                    · rw [hnv]; first | exact hvJ | exact hv
                ·
                  rintro _ wn ⟨A8, c8, rfl, hp, h, hf, ho, hv⟩
                  refine wc_region ?_
                  refine wl_move (by decide) rfl ?_
                  refine wl_move (by decide) rfl ?_
                  refine wl_idx0 (by decide) Try.sl69 rfl rfl rfl j rfl hjl ?_
                  rw [add_lit', Nat.mul_one, Nat.zero_add]
                  refine wl_hstoreR (i := 0) (o := j) rfl rfl hp rfl Try.sz4 rfl (by rw [insC_len]; exact hjl) (by decide) (List.all_eq_true.1 rfl) ?_
                  rintro w9 hp9 hC9
                  replace hp9 : HP w (fun _ => False) (fun b => b < w.heap.size) w9 [itR 4 1 (some ⟨gi, 0, none⟩) H.length H.length (insC H.length (fun k => s k || decide (k = j)))] := by rw [← insC_set s hjl]; exact hp9
                  replace h := h.fz hC9
                  replace hf := hf.fz hC9
                  replace ho := ho.fz hC9
                  replace hv := hv.fz hC9
                  replace hp := hp9
                  refine wl_nil ?_
                  refine wk_blk_norm ?_
                  refine wk_norm ?_
                  refine wc_region ?_
                  refine wl_move (by decide) rfl ?_
                  refine wl_add (by decide) rfl rfl (w64 (by omega) (by omega)) ?_
                  refine wl_assign (by decide) rfl ?_
                  refine wl_nil ?_
                  refine wk_norm ?_
                  refine wk_drop [(0, .slice A H.length c), (2, .slice D order.length e), (7, .slice A8 (if (hop H j).wr then (hop H j).val else v).length c8), (8, .slice (some ⟨gi, 0, none⟩) H.length H.length), (9, .int .i64 ((k + 1) : Int))] ⟨rfl, rfl, rfl, rfl, rfl, trivial⟩ (hKL1 _ _ (m2 := order.length - (k + 1)) ?_ ?_)
                  ·
                    refine ⟨(k + 1), (fun k => s k || decide (k = j)), A8, c8, (if (hop H j).wr then (hop H j).val else v), rfl, ?_, ?_, ?_, ?_, ?_, ?_, ?_, rfl⟩
                    · omega
                    · rw [hx, hdk]; exact explR_yes hjl hin hall hval
                    · exact hp
                    · exact h
                    · exact hf
                    · exact ho
                    · exact hv
                  · omega
            ·
              try replace hwr := of_decide_eq_false hwr
              replace hwr : (hop H j).wr = true := by simpa using hwr
              have hval : (hop H j).wr = true ∨ (hop H j).val = v := .inl hwr
              refine wl_gno (by decide) rfl rfl (.inl rfl) ?_
              refine wl_gno (by decide) rfl rfl (.inl rfl) ?_
              refine wl_gno (by decide) rfl rfl (.inl rfl) ?_
              refine wl_gno (by decide) rfl rfl (.inl rfl) ?_
              refine wl_gno (by decide) rfl rfl (.inl rfl) ?_
              refine wl_gno (by decide) rfl rfl (.inl rfl) ?_
              refine wl_gno (by decide) rfl rfl (.inl rfl) ?_
              refine wl_gno (by decide) rfl rfl (.inl rfl) ?_
              refine wl_pick (by decide) rfl rfl ?_
              refine wl_nil ?_
              refine wk_norm ?_
              refine wc_cond_f rfl ?_
              refine wc_skip ?_
              refine wk_norm ?_
              refine wc_seq_cut (fun L' w' => ∃ (A8 : Option Addr), ∃ (c8 : Nat), L' = [(0, .slice A H.length c), (2, .slice D order.length e), (7, .slice A8 (if (hop H j).wr then (hop H j).val else v).length c8), (8, .slice (some ⟨gi, 0, none⟩) H.length H.length), (9, .int .i64 (k : Int)), (10, .int .i64 (j : Int))] ∧ (HP w (fun _ => False) (fun b => b < w.heap.size) w' [itR 4 1 (some ⟨gi, 0, none⟩) H.length H.length (insC H.length s)]) ∧ (HS (fun b => b < w.heap.size) w' A c H) ∧ (BS (fun b => b < w.heap.size) w' B d first) ∧ (IS (fun b => b < w.heap.size) w' D e order) ∧ (BS (fun b => b < w.heap.size) w' A8 c8 (if (hop H j).wr then (hop H j).val else v))) (fun K hK => ?_) ?_
              ·
                refine wc_seq ?_
                refine wc_region ?_
                refine wl_move (by decide) rfl ?_
                refine wl_move (by decide) rfl ?_
                refine wl_idx0 (by decide) Try.sl22 rfl rfl hAJ j rfl (by omega) ?_
                refine wl_fld (by decide) Try.fld45_0 rfl ?_
                refine wl_load (by decide) Try.sc4 rfl (hatJ.get rfl) ?_
                refine wl_nil ?_
                refine wk_norm ?_
                refine wc_cond rfl (fun hwr2 => ?_) (fun hwr2 => ?_)
                ·
                  try replace hwr2 := of_decide_eq_true hwr2
                  have hnv : (if (hop H j).wr then (hop H j).val else v) = (hop H j).val := by rw [if_pos hwr2]
                  refine wc_region ?_
                  refine wl_move (by decide) rfl ?_
                  refine wl_move (by decide) rfl ?_
                  refine wl_idx0 (by decide) Try.sl22 rfl rfl hAJ j rfl (by omega) ?_
                  refine wl_fld (by decide) Try.fld45_1 rfl ?_
                  refine wl_load (by decide) Try.sc23 rfl (hatJ.get rfl) ?_
                  refine wl_assign (by decide) rfl ?_
                  refine wl_nil ?_
                  refine wk_norm ?_
                  refine wk_drop [(0, .slice A H.length c), (2, .slice D order.length e), (7, .slice _ (if (hop H j).wr then (hop H j).val else v).length _), (8, .slice (some ⟨gi, 0, none⟩) H.length H.length), (9, .int .i64 (k : Int)), (10, .int .i64 (j : Int))] ⟨rfl, rfl, (by rw [hnv]; rfl), rfl, rfl, rfl, trivial⟩ (hK _ _ ?_)
                  refine ⟨_, _, rfl, ?_, ?_, ?_, ?_, ?_⟩
                  · exact hp
                  · exact h
                  · exact hf
                  · exact ho
                  · rw [hnv]; first | exact hvJ | exact hv
                ·
                  try replace hwr2 := of_decide_eq_false hwr2
                  have hnv : (if (hop H j).wr then (hop H j).val else v) = v := by rw [if_neg (by rw [hwr2]; simp)]
                  refine wc_skip ?_
                  refine wk_norm ?_
                  refine wk_drop [(0, .slice A H.length c), (2, .slice D order.length e), (7, .slice _ (if (hop H j).wr then (hop H j).val else v).length _), (8, .slice (some ⟨gi, 0, none⟩) H.length H.length), (9, .int .i64 (k : Int)), (10, .int .i64 (j : Int))] ⟨rfl, rfl, (by rw [hnv]; rfl), rfl, rfl, rfl, trivial⟩ (hK _ _ ?_)
                  refine ⟨_, _, rfl, ?_, ?_, ?_, ?_, ?_⟩
                  · exact hp
                  · exact h
                  · exact hf
                  · exact ho
                  · rw [hnv]; first | exact hvJ | exact hv
              ·
                rintro _ wn ⟨A8, c8, rfl, hp, h, hf, ho, hv⟩
                refine wc_region ?_
                refine wl_move (by decide) rfl ?_
                refine wl_move (by decide) rfl ?_
                refine wl_idx0 (by decide) Try.sl69 rfl rfl rfl j rfl hjl ?_
                rw [add_lit', Nat.mul_one, Nat.zero_add]
                refine wl_hstoreR (i := 0) (o := j) rfl rfl hp rfl Try.sz4 rfl (by rw [insC_len]; exact hjl) (by decide) (List.all_eq_true.1 rfl) ?_
                rintro w9 hp9 hC9
                replace hp9 : HP w (fun _ => False) (fun b => b < w.heap.size) w9 [itR 4 1 (some ⟨gi, 0, none⟩) H.length H.length (insC H.length (fun k => s k || decide (k = j)))] := by rw [← insC_set s hjl]; exact hp9
                replace h := h.fz hC9
                replace hf := hf.fz hC9
                replace ho := ho.fz hC9
                replace hv := hv.fz hC9
                replace hp := hp9
                refine wl_nil ?_
                refine wk_blk_norm ?_
                refine wk_norm ?_
                refine wc_region ?_
                refine wl_move (by decide) rfl ?_
                refine wl_add (by decide) rfl rfl (w64 (by omega) (by omega)) ?_
                refine wl_assign (by decide) rfl ?_
                refine wl_nil ?_
                refine wk_norm ?_
                refine wk_drop [(0, .slice A H.length c), (2, .slice D order.length e), (7, .slice A8 (if (hop H j).wr then (hop H j).val else v).length c8), (8, .slice (some ⟨gi, 0, none⟩) H.length H.length), (9, .int .i64 ((k + 1) : Int))] ⟨rfl, rfl, rfl, rfl, rfl, trivial⟩ (hKL1 _ _ (m2 := order.length - (k + 1)) ?_ ?_)
                ·
                  refine ⟨(k + 1), (fun k => s k || decide (k = j)), A8, c8, (if (hop H j).wr then (hop H j).val else v), rfl, ?_, ?_, ?_, ?_, ?_, ?_, ?_, rfl⟩
                  · omega
                  · rw [hx, hdk]; exact explR_yes hjl hin hall hval
                  · exact hp
                  · exact h
                  · exact hf
                  · exact ho
                  · exact hv
                · omega
  ·
    try replace hlt := of_decide_eq_false hlt
    have hke : k = order.length := by omega
    rw [hke, List.drop_length, explR] at hx
    refine wc_exit ?_
    refine wk_then_exit ?_
    refine wk_then_exit ?_
    refine wk_blk_exit ?_
    refine wk_norm ?_
    refine wc_seq ?_
    refine wc_seq ?_
    refine wc_region ?_
    refine wl_assign (by decide) rfl ?_
    refine wl_nil ?_
    refine wk_norm ?_
    refine wc_block ?_
    refine wc_loop (fun L' w' mes => ∃ (q : Nat), L' = [(0, .slice A H.length c), (8, .slice (some ⟨gi, 0, none⟩) H.length H.length), (12, .int .i64 (q : Int))] ∧ (q ≤ H.length) ∧ (∀ m, m < q → (!decide (0 < (hop H m).e) || s m) = true) ∧ (HP w (fun _ => False) (fun b => b < w.heap.size) w' [itR 4 1 (some ⟨gi, 0, none⟩) H.length H.length (insC H.length s)]) ∧ (HS (fun b => b < w.heap.size) w' A c H) ∧ H.length - q = mes) [(0, .slice A H.length c), (8, .slice (some ⟨gi, 0, none⟩) H.length H.length), (12, .int .i64 (0 : Int))] (H.length - 0) (by
        refine ⟨0, rfl, ?_, ?_, ?_, ?_, rfl⟩
        · omega
        · intro m hm; omega
        · exact hp
        · exact h) ⟨rfl, rfl, rfl, trivial⟩ ?_
    rintro _ wq _ ⟨q, rfl, hq, hal, hp, h, rfl⟩ KL3 hKL3
    refine wc_seq ?_
    refine wc_seq ?_
    refine wc_region ?_
    refine wl_move (by decide) rfl ?_
    refine wl_move (by decide) rfl ?_
    refine wl_len (by decide) Try.underlying22 rfl ?_
    refine wl_lss (by decide) rfl rfl ?_
    refine wl_nil ?_
    refine wk_norm ?_
    refine wc_cond rfl (fun hlt3 => ?_) (fun hlt3 => ?_)
    ·
      try replace hlt3 := of_decide_eq_true hlt3
      obtain ⟨gQ, hAQ, hatQ⟩ := OwnRow.el (hp.rowAt (i := 0) rfl) q (by omega)
      rw [insC_el s (by omega)] at hatQ
      obtain ⟨aL, BL, dL, hAL, hatL, hvL⟩ := HS.el h q (by omega)
      refine wc_skip ?_
      refine wk_norm ?_
      refine wc_seq ?_
      refine wc_block ?_
      refine wc_seq ?_
      refine wc_region ?_
      refine wl_move (by decide) rfl ?_
      refine wl_move (by decide) rfl ?_
      refine wl_idx0 (by decide) Try.sl69 rfl rfl hAQ q rfl (by omega) ?_
      refine wl_load (by decide) Try.sc4 rfl hatQ.head ?_
      first | refine wl_notd (by decide) rfl ?_ | refine wl_not (by decide) rfl ?_
      refine wl_move (by decide) rfl ?_
      refine wl_gsplit (dj := 113) rfl (fun h3 => ?_) (fun h3 => ?_)
      ·
        try replace h3 := of_decide_eq_true h3
        replace h3 : s q = false := by simpa using h3
        refine wl_gyes rfl rfl ?_
        refine wl_move (by decide) rfl ?_
        refine wl_gyes rfl rfl ?_
        refine wl_move (by decide) rfl ?_
        refine wl_gyes rfl rfl ?_
        refine wl_idx0 (by decide) Try.sl22 rfl rfl hAL q rfl (by omega) ?_
        refine wl_gyes rfl rfl ?_
        refine wl_fld (by decide) Try.fld45_3 rfl ?_
        refine wl_gyes rfl rfl ?_
        refine wl_load (by decide) Try.sc3 rfl (hatL.get rfl) ?_
        refine wl_gyes rfl rfl ?_
        refine wl_gtr (by decide) rfl rfl ?_
        refine wl_pick (by decide) rfl rfl ?_
        refine wl_nil ?_
        refine wk_norm ?_
        refine wc_cond rfl (fun h11 => ?_) (fun h11 => ?_)
        ·
          try replace h11 := of_decide_eq_true h11
          refine wc_seq ?_
          refine wc_region ?_
          refine wl_assign (by decide) rfl ?_
          refine wl_nil ?_
          refine wk_norm ?_
          refine wc_ret ?_
          refine wk_blk_ret ?_
          refine wk_then_ret ?_
          refine wk_then_ret ?_
          refine wk_blk_ret ?_
          refine wk_then_ret ?_
          refine wk_post1 (.inl rfl) Try.results23 rfl ?_
          have hno : (allN H.length fun m => !decide (0 < (hop H m).e) || s m) = false := by
            cases hh : allN H.length fun m => !decide (0 < (hop H m).e) || s m
            · rfl
            · have := allN_iff.1 hh q (by omega)
              rw [h3, decide_eq_true h11] at this
              cases this
          exact ⟨_, rfl, by rw [hx, hno], hp.chg⟩
        ·
          try replace h11 := of_decide_eq_false h11
          refine wc_skip ?_
          refine wk_blk_norm ?_
          refine wk_norm ?_
          refine wc_region ?_
          refine wl_move (by decide) rfl ?_
          refine wl_add (by decide) rfl rfl (w64 (by omega) (by omega)) ?_
          refine wl_assign (by decide) rfl ?_
          refine wl_nil ?_
          refine wk_norm ?_
          refine wk_drop [(0, .slice A H.length c), (8, .slice (some ⟨gi, 0, none⟩) H.length H.length), (12, .int .i64 ((q + 1) : Int))] ⟨rfl, rfl, rfl, trivial⟩ (hKL3 _ _ (m2 := H.length - (q + 1)) ?_ ?_)
          ·
            refine ⟨(q + 1), rfl, ?_, ?_, ?_, ?_, rfl⟩
            · omega
            · intro m hm
              by_cases e : m = q
              · subst e; first | rw [h3, Bool.or_true] | (rw [decide_eq_false h11]; rfl)
              · exact hal m (by omega)
            · exact hp
            · exact h
          · omega
      ·
        try replace h3 := of_decide_eq_false h3
        replace h3 : s q = true := by simpa using h3
        refine wl_gno (by decide) rfl rfl (.inl rfl) ?_
        refine wl_gno (by decide) rfl rfl (.inl rfl) ?_
        refine wl_gno (by decide) rfl rfl (.inl rfl) ?_
        refine wl_gno (by decide) rfl rfl (.inl rfl) ?_
        refine wl_gno (by decide) rfl rfl (.inl rfl) ?_
        refine wl_gno (by decide) rfl rfl (.inl rfl) ?_
        refine wl_pick (by decide) rfl rfl ?_
        refine wl_nil ?_
        refine wk_norm ?_
        refine wc_cond_f rfl ?_
        refine wc_skip ?_
        refine wk_blk_norm ?_
        refine wk_norm ?_
        refine wc_region ?_
        refine wl_move (by decide) rfl ?_
        refine wl_add (by decide) rfl rfl (w64 (by omega) (by omega)) ?_
        refine wl_assign (by decide) rfl ?_
        refine wl_nil ?_
        refine wk_norm ?_
        refine wk_drop [(0, .slice A H.length c), (8, .slice (some ⟨gi, 0, none⟩) H.length H.length), (12, .int .i64 ((q + 1) : Int))] ⟨rfl, rfl, rfl, trivial⟩ (hKL3 _ _ (m2 := H.length - (q + 1)) ?_ ?_)
        ·
          refine ⟨(q + 1), rfl, ?_, ?_, ?_, ?_, rfl⟩
          · omega
          · intro m hm
            by_cases e : m = q
            · subst e; first | rw [h3, Bool.or_true] | (rw [decide_eq_false h11]; rfl)
            · exact hal m (by omega)
          · exact hp
          · exact h
        · omega
    ·
      try replace hlt3 := of_decide_eq_false hlt3
      refine wc_exit ?_
      refine wk_then_exit ?_
      refine wk_then_exit ?_
      refine wk_blk_exit ?_
      refine wk_norm ?_
      refine wc_seq ?_
      refine wc_region ?_
      refine wl_assign (by decide) rfl ?_
      refine wl_nil ?_
      refine wk_norm ?_
      refine wc_ret ?_
      refine wk_post1 (.inl rfl) Try.results23 rfl ?_
      exact ⟨_, rfl, by rw [hx, allN_iff.2 (fun m hm => hal m (by omega))], hp.chg⟩

end Go.Proofs.Ytnlpibfdobinoaa
