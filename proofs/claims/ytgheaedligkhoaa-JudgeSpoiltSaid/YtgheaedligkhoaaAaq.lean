/- What each of these functions computes, for every argument that its theorem names; a part of what the proof of JudgeFinds stands on. -/
import Derived.Test.YtgheaedligkhoaaAab
import Derived.Test.YtgheaedligkhoaaAac
import Derived.Test.YtgheaedligkhoaaAad
import Derived.Test.YtgheaedligkhoaaAae
import Derived.Test.YtgheaedligkhoaaAaf
import Derived.Test.YtgheaedligkhoaaAag
import Derived.Test.YtgheaedligkhoaaAah
import Derived.Test.YtgheaedligkhoaaAal
import Derived.Test.YtgheaedligkhoaaAam
namespace Go.Proofs.Ytgheaedligkhoaa
open Go.RowKit Go.Eng _root_.Go.Proofs.Try Go.Eng _root_.Go.Proofs.Try
set_option maxRecDepth 100000
variable {w0 w : World} {M0 Fz : Nat → Prop} {H : List It} {A : Option Addr} {c : Nat}
set_option maxHeartbeats 4000000 in
theorem agrees_ok {w0 w : World} {M0 Fz : Nat → Prop} {H : List It} {q : JMem} {p : Pln} {ln : Nat} {here : Int} {v : JVal} {cs : List Value} {e : Evt} (hj : JW w0 M0 Fz w H q p ln here v) (he : evtR.rd Fz w cs e) : Ret prog 32 #[pt q.g 0, .agg cs.toArray] w (JA w0 M0 Fz w H q p ln here (V4 v e) 4 (u4 v e)) := by
 obtain ⟨f1, f2, f3, f4, f5, f6, f7, r4, r5, hp, hr⟩ := hj
 have hef := he
 obtain ⟨hI, A0, c0, A1, c1, A2, c2, A3, c3, rfl, h0, h1, h2, h3⟩ := he
 obtain ⟨lk, hlk⟩ := kofS (g := e.group) (ep := e.epoch) (s := e.seq) hI.2.2.2.2.1 hI.2.2.2.2.2.1 hI.2.2.2.2.2.2.1
 dsimp only [jH, lookC] at hp
 refine ret_of_wk func32 rfl ntmps32 leB_ ?_
 refine so ?_
 refine Bx hp (h := fun g3 w1 hp E1 => so ?_)
 refine Cd ?_ ?_ <;> intro k3 <;> refine so ?_
 ·refine Cx hp (spot_ok (rdTo hef (F := Fz) (w' := w1))) (h := fun w2 hp E2 => ?_)
  have ho := hr.b e.group e.epoch e.seq
  rcases hx : v.bat e.group e.epoch e.seq with _ | d <;> rw [hx] at ho
  ·refine lkO (e := 39) (u := digV dig0) (b := false) (by rw [ho]; rfl) (by rw [ho]; rfl) (keyed_of kb89) hlk (hp.mapR (i := 3) rfl) ?_ (hz := kd39)
   refine so ?_
   refine Alo hp (h := fun g6 w3 hp E3 => so ?_)
   refine Hs 0 hp (h := fun w4 hp C4 => so ?_)
   refine aF (so ?_)
   refine wdP 5 hp (fun wD hp hED => by refine pm ?_; exact PLe (spot_ok (rdTo hef (F := Fz) (w' := wD))) (h := pl)) fun wD hp hED => ?_
   refine wl_rmapUpdate (i := 4) (keyed_of kb89) (e := 39) (by kernel_rfl) rfl rfl rfl hlk hp rfl rfl (fun w5 hp C5 => ?_)
   replace hp := hp.as_ (H' := itB g6 39 _ :: itB g3 46 _ :: itB q.g 64 (lookC p q ln here v.time) :: itMR prog 3 0 0 q.m1 f1 nR :: itMR prog 89 0 0 q.m2 (updF f2 (spotV e.group e.epoch e.seq) (digV e.dig)) nR :: itMR prog 89 0 0 q.m3 f3 nR :: itMR prog 91 96 14 q.m4 f4 r4 :: itMR prog 87 98 33 q.m5 f5 r5 :: itMR prog 3 0 0 q.m6 f6 nR :: itMR prog 3 0 0 q.m7 f7 nR :: H) rfl
   refine so ?_
   refine Pt ⟨_, rfl, Fz, mv, .inr ⟨by unfold V4; rw [hx]; unfold othr; rintro (h | h) <;> first | cases h.2 | omega, rfl, ?_⟩⟩
   have hr2 := hr.to (F := Fz) (w' := w5) mv
   rw [u4, if_pos k3]
   exact ⟨_, _, _, _, _, _, _, _, _, hp.tail.tail, hr2.d, hr2.b.up _ _ _ _, hr2.m, hr2.j, hr2.s, hr2.f, hr2.c⟩
  ·refine lkO (e := 39) (u := digV d) (b := true) (by rw [ho]; rfl) (by rw [ho]; rfl) (keyed_of kb89) hlk (hp.mapR (i := 3) rfl) ?_ (hz := kd39)
   refine so ?_
   refine Alo hp (h := fun g6 w3 hp E3 => so ?_)
   refine Hs 0 hp (h := fun w4 hp C4 => so ?_)
   refine wl_neqK (m := 6) (d = e.dig) (by decide) key39 eg39 rfl rfl (digC_fit _) (digC_fit _) digC_inj ?_
   refine so ?_
   refine Cd ?_ ?_ <;> intro hd <;> refine so ?_
   ·exact Pt ⟨_, rfl, Fz, mv, .inl ⟨by unfold V4; rw [hx]; exact .inl ⟨k3, decide_eq_true hd⟩, rfl, _, hp⟩⟩
   refine wdP 5 hp (fun wD hp hED => by refine pm ?_; exact PLe (spot_ok (rdTo hef (F := Fz) (w' := wD))) (h := pl)) fun wD hp hED => ?_
   refine wl_rmapUpdate (i := 4) (keyed_of kb89) (e := 39) (by kernel_rfl) rfl rfl rfl hlk hp rfl rfl (fun w5 hp C5 => ?_)
   replace hp := hp.as_ (H' := itB g6 39 _ :: itB g3 46 _ :: itB q.g 64 (lookC p q ln here v.time) :: itMR prog 3 0 0 q.m1 f1 nR :: itMR prog 89 0 0 q.m2 (updF f2 (spotV e.group e.epoch e.seq) (digV e.dig)) nR :: itMR prog 89 0 0 q.m3 f3 nR :: itMR prog 91 96 14 q.m4 f4 r4 :: itMR prog 87 98 33 q.m5 f5 r5 :: itMR prog 3 0 0 q.m6 f6 nR :: itMR prog 3 0 0 q.m7 f7 nR :: H) rfl
   refine so ?_
   refine Pt ⟨_, rfl, Fz, mv, .inr ⟨by unfold V4; rw [hx]; unfold othr; rintro (h | h) <;> first | exact hd (of_decide_eq_true h.2) | omega, rfl, ?_⟩⟩
   have hr2 := hr.to (F := Fz) (w' := w5) mv
   rw [u4, if_pos k3]
   exact ⟨_, _, _, _, _, _, _, _, _, hp.tail.tail, hr2.d, hr2.b.up _ _ _ _, hr2.m, hr2.j, hr2.s, hr2.f, hr2.c⟩
 refine Cd ?_ ?_ <;> intro k4 <;> refine so ?_
 ·refine Cx hp (spot_ok (rdTo hef (F := Fz) (w' := w1))) (h := fun w2 hp E2 => ?_)
  have ho := hr.m e.group e.epoch e.seq
  rcases hx : v.mrk e.group e.epoch e.seq with _ | d <;> rw [hx] at ho
  ·refine lkO (e := 39) (u := digV dig0) (b := false) (by rw [ho]; rfl) (by rw [ho]; rfl) (keyed_of kb89) hlk (hp.mapR (i := 4) rfl) ?_ (hz := kd39)
   refine so ?_
   refine Alo hp (h := fun g6 w3 hp E3 => so ?_)
   refine Hs 0 hp (h := fun w4 hp C4 => so ?_)
   refine aF (so ?_)
   refine wdP 5 hp (fun wD hp hED => by refine pm ?_; exact PLe (spot_ok (rdTo hef (F := Fz) (w' := wD))) (h := pl)) fun wD hp hED => ?_
   refine wl_rmapUpdate (i := 5) (keyed_of kb89) (e := 39) (by kernel_rfl) rfl rfl rfl hlk hp rfl rfl (fun w5 hp C5 => ?_)
   replace hp := hp.as_ (H' := itB g6 39 _ :: itB g3 46 _ :: itB q.g 64 (lookC p q ln here v.time) :: itMR prog 3 0 0 q.m1 f1 nR :: itMR prog 89 0 0 q.m2 f2 nR :: itMR prog 89 0 0 q.m3 (updF f3 (spotV e.group e.epoch e.seq) (digV e.dig)) nR :: itMR prog 91 96 14 q.m4 f4 r4 :: itMR prog 87 98 33 q.m5 f5 r5 :: itMR prog 3 0 0 q.m6 f6 nR :: itMR prog 3 0 0 q.m7 f7 nR :: H) rfl
   refine so ?_
   refine Pt ⟨_, rfl, Fz, mv, .inr ⟨by unfold V4; rw [hx]; unfold othr; rintro (h | h) <;> first | cases h.2 | omega, rfl, ?_⟩⟩
   have hr2 := hr.to (F := Fz) (w' := w5) mv
   rw [u4, if_neg k3, if_pos k4]
   exact ⟨_, _, _, _, _, _, _, _, _, hp.tail.tail, hr2.d, hr2.b, hr2.m.up _ _ _ _, hr2.j, hr2.s, hr2.f, hr2.c⟩
  ·refine lkO (e := 39) (u := digV d) (b := true) (by rw [ho]; rfl) (by rw [ho]; rfl) (keyed_of kb89) hlk (hp.mapR (i := 4) rfl) ?_ (hz := kd39)
   refine so ?_
   refine Alo hp (h := fun g6 w3 hp E3 => so ?_)
   refine Hs 0 hp (h := fun w4 hp C4 => so ?_)
   refine wl_neqK (m := 6) (d = e.dig) (by decide) key39 eg39 rfl rfl (digC_fit _) (digC_fit _) digC_inj ?_
   refine so ?_
   refine Cd ?_ ?_ <;> intro hd <;> refine so ?_
   ·exact Pt ⟨_, rfl, Fz, mv, .inl ⟨by unfold V4; rw [hx]; exact .inr ⟨k4, decide_eq_true hd⟩, rfl, _, hp⟩⟩
   refine wdP 5 hp (fun wD hp hED => by refine pm ?_; exact PLe (spot_ok (rdTo hef (F := Fz) (w' := wD))) (h := pl)) fun wD hp hED => ?_
   refine wl_rmapUpdate (i := 5) (keyed_of kb89) (e := 39) (by kernel_rfl) rfl rfl rfl hlk hp rfl rfl (fun w5 hp C5 => ?_)
   replace hp := hp.as_ (H' := itB g6 39 _ :: itB g3 46 _ :: itB q.g 64 (lookC p q ln here v.time) :: itMR prog 3 0 0 q.m1 f1 nR :: itMR prog 89 0 0 q.m2 f2 nR :: itMR prog 89 0 0 q.m3 (updF f3 (spotV e.group e.epoch e.seq) (digV e.dig)) nR :: itMR prog 91 96 14 q.m4 f4 r4 :: itMR prog 87 98 33 q.m5 f5 r5 :: itMR prog 3 0 0 q.m6 f6 nR :: itMR prog 3 0 0 q.m7 f7 nR :: H) rfl
   refine so ?_
   refine Pt ⟨_, rfl, Fz, mv, .inr ⟨by unfold V4; rw [hx]; unfold othr; rintro (h | h) <;> first | exact hd (of_decide_eq_true h.2) | omega, rfl, ?_⟩⟩
   have hr2 := hr.to (F := Fz) (w' := w5) mv
   rw [u4, if_neg k3, if_pos k4]
   exact ⟨_, _, _, _, _, _, _, _, _, hp.tail.tail, hr2.d, hr2.b, hr2.m.up _ _ _ _, hr2.j, hr2.s, hr2.f, hr2.c⟩
 refine Pt ⟨_, rfl, Fz, mv, .inr ⟨by unfold V4; omega, rfl, ?_⟩⟩
 rw [u4, if_neg k3, if_neg k4]
 exact ⟨_, _, _, _, _, _, _, _, _, hp.tail, hr.to mv⟩
end Go.Proofs.Ytgheaedligkhoaa
namespace Go.Proofs.Ytgheaedligkhoaa
open Go.RowKit Go.Eng Go.Eng _root_.Go.Proofs.Try
set_option maxRecDepth 100000
variable {w0 w : World} {M0 Fz : Nat → Prop} {H : List It} {A : Option Addr} {c : Nat}
set_option maxHeartbeats 1000000 in
theorem rfind_step {H : List HOp} {first : List UInt8} {N : Nat} (hl14 : H.length ≤ 14) (ih : ∀ N', N' < N → RFind H first N') {w0 w : World} {M0 Fz : Nat → Prop} {F : List It} {gT : Nat} {T : List (Nat × Int)} {AT : Option Addr} {cT : Nat} {p : List Nat} {last : Int} {A0 A1 B : Option Addr} {c0 c1 d : Nat} (hp : HP w0 M0 Fz w (itB gT 147 [.slice AT T.length cT] :: itR 80 2 AT T.length cT (keysC T) :: F)) (h : HS Fz w A0 c0 H) (hf : BS Fz w A1 c1 first) (ho : IS Fz w B d (nats p)) (hP : POK H.length p) (hL : LastK H last) (hM : MemoK H first T) (hN : cntN H.length (bitsS p) ≤ N) : Ret Try.prog 101 #[.pointer (some ⟨gT, 0, none⟩), .slice A0 H.length c0, .slice A1 first.length c1, .slice B (nats p).length d, .int .i64 last] w (fun v w' => RFindPost H first w0 M0 Fz w F gT T p last v w') := by
  have hfr := Frz.start Fz w
  refine ret_of_wk Try.func101 rfl Try.ntmps101 (Nat.le_of_ble_eq_true rfl) ?_
  refine wc_seq ?_
  refine wc_region ?_
  refine wl_assign (by decide) rfl ?_
  refine wl_assign (by decide) rfl ?_
  refine wl_nil ?_
  refine wk_norm ?_
  refine wc_seq ?_
  refine wc_seq ?_
  refine wc_region ?_
  refine wl_move (by decide) rfl ?_
  refine wl_move (by decide) rfl ?_
  have hcl := whole_ok h ho (fun k => bitsS_tb hP.1 k)
  refine wl_call (by decide) Try.cl103 rfl hcl ?_
  clear hcl
  rintro _ wa ⟨rfl, hEa⟩
  replace h := h.ext hEa
  replace hf := hf.ext hEa
  replace ho := ho.ext hEa
  replace hfr := hfr.ext hEa
  replace hp := hp.ext hEa
  refine wl_nil ?_
  refine wk_norm ?_
  refine wc_cond rfl (fun hw => ?_) (fun hw => ?_)
  ·
    try replace hw := of_decide_eq_true hw
    refine wc_seq ?_
    refine wc_region ?_
    refine wl_move (by decide) rfl ?_
    refine wl_assign (by decide) rfl ?_
    refine wl_assign (by decide) rfl ?_
    refine wl_nil ?_
    refine wk_norm ?_
    refine wc_ret ?_
    refine wk_then_ret ?_
    refine wk_post2 (.inl rfl) Try.results101 rfl rfl ?_
    exact ⟨_, rfl, B, d, p, true, T, AT, cT, Fz, rfl, hp, fun _ h => h, hfr.chg, ho, hM, fun t ht => .inl ht, by rw [G_whole H first hw]; exact ⟨rfl, by simp⟩⟩
  ·
    try replace hw := of_decide_eq_false hw
    refine wc_skip ?_
    refine wk_norm ?_
    refine wc_seq ?_
    refine wc_region ?_
    refine wl_move (by decide) rfl ?_
    refine wl_call (by decide) Try.cl104 rfl (bits_ok ho (fun i hi => Nat.lt_of_lt_of_le (hP.2 i hi) hl14) (Nat.le_trans hP.len hl14)) ?_
    rintro _ _ ⟨rfl, rfl⟩
    refine wl_move (by decide) rfl ?_
    refine wl_built (ps := [(0, .tmp 24), (1, .tmp 25)]) (by decide) Try.bld80 rfl rfl ?_
    refine wl_halloc (e := 80) (z := .agg #[.int .i64 0, .int .i64 0]) (by decide) (by kernel_rfl) hp ?_
    rintro gs12 w1 hp1 hE1
    replace h := h.ext hE1
    replace hf := hf.ext hE1
    replace ho := ho.ext hE1
    replace hfr := hfr.ext hE1
    replace hp := hp1
    refine wl_hstore (i := 0) rfl rfl hp rfl Try.sz80 (Nat.le_of_ble_eq_true rfl) (List.all_eq_true.1 rfl) ?_
    rintro w2 hp2 hC2
    replace h := h.fz hC2
    replace hf := hf.fz hC2
    replace ho := ho.fz hC2
    replace hfr := hfr.fz hC2
    replace hp := hp2
    refine wl_nil ?_
    refine wk_norm ?_
    refine wc_seq ?_
    refine wc_seq ?_
    refine wc_region ?_
    refine wl_assign (by decide) rfl ?_
    refine wl_nil ?_
    refine wk_norm ?_
    refine wc_block ?_
    refine wc_loop (fun L' w' mes => ∃ (i : Nat), L' = [(0, .pointer (some ⟨gT, 0, none⟩)), (1, .slice A0 H.length c0), (2, .slice A1 first.length c1), (3, .slice B (nats p).length d), (4, .int .i64 last), (12, .pointer (some ⟨gs12, 0, none⟩)), (13, .int .i64 (i : Int))] ∧ (i ≤ T.length) ∧ (∀ j (hj2 : j < T.length), j < i → T[j] ≠ (bitsS p, last)) ∧ (HP w0 M0 Fz w' (itB gs12 80 [.int .i64 (bitsS p : Int), .int .i64 last] :: itB gT 147 [.slice AT T.length cT] :: itR 80 2 AT T.length cT (keysC T) :: F)) ∧ (HS Fz w' A0 c0 H) ∧ (BS Fz w' A1 c1 first) ∧ (IS Fz w' B d (nats p)) ∧ (Frz Fz Fz w w') ∧ T.length - i = mes) [(0, .pointer (some ⟨gT, 0, none⟩)), (1, .slice A0 H.length c0), (2, .slice A1 first.length c1), (3, .slice B (nats p).length d), (4, .int .i64 last), (12, .pointer (some ⟨gs12, 0, none⟩)), (13, .int .i64 (0 : Int))] (T.length - 0) (by
        refine ⟨0, rfl, ?_, ?_, ?_, ?_, ?_, ?_, ?_, rfl⟩
        · omega
        · intro j _ hj; omega
        · exact hp
        · exact h
        · exact hf
        · exact ho
        · exact hfr) ⟨rfl, rfl, rfl, rfl, rfl, rfl, rfl, trivial⟩ ?_
    rintro _ wr _ ⟨i, rfl, hi, hnk, hp, h, hf, ho, hfr, rfl⟩ KL1 hKL1
    refine wc_seq ?_
    refine wc_seq ?_
    refine wc_region ?_
    refine wl_move (by decide) rfl ?_
    refine wl_move (by decide) rfl ?_
    refine wl_nilCheck (by decide) rfl ?_
    refine wl_fld' (o' := 0) (by decide) Try.fld147_0 rfl rfl ?_
    refine wl_hload (i := 1) (by decide) Try.sc145 rfl hp rfl rfl ?_
    refine wl_len (by decide) Try.underlying145 rfl ?_
    refine wl_lss (by decide) rfl rfl ?_
    refine wl_nil ?_
    refine wk_norm ?_
    refine wc_cond rfl (fun hlt => ?_) (fun hlt => ?_)
    ·
      try replace hlt := of_decide_eq_true hlt
      have hml := memo_len hM
      obtain ⟨gK, hAT, hatT⟩ := OwnRow.el (hp.rowAt (i := 2) rfl) i (by omega)
      rw [keysC_el T i (by omega)] at hatT
      have hTi := hM.2 (T[i]'(by omega)) (List.getElem_mem _)
      have hLL := hL.1
      have hLU := hL.2
      have hbb := bitsS_lt hP
      have hbb2 : bitsS p < 16384 := Nat.lt_of_lt_of_le hbb (Nat.le_trans (Nat.pow_le_pow_right (by omega) hl14) (by decide))
      refine wc_skip ?_
      refine wk_norm ?_
      refine wc_seq ?_
      refine wc_block ?_
      refine wc_seq ?_
      apply wc_drawL [SP.eq _, SP.eq _, SP.eq _, SP.eq _, SP.eq _, SP.eq _, SP.eq _, SP.eq _, SP.eq (.bool (decide (T[i]'(by omega) = (bitsS p, last))))] (by kernel_rfl) (by kernel_rfl)
      · refine ⟨?_, ?_, ?_, ?_, ?_, ?_, ?_, ?_, ?_, trivial⟩
        ·
          intro F wF hER hk
          have e0 := hk.init 0 _ rfl (by kernel_rfl)
          refine wl_move (by decide) e0 ?_
          exact wl_nil (qr_some ⟨Chg.refl _ _, rfl⟩)
        ·
          intro F wF hER hk
          obtain ⟨u36, e36, h36⟩ := hk.pred 0 (by kernel_rfl) 36 rfl
          obtain rfl := h36
          refine wl_nilCheck (by decide) e36 ?_
          exact wl_nil (qr_some ⟨Chg.refl _ _, rfl⟩)
        ·
          intro F wF hER hk
          obtain ⟨u37, e37, h37⟩ := hk.pred 1 (by kernel_rfl) 37 rfl
          obtain rfl := h37
          refine wl_fld' (o' := 0) (by decide) Try.fld147_0 e37 rfl ?_
          exact wl_nil (qr_some ⟨Chg.refl _ _, rfl⟩)
        ·
          intro F wF hER hk
          obtain ⟨u38, e38, h38⟩ := hk.pred 2 (by kernel_rfl) 38 rfl
          obtain rfl := h38
          refine wl_hload (i := 1) (by decide) Try.sc145 e38 (hp.ext hER) rfl rfl ?_
          exact wl_nil (qr_some ⟨Chg.refl _ _, rfl⟩)
        ·
          intro F wF hER hk
          have e13 := hk.init 13 _ rfl (by kernel_rfl)
          refine wl_move (by decide) e13 ?_
          exact wl_nil (qr_some ⟨Chg.refl _ _, rfl⟩)
        ·
          intro F wF hER hk
          obtain ⟨u39, e39, h39⟩ := hk.pred 3 (by kernel_rfl) 39 rfl
          obtain rfl := h39
          obtain ⟨u40, e40, h40⟩ := hk.pred 4 (by kernel_rfl) 40 rfl
          obtain rfl := h40
          refine wl_idx0 (by decide) Try.sl145 e39 e40 hAT i rfl (by omega) ?_
          exact wl_nil (qr_some ⟨Chg.refl _ _, rfl⟩)
        ·
          intro F wF hER hk
          obtain ⟨u41, e41, h41⟩ := hk.pred 5 (by kernel_rfl) 41 rfl
          obtain rfl := h41
          refine wl_loadA (by decide) Try.ag80 e41 (hatT.ext hER).at_ rfl ?_
          exact wl_nil (qr_some ⟨Chg.refl _ _, rfl⟩)
        ·
          intro F wF hER hk
          have e12 := hk.init 12 _ rfl (by kernel_rfl)
          refine wl_hloadA (i := 0) (by decide) Try.ag80 e12 (hp.ext hER) rfl rfl ?_
          exact wl_nil (qr_some ⟨Chg.refl _ _, rfl⟩)
        ·
          intro F wF hER hk
          obtain ⟨u42, e42, h42⟩ := hk.pred 6 (by kernel_rfl) 42 rfl
          obtain rfl := h42
          obtain ⟨u43, e43, h43⟩ := hk.pred 7 (by kernel_rfl) 43 rfl
          obtain rfl := h43
          refine wl_eqlK (T[i]'(by omega) = (bitsS p, last)) (xs := [.int .i64 ((T[i]'(by omega)).1 : Int), .int .i64 (T[i]'(by omega)).2]) (ys := [.int .i64 (bitsS p : Int), .int .i64 last]) (by decide) Try.key80 Try.eg80 e42 e43 (FitK.cons (fit_int (by omega) (by omega)) (FitK.cons (fit_int (by omega) (by omega)) FitK.nil)) (FitK.cons (fit_int (by omega) (by omega)) (FitK.cons (fit_int (by omega) (by omega)) FitK.nil)) ?_ ?_
          · constructor
            · intro e; rw [e]
            · intro e
              simp only [List.cons.injEq, Value.int.injEq, true_and, and_true, Int.ofNat_inj] at e
              exact Prod.ext e.1 e.2
          exact wl_nil (qr_some ⟨Chg.refl _ _, rfl⟩)
      ·
        intro F wD hED hini hdo
        have e0 := hini 0 _ rfl (by kernel_rfl)
        have e1 := hini 1 _ rfl (by kernel_rfl)
        have e2 := hini 2 _ rfl (by kernel_rfl)
        have e3 := hini 3 _ rfl (by kernel_rfl)
        have e4 := hini 4 _ rfl (by kernel_rfl)
        have e12 := hini 12 _ rfl (by kernel_rfl)
        have e13 := hini 13 _ rfl (by kernel_rfl)
        obtain ⟨u44, e44, h44⟩ := hdo 8 44 rfl
        obtain rfl := h44
        refine wk_drop [(0, _), (1, _), (2, _), (3, _), (4, _), (12, _), (13, _), (44, _)] ⟨e0, e1, e2, e3, e4, e12, e13, e44, trivial⟩ ?_
        clear e0 e1 e2 e3 e4 e12 e13 e44 hini hdo
        replace h := h.ext hED
        replace hf := hf.ext hED
        replace ho := ho.ext hED
        replace hfr := hfr.ext hED
        replace hp := hp.ext hED
        refine wk_norm ?_
        refine wc_cond rfl (fun hm => ?_) (fun hm => ?_)
        ·
          try replace hm := of_decide_eq_true hm
          refine wc_seq ?_
          refine wc_region ?_
          refine wl_assign (by decide) rfl ?_
          refine wl_assign (by decide) rfl ?_
          refine wl_nil ?_
          refine wk_norm ?_
          refine wc_ret ?_
          refine wk_blk_ret ?_
          refine wk_then_ret ?_
          refine wk_then_ret ?_
          refine wk_blk_ret ?_
          refine wk_then_ret ?_
          refine wk_post2 (.inl rfl) Try.results101 rfl rfl ?_
          have hg : G H first (bitsS p) last = none := by have := hTi.1; rw [hm] at this; exact this
          exact ⟨_, rfl, none, 0, [], false, T, AT, cT, Fz, rfl, hp.tail, fun _ h => h, hfr.chg, GS.nil _ _ _ _ _, hM, fun t ht => .inl ht, by rw [hg]; exact ⟨rfl, rfl⟩⟩
        ·
          try replace hm := of_decide_eq_false hm
          refine wc_skip ?_
          refine wk_blk_norm ?_
          refine wk_norm ?_
          refine wc_region ?_
          refine wl_move (by decide) rfl ?_
          refine wl_add (by decide) rfl rfl (w64 (by omega) (by omega)) ?_
          refine wl_assign (by decide) rfl ?_
          refine wl_nil ?_
          refine wk_norm ?_
          refine wk_drop [(0, .pointer (some ⟨gT, 0, none⟩)), (1, .slice A0 H.length c0), (2, .slice A1 first.length c1), (3, .slice B (nats p).length d), (4, .int .i64 last), (12, .pointer (some ⟨gs12, 0, none⟩)), (13, .int .i64 ((i + 1) : Int))] ⟨rfl, rfl, rfl, rfl, rfl, rfl, rfl, trivial⟩ (hKL1 _ _ (m2 := T.length - (i + 1)) ?_ ?_)
          ·
            refine ⟨(i + 1), rfl, ?_, ?_, ?_, ?_, ?_, ?_, ?_, rfl⟩
            · omega
            · intro j hj2 hj
              by_cases e : j = i
              · subst e; exact hm
              · exact hnk j hj2 (by omega)
            · exact hp
            · exact h
            · exact hf
            · exact ho
            · exact hfr
          · omega
    ·
      try replace hlt := of_decide_eq_false hlt
      have hkT : (bitsS p, last) ∉ T := by
        intro hm
        obtain ⟨j, hj, e⟩ := List.mem_iff_getElem.1 hm
        exact hnk j hj (by omega) e
      refine wc_exit ?_
      refine wk_then_exit ?_
      refine wk_then_exit ?_
      refine wk_blk_exit ?_
      refine wk_norm ?_
      refine wc_seq ?_
      refine wc_region ?_
      refine wl_move (by decide) rfl ?_
      refine wl_assign (by decide) rfl ?_
      refine wl_nil ?_
      refine wk_norm ?_
      refine wc_seq_cut (fun L' w' => ∃ (A14 : Option Addr), ∃ (c14 : Nat), L' = [(0, .pointer (some ⟨gT, 0, none⟩)), (1, .slice A0 H.length c0), (2, .slice A1 first.length c1), (3, .slice B (nats p).length d), (4, .int .i64 last), (12, .pointer (some ⟨gs12, 0, none⟩)), (14, .slice A14 (valueOf H first last).length c14)] ∧ (HP w0 M0 Fz w' (itB gs12 80 [.int .i64 (bitsS p : Int), .int .i64 last] :: itB gT 147 [.slice AT T.length cT] :: itR 80 2 AT T.length cT (keysC T) :: F)) ∧ (HS Fz w' A0 c0 H) ∧ (BS Fz w' A1 c1 first) ∧ (IS Fz w' B d (nats p)) ∧ (Frz Fz Fz w w') ∧ (BS Fz w' A14 c14 (valueOf H first last))) (fun K hK => ?_) ?_
      ·
        refine wc_seq ?_
        refine wc_region ?_
        refine wl_move (by decide) rfl ?_
        refine wl_geq (by decide) rfl rfl ?_
        refine wl_nil ?_
        refine wk_norm ?_
        refine wc_cond rfl (fun h0 => ?_) (fun h0 => ?_)
        ·
          try replace h0 := of_decide_eq_true h0
          obtain ⟨aV, BV, dV, hAV, hatV, hvV⟩ := HS.el h last.toNat (by have := hL.2; omega)
          have hLU := hL.2
          have hval : valueOf H first last = (hop H last.toNat).val := by rw [valueOf, if_pos h0]
          refine wc_region ?_
          refine wl_move (by decide) rfl ?_
          refine wl_move (by decide) rfl ?_
          refine wl_idx0 (by decide) Try.sl129 rfl rfl hAV last.toNat (by omega) (by omega) ?_
          refine wl_fld (by decide) Try.fld139_1 rfl ?_
          refine wl_load (by decide) Try.sc40 rfl (hatV.get rfl) ?_
          refine wl_assign (by decide) rfl ?_
          refine wl_nil ?_
          refine wk_norm ?_
          refine wk_drop [(0, .pointer (some ⟨gT, 0, none⟩)), (1, .slice A0 H.length c0), (2, .slice A1 first.length c1), (3, .slice B (nats p).length d), (4, .int .i64 last), (12, .pointer (some ⟨gs12, 0, none⟩)), (14, .slice _ (valueOf H first last).length _)] ⟨rfl, rfl, rfl, rfl, rfl, rfl, (by rw [hval]; rfl), trivial⟩ (hK _ _ ?_)
          refine ⟨_, _, rfl, ?_, ?_, ?_, ?_, ?_, ?_⟩
          · exact hp
          · exact h
          · exact hf
          · exact ho
          · exact hfr
          · rw [hval]; first | exact hvV | exact hf
        ·
          try replace h0 := of_decide_eq_false h0
          have hval : valueOf H first last = first := by rw [valueOf, if_neg h0]
          refine wc_skip ?_
          refine wk_norm ?_
          refine wk_drop [(0, .pointer (some ⟨gT, 0, none⟩)), (1, .slice A0 H.length c0), (2, .slice A1 first.length c1), (3, .slice B (nats p).length d), (4, .int .i64 last), (12, .pointer (some ⟨gs12, 0, none⟩)), (14, .slice _ (valueOf H first last).length _)] ⟨rfl, rfl, rfl, rfl, rfl, rfl, (by rw [hval]; rfl), trivial⟩ (hK _ _ ?_)
          refine ⟨_, _, rfl, ?_, ?_, ?_, ?_, ?_, ?_⟩
          · exact hp
          · exact h
          · exact hf
          · exact ho
          · exact hfr
          · rw [hval]; first | exact hvV | exact hf
      ·
        rintro _ wc ⟨A14, c14, rfl, hp, h, hf, ho, hfr, hv⟩
        refine wc_seq ?_
        refine wc_seq ?_
        refine wc_region ?_
        refine wl_assign (by decide) rfl ?_
        refine wl_nil ?_
        refine wk_norm ?_
        refine wc_block ?_
        refine wc_loop (fun L' w' mes => ∃ (i : Nat), ∃ (Fz2 : Nat → Prop), ∃ (T2 : List (Nat × Int)), ∃ (AT2 : Option Addr), ∃ (cT2 : Nat), L' = [(0, .pointer (some ⟨gT, 0, none⟩)), (1, .slice A0 H.length c0), (2, .slice A1 first.length c1), (3, .slice B (nats p).length d), (4, .int .i64 last), (12, .pointer (some ⟨gs12, 0, none⟩)), (14, .slice A14 (valueOf H first last).length c14), (15, .int .i64 (i : Int))] ∧ (i ≤ H.length) ∧ (∀ j, j < i → allowS H first (bitsS p) last j = true → G H first (bitsS p ||| 1 <<< j) (nextL H last j) = none) ∧ (MemoK H first T2) ∧ (∀ t ∈ T2, t ∈ T ∨ bitsS p < t.1) ∧ (HP w0 M0 Fz2 w' (itB gs12 80 [.int .i64 (bitsS p : Int), .int .i64 last] :: itB gT 147 [.slice AT2 T2.length cT2] :: itR 80 2 AT2 T2.length cT2 (keysC T2) :: F)) ∧ (HS Fz2 w' A0 c0 H) ∧ (BS Fz2 w' A1 c1 first) ∧ (IS Fz2 w' B d (nats p)) ∧ (Frz Fz Fz2 w w') ∧ (BS Fz2 w' A14 c14 (valueOf H first last)) ∧ H.length - i = mes) [(0, .pointer (some ⟨gT, 0, none⟩)), (1, .slice A0 H.length c0), (2, .slice A1 first.length c1), (3, .slice B (nats p).length d), (4, .int .i64 last), (12, .pointer (some ⟨gs12, 0, none⟩)), (14, .slice A14 (valueOf H first last).length c14), (15, .int .i64 (0 : Int))] (H.length - 0) (by
            refine ⟨0, Fz, T, AT, cT, rfl, ?_, ?_, ?_, ?_, ?_, ?_, ?_, ?_, ?_, ?_, rfl⟩
            · omega
            · intro j hj; omega
            · exact hM
            · exact fun t ht => .inl ht
            · exact hp
            · exact h
            · exact hf
            · exact ho
            · exact hfr
            · exact hv) ⟨rfl, rfl, rfl, rfl, rfl, rfl, rfl, rfl, trivial⟩ ?_
        rintro _ wr _ ⟨i, Fz2, T2, AT2, cT2, rfl, hi, hall, hM2, hT2, hp, h, hf, ho, hfr, hv, rfl⟩ KL2 hKL2
        refine wc_seq ?_
        refine wc_seq ?_
        refine wc_region ?_
        refine wl_move (by decide) rfl ?_
        refine wl_move (by decide) rfl ?_
        refine wl_len (by decide) Try.underlying129 rfl ?_
        refine wl_lss (by decide) rfl rfl ?_
        refine wl_nil ?_
        refine wk_norm ?_
        refine wc_cond rfl (fun hlt2 => ?_) (fun hlt2 => ?_)
        ·
          try replace hlt2 := of_decide_eq_true hlt2
          refine wc_skip ?_
          refine wk_norm ?_
          refine wc_seq ?_
          refine wc_block ?_
          refine wc_seq ?_
          refine wc_seq ?_
          refine wc_region ?_
          refine wl_move (by decide) rfl ?_
          refine wl_move (by decide) rfl ?_
          refine wl_move (by decide) rfl ?_
          refine wl_move (by decide) rfl ?_
          have hcl := may_ok (H := H) h ho (fun k => bitsS_tb hP.1 k) hv rfl (show i < H.length by omega)
          refine wl_call (by decide) Try.cl105 rfl hcl ?_
          clear hcl
          rintro _ wb ⟨rfl, hEb⟩
          replace h := h.ext hEb
          replace hf := hf.ext hEb
          replace ho := ho.ext hEb
          replace hfr := hfr.ext hEb
          replace hv := hv.ext hEb
          replace hp := hp.ext hEb
          first | refine wl_notd (by decide) rfl ?_ | refine wl_not (by decide) rfl ?_
          refine wl_nil ?_
          refine wk_norm ?_
          refine wc_cond rfl (fun ha => ?_) (fun ha => ?_)
          ·
            try replace ha := of_decide_eq_true ha
            replace ha : allowS H first (bitsS p) last i = false := by simpa using ha
            refine wc_exit ?_
            refine wk_then_exit ?_
            refine wk_blk_exit ?_
            refine wk_norm ?_
            refine wc_region ?_
            refine wl_move (by decide) rfl ?_
            refine wl_add (by decide) rfl rfl (w64 (by omega) (by omega)) ?_
            refine wl_assign (by decide) rfl ?_
            refine wl_nil ?_
            refine wk_norm ?_
            refine wk_drop [(0, .pointer (some ⟨gT, 0, none⟩)), (1, .slice A0 H.length c0), (2, .slice A1 first.length c1), (3, .slice B (nats p).length d), (4, .int .i64 last), (12, .pointer (some ⟨gs12, 0, none⟩)), (14, .slice A14 (valueOf H first last).length c14), (15, .int .i64 ((i + 1) : Int))] ⟨rfl, rfl, rfl, rfl, rfl, rfl, rfl, rfl, trivial⟩ (hKL2 _ _ (m2 := H.length - (i + 1)) ?_ ?_)
            ·
              refine ⟨(i + 1), Fz2, T2, AT2, cT2, rfl, ?_, ?_, ?_, ?_, ?_, ?_, ?_, ?_, ?_, ?_, rfl⟩
              · omega
              · intro j hj hja
                by_cases e : j = i
                · subst e; exact absurd hja (by rw [ha]; simp)
                · exact hall j (by omega) hja
              · exact hM2
              · exact hT2
              · exact hp
              · exact h
              · exact hf
              · exact ho
              · exact hfr
              · exact hv
            · omega
          ·
            try replace ha := of_decide_eq_false ha
            replace ha : allowS H first (bitsS p) last i = true := by simpa using ha
            refine wc_skip ?_
            refine wk_norm ?_
            refine wc_seq ?_
            refine wc_region ?_
            refine wl_move (by decide) rfl ?_
            refine wl_assign (by decide) rfl ?_
            refine wl_nil ?_
            refine wk_norm ?_
            refine wc_seq_cut (fun L' w' => L' = [(0, .pointer (some ⟨gT, 0, none⟩)), (1, .slice A0 H.length c0), (2, .slice A1 first.length c1), (3, .slice B (nats p).length d), (4, .int .i64 last), (12, .pointer (some ⟨gs12, 0, none⟩)), (14, .slice A14 (valueOf H first last).length c14), (15, .int .i64 (i : Int)), (16, .int .i64 (nextL H last i))] ∧ (HP w0 M0 Fz2 w' (itB gs12 80 [.int .i64 (bitsS p : Int), .int .i64 last] :: itB gT 147 [.slice AT2 T2.length cT2] :: itR 80 2 AT2 T2.length cT2 (keysC T2) :: F)) ∧ (HS Fz2 w' A0 c0 H) ∧ (BS Fz2 w' A1 c1 first) ∧ (IS Fz2 w' B d (nats p)) ∧ (Frz Fz Fz2 w w') ∧ (BS Fz2 w' A14 c14 (valueOf H first last))) (fun K hK => ?_) ?_
            ·
              refine wc_seq ?_
              refine wc_region ?_
              refine wl_move (by decide) rfl ?_
              obtain ⟨aE, BE, dE, hAE, hatE, hvE⟩ := HS.el h i (by omega)
              refine wl_move (by decide) rfl ?_
              refine wl_idx0 (by decide) Try.sl129 rfl rfl hAE i rfl (by omega) ?_
              refine wl_fld (by decide) Try.fld139_0 rfl ?_
              refine wl_load (by decide) Try.sc4 rfl (hatE.get rfl) ?_
              refine wl_nil ?_
              refine wk_norm ?_
              refine wc_cond rfl (fun hwr => ?_) (fun hwr => ?_)
              ·
                try replace hwr := of_decide_eq_true hwr
                have hnx : nextL H last i = (i : Int) := by rw [nextL, if_pos hwr]
                refine wc_region ?_
                refine wl_move (by decide) rfl ?_
                refine wl_assign (by decide) rfl ?_
                refine wl_nil ?_
                refine wk_norm ?_
                refine wk_drop [(0, .pointer (some ⟨gT, 0, none⟩)), (1, .slice A0 H.length c0), (2, .slice A1 first.length c1), (3, .slice B (nats p).length d), (4, .int .i64 last), (12, .pointer (some ⟨gs12, 0, none⟩)), (14, .slice A14 (valueOf H first last).length c14), (15, .int .i64 (i : Int)), (16, .int .i64 (nextL H last i))] ⟨rfl, rfl, rfl, rfl, rfl, rfl, rfl, rfl, (by rw [hnx]; rfl), trivial⟩ (hK _ _ ?_)
                refine ⟨rfl, ?_, ?_, ?_, ?_, ?_, ?_⟩
                · exact hp
                · exact h
                · exact hf
                · exact ho
                · exact hfr
                · exact hv
              ·
                try replace hwr := of_decide_eq_false hwr
                have hnx : nextL H last i = last := by rw [nextL, if_neg (by rw [hwr]; simp)]
                refine wc_skip ?_
                refine wk_norm ?_
                refine wk_drop [(0, .pointer (some ⟨gT, 0, none⟩)), (1, .slice A0 H.length c0), (2, .slice A1 first.length c1), (3, .slice B (nats p).length d), (4, .int .i64 last), (12, .pointer (some ⟨gs12, 0, none⟩)), (14, .slice A14 (valueOf H first last).length c14), (15, .int .i64 (i : Int)), (16, .int .i64 (nextL H last i))] ⟨rfl, rfl, rfl, rfl, rfl, rfl, rfl, rfl, (by rw [hnx]; rfl), trivial⟩ (hK _ _ ?_)
                refine ⟨rfl, ?_, ?_, ?_, ?_, ?_, ?_⟩
                · exact hp
                · exact h
                · exact hf
                · exact ho
                · exact hfr
                · exact hv
            ·
              rintro _ wn ⟨rfl, hp, h, hf, ho, hfr, hv⟩
              refine wc_seq ?_
              refine wc_region ?_
              refine wl_move (by decide) rfl ?_
              refine wl_move (by decide) rfl ?_
              refine wl_move (by decide) rfl ?_
              refine wl_move (by decide) rfl ?_
              have hpl := hP.len
              have hcl := copyInts_ok ho (by rw [nats_len]; omega)
              refine wl_call (by decide) Try.cl42 rfl hcl ?_
              clear hcl
              rintro _ wd ⟨A20, c20, rfl, hcp, hEd⟩
              replace h := h.ext hEd
              replace hf := hf.ext hEd
              replace ho := ho.ext hEd
              replace hfr := hfr.ext hEd
              replace hv := hv.ext hEd
              replace hp := (hp.ownRow hEd hcp)
              refine wl_move (by decide) rfl ?_
              refine wl_bsliceE (enc := fun z : Int => .int .i64 z) (xs := [.tmp 78]) (bs := [(i : Int)]) (fun _ => rfl) (by decide) Try.sl33 rfl rfl rfl (by simp) _ (Nat.le_refl _) ?_
              rintro gt wt hgt hot hEt
              replace h := h.ext hEt
              replace hf := hf.ext hEt
              replace ho := ho.ext hEt
              replace hfr := hfr.ext hEt
              replace hv := hv.ext hEt
              replace hp := hp.ext hEt
              refine wl_happend (i := 0) (m := 1) (news := [.int .i64 (i : Int)]) (by decide) Try.sl33 rfl rfl hp rfl rfl (fun b hb => by cases hb; exact hot.at0) (by simp) (by simp [Value.oneCell']) (by rw [nats_len]; omega) ?_
              rintro A4 c4 w4 hp4 hC4
              replace h := h.fz hC4
              replace hf := hf.fz hC4
              replace ho := ho.fz hC4
              replace hfr := hfr.fz hC4
              replace hv := hv.fz hC4
              replace hp := hp4
              refine wl_move (by decide) rfl ?_
              have hro := hp.rowAt (i := 0) rfl
              obtain ⟨Fz4, hp4b, hs4, hr4⟩ := hp.frzRow
              replace hp := hp4b.rot3
              replace h := h.wid hs4
              replace hf := hf.wid hs4
              replace ho := ho.wid hs4
              replace hfr := hfr.wid hs4
              replace hv := hv.wid hs4
              have e5 : (nats (p ++ [i])).length = (nats p).length + 1 := by simp [nats]
              have ho2 : IS Fz4 w4 A4 c4 (nats (p ++ [i])) := by
                refine OwnRow.gsF (enc := fun z : Int => .int .i64 z) (lo := 0) (e := 3) ?_ hr4
                rw [e5, nats_append, List.map_append]
                exact hro
              refine wl_re (k := 80) (v := .slice A4 (nats (p ++ [i])).length c4) rfl (by rw [e5]) ?_
              obtain ⟨hP2, hb2⟩ := bitsS_snoc hP (show i < H.length by omega) (allowS_tb H first ha)
              have hcn := cntN_or (bitsS p) i (allowS_tb H first ha) H.length
              rw [if_pos (show i < H.length by omega), ← hb2] at hcn
              have hgt : bitsS p < bitsS (p ++ [i]) := by
                rw [hb2, ← add_or (allowS_tb H first ha), Nat.shiftLeft_eq, Nat.one_mul]
                have := Nat.two_pow_pos i
                omega
              have hL2 : LastK H (nextL H last i) := by
                unfold nextL LastK at *
                split <;> omega
              have hcl := ih (cntN H.length (bitsS (p ++ [i]))) (by omega) w0 _ M0 Fz4 _ gT T2 AT2 cT2 (p ++ [i]) (nextL H last i) A0 A1 A4 c0 c1 c4 hp h hf ho2 hP2 hL2 hM2 (Nat.le_refl _)
              refine wl_call (by decide) Try.cl101 rfl hcl ?_
              clear hcl
              rintro _ we ⟨A5, c5, q, b, T3, AT3, cT3, Fz5, rfl, hp5, hs5, hC5, hq5, hM3, hT3, hG5⟩
              replace h := (h.fz hC5).wid hs5
              replace hf := (hf.fz hC5).wid hs5
              replace ho := (ho.fz hC5).wid hs5
              replace hfr := (hfr.fz hC5).wid hs5
              replace hv := (hv.fz hC5).wid hs5
              replace hp := hp5.rot3.rot3
              refine wl_move (by decide) rfl ?_
              refine wl_extract (by decide) rfl rfl ?_
              refine wl_extract (by decide) rfl rfl ?_
              refine wl_assign (by decide) rfl ?_
              refine wl_assign (by decide) rfl ?_
              refine wl_nil ?_
              refine wk_norm ?_
              refine wc_seq ?_
              refine wc_region ?_
              refine wl_move (by decide) rfl ?_
              refine wl_nil ?_
              refine wk_norm ?_
              refine wc_cond rfl (fun hb => ?_) (fun hb => ?_)
              ·
                try replace hb := of_decide_eq_true hb
                obtain ⟨r, hr⟩ : ∃ r, G H first (bitsS (p ++ [i])) (nextL H last i) = some r := by
                  cases hg : G H first (bitsS (p ++ [i])) (nextL H last i) with
                  | none => rw [hg] at hG5; exact absurd hG5.1 (by rw [hb]; simp)
                  | some r => exact ⟨r, rfl⟩
                rw [hr] at hG5
                refine wc_seq ?_
                refine wc_region ?_
                refine wl_move (by decide) rfl ?_
                refine wl_assign (by decide) rfl ?_
                refine wl_assign (by decide) rfl ?_
                refine wl_nil ?_
                refine wk_norm ?_
                refine wc_ret ?_
                refine wk_blk_ret ?_
                refine wk_then_ret ?_
                refine wk_then_ret ?_
                refine wk_blk_ret ?_
                refine wk_then_ret ?_
                refine wk_post2 (.inl rfl) Try.results101 rfl rfl ?_
                rw [hb2] at hr
                exact ⟨_, rfl, A5, c5, q, true, T3, AT3, cT3, Fz5, rfl, hp.tail, hfr.sub, hfr.chg, hq5, hM3, fun t ht => (hT3 t ht).elim (fun h1 => (hT2 t h1).elim .inl (fun h2 => .inr (by omega))) (fun h1 => .inr (by omega)), by rw [G_some H first hw (by omega) ha hr (fun j hj => hall j (by omega))]; exact ⟨rfl, by rw [hG5.2]; simp⟩⟩
              ·
                try replace hb := of_decide_eq_false hb
                have hGn : G H first (bitsS p ||| 1 <<< i) (nextL H last i) = none := by
                  rw [← hb2]
                  cases hg : G H first (bitsS (p ++ [i])) (nextL H last i) with
                  | none => rfl
                  | some r => rw [hg] at hG5; exact absurd hG5.1 (by rw [hb]; simp)
                refine wc_skip ?_
                refine wk_blk_norm ?_
                refine wk_norm ?_
                refine wc_region ?_
                refine wl_move (by decide) rfl ?_
                refine wl_add (by decide) rfl rfl (w64 (by omega) (by omega)) ?_
                refine wl_assign (by decide) rfl ?_
                refine wl_nil ?_
                refine wk_norm ?_
                refine wk_drop [(0, .pointer (some ⟨gT, 0, none⟩)), (1, .slice A0 H.length c0), (2, .slice A1 first.length c1), (3, .slice B (nats p).length d), (4, .int .i64 last), (12, .pointer (some ⟨gs12, 0, none⟩)), (14, .slice A14 (valueOf H first last).length c14), (15, .int .i64 ((i + 1) : Int))] ⟨rfl, rfl, rfl, rfl, rfl, rfl, rfl, rfl, trivial⟩ (hKL2 _ _ (m2 := H.length - (i + 1)) ?_ ?_)
                ·
                  refine ⟨(i + 1), Fz5, T3, AT3, cT3, rfl, ?_, ?_, ?_, ?_, ?_, ?_, ?_, ?_, ?_, ?_, rfl⟩
                  · omega
                  · intro j hj hja
                    by_cases e : j = i
                    · subst e; exact hGn
                    · exact hall j (by omega) hja
                  · exact hM3
                  · intro t ht
                    rcases hT3 t ht with h1 | h1
                    · exact hT2 t h1
                    · exact .inr (by omega)
                  · exact hp
                  · exact h
                  · exact hf
                  · exact ho
                  · exact hfr
                  · exact hv
                · omega
        ·
          try replace hlt2 := of_decide_eq_false hlt2
          have hiH : i = H.length := by omega
          refine wc_exit ?_
          refine wk_then_exit ?_
          refine wk_then_exit ?_
          refine wk_blk_exit ?_
          refine wk_norm ?_
          refine wc_seq ?_
          obtain ⟨KM, ⟨hRo, hRk⟩, hKF, hKlt, hpo, hup⟩ := hp.apart (i := 2) rfl
          apply wc_drawTM 8 7 KM [SP.eq _, SP.eq _, SP.eq _, SP.eq _, SP.eq _, SP.eq _, SP.tmpR _ 80 2 1 [.int .i64 (bitsS p : Int), .int .i64 last], SP.turn KM _ 80 2 (T2.length + 1) (keysC T2 ++ [.int .i64 (bitsS p : Int), .int .i64 last])] (by kernel_rfl) (by kernel_rfl) ⟨.inr (fun _ _ _ _ h => h), .inr (fun _ _ _ _ h => h), .inr (fun _ _ _ _ h => h), .inr (fun _ _ _ _ h => h), .inr (fun _ _ _ _ h => h), .inr (fun _ _ _ _ h => h), .inr (SP.tmpR_st hKlt), .inl rfl, trivial⟩
          · refine ⟨?_, ?_, ?_, ?_, ?_, ?_, ?_, ?_, trivial⟩
            ·
              intro F wF hER hEE hk
              have e0 := hk.init 0 _ rfl (by kernel_rfl)
              refine wl_move (by decide) e0 ?_
              exact wl_nil (qr_some ⟨Chg.refl _ _, rfl⟩)
            ·
              intro F wF hER hEE hk
              have e0 := hk.init 0 _ rfl (by kernel_rfl)
              refine wl_move (by decide) e0 ?_
              exact wl_nil (qr_some ⟨Chg.refl _ _, rfl⟩)
            ·
              intro F wF hER hEE hk
              obtain ⟨u88, e88, h88⟩ := hk.pred 1 (by kernel_rfl) 88 rfl
              obtain rfl := h88
              refine wl_nilCheck (by decide) e88 ?_
              exact wl_nil (qr_some ⟨Chg.refl _ _, rfl⟩)
            ·
              intro F wF hER hEE hk
              obtain ⟨u89, e89, h89⟩ := hk.pred 2 (by kernel_rfl) 89 rfl
              obtain rfl := h89
              refine wl_fld' (o' := 0) (by decide) Try.fld147_0 e89 rfl ?_
              exact wl_nil (qr_some ⟨Chg.refl _ _, rfl⟩)
            ·
              intro F wF hER hEE hk
              obtain ⟨u90, e90, h90⟩ := hk.pred 3 (by kernel_rfl) 90 rfl
              obtain rfl := h90
              refine wl_hload (i := 1) (by decide) Try.sc145 e90 (hpo _ hER) rfl rfl ?_
              exact wl_nil (qr_some ⟨Chg.refl _ _, rfl⟩)
            ·
              intro F wF hER hEE hk
              have e12 := hk.init 12 _ rfl (by kernel_rfl)
              refine wl_hloadA (i := 0) (by decide) Try.ag80 e12 (hpo _ hER) rfl rfl ?_
              exact wl_nil (qr_some ⟨Chg.refl _ _, rfl⟩)
            ·
              intro F wF hER hEE hk
              obtain ⟨u92, e92, h92⟩ := hk.pred 5 (by kernel_rfl) 92 rfl
              obtain rfl := h92
              refine wl_bslice (size := 2) (xs := [.tmp 92]) (vs := [.agg #[.int .i64 (bitsS p : Int), .int .i64 last]]) (by decide) Try.sl145 rfl (by simp only [evs, ev, e92]; first | done | rfl) rfl (by intro v hv; rw [List.mem_singleton.1 hv]; rfl) (Nat.le_of_ble_eq_true rfl) 0 (Nat.zero_le _) ?_
              rintro gt wt hgt hot hEt
              exact wl_nil (qr_some ⟨hEt, gt, rfl, by rw [hgt]; exact hER.size, hot⟩)
            ·
              intro F wF hER hEE hk
              have hEx := hEE rfl
              obtain ⟨u91, e91, h91⟩ := hk.pred 4 (by kernel_rfl) 91 rfl
              obtain rfl := h91
              obtain ⟨u93, e93, h93⟩ := hk.pred 6 (by kernel_rfl) 93 rfl
              obtain ⟨gt, rfl, hgt0, hot⟩ := h93
              have hml := memo_len hM2
              refine wl_append (size := 2) (m := 1) (news := [.int .i64 (bitsS p : Int), .int .i64 last]) (by decide) Try.sl145 e91 e93 (hRo.ext hEx) (by simp) (fun b hb => by cases hb; exact hot.at0) (by simp) (List.all_eq_true.1 rfl) (by omega) (Nat.zero_le _) ?_
              rintro A3 c3 w3 ho3 hch3 h43
              exact wl_nil (qr_some ⟨hch3.weak (fun b _ x => (hRk b).2 ⟨x.1, x.2.2⟩), A3, c3, rfl, ho3, fun b hb => (by
                  rcases h43 with ⟨rfl, rfl⟩ | rfl
                  · exact .inl ((hRk b).2 hb)
                  · obtain ⟨_, a, ha, rfl⟩ := hb
                    cases ha
                    exact .inr hEx.size)⟩)
          ·
            intro F wD hED hini hdo
            obtain ⟨u87, e87, h87⟩ := hdo 0 87 (Nat.lt_of_lt_of_eq (by decide) rfl) rfl
            obtain rfl := h87
            obtain ⟨u94, e94, h94⟩ := hdo 7 94 (Nat.lt_of_lt_of_eq (by decide) rfl) rfl
            obtain ⟨A3, c3, rfl, ho3, hK3⟩ := h94
            refine wl_drop [(87, _), (94, _)] ⟨e87, e94, trivial⟩ ?_
            clear e87 e94 hini hdo
            replace h := h.fz (hED.weak (fun b _ hb => hKF b hb))
            replace hf := hf.fz (hED.weak (fun b _ hb => hKF b hb))
            replace ho := ho.fz (hED.weak (fun b _ hb => hKF b hb))
            replace hfr := hfr.fz (hED.weak (fun b _ hb => hKF b hb))
            replace hv := hv.fz (hED.weak (fun b _ hb => hKF b hb))
            replace hp := hup _ (itR 80 2 A3 (T2.length + 1) c3 (keysC T2 ++ [.int .i64 (bitsS p : Int), .int .i64 last])) (fun b => c3 ≠ 0 ∧ blk A3 b) hED ⟨ho3, fun _ => Iff.rfl⟩ hK3
            refine wl_nilCheck (by decide) rfl ?_
            refine wl_fld' (o' := 0) (by decide) Try.fld147_0 rfl rfl ?_
            refine wl_hstore (i := 1) rfl rfl hp rfl Try.sz145 (Nat.le_of_ble_eq_true rfl) (List.all_eq_true.1 rfl) ?_
            rintro w3 hp3 hC3
            replace h := h.fz hC3
            replace hf := hf.fz hC3
            replace ho := ho.fz hC3
            replace hfr := hfr.fz hC3
            replace hv := hv.fz hC3
            replace hp := hp3
            refine wl_nil ?_
            refine wk_norm ?_
            refine wc_seq ?_
            refine wc_region ?_
            refine wl_assign (by decide) rfl ?_
            refine wl_assign (by decide) rfl ?_
            refine wl_nil ?_
            refine wk_norm ?_
            refine wc_ret ?_
            refine wk_post2 (.inl rfl) Try.results101 rfl rfl ?_
            have hg : G H first (bitsS p) last = none := G_none H first hw (fun j hj => hall j (by omega))
            have e1 : (T2 ++ [(bitsS p, last)]).length = T2.length + 1 := by simp
            have e2 : keysC (T2 ++ [(bitsS p, last)]) = keysC T2 ++ [.int .i64 (bitsS p : Int), .int .i64 last] := keysC_snoc _ _
            have hbb := bitsS_lt hP
            have hbb2 : bitsS p < 16384 := Nat.lt_of_lt_of_le hbb (Nat.le_trans (Nat.pow_le_pow_right (by omega) hl14) (by decide))
            have hLL := hL.1
            have hLU := hL.2
            have hMn : MemoK H first (T2 ++ [(bitsS p, last)]) := by
              refine ⟨List.nodup_append.2 ⟨hM2.1, by simp, fun a ha b hb => ?_⟩, fun t ht => ?_⟩
              · rw [List.mem_singleton.1 hb]
                rintro rfl
                rcases hT2 _ ha with h1 | h1
                · exact hkT h1
                · exact Nat.lt_irrefl _ h1
              · rcases List.mem_append.1 ht with h1 | h1
                · exact hM2.2 t h1
                · rw [List.mem_singleton.1 h1]
                  exact ⟨hg, hbb2, hLL, by omega⟩
            refine ⟨_, rfl, none, 0, [], false, T2 ++ [(bitsS p, last)], A3, c3, Fz2, rfl, by rw [e1, e2]; exact hp.tail, hfr.sub, hfr.chg, GS.nil _ _ _ _ _, hMn, fun t ht => ?_, by rw [hg]; exact ⟨rfl, rfl⟩⟩
            rcases List.mem_append.1 ht with h1 | h1
            · exact (hT2 t h1).elim .inl (fun h2 => .inr (by omega))
            · rw [List.mem_singleton.1 h1]; exact .inr (Nat.le_refl _)
end Go.Proofs.Ytgheaedligkhoaa
namespace Go.Proofs.Ytgheaedligkhoaa
open Go.RowKit Go.Eng _root_.Go.Proofs.Try Go.Eng _root_.Go.Proofs.Try
set_option maxRecDepth 100000
variable {w0 w : World} {M0 Fz : Nat → Prop} {H : List It} {A : Option Addr} {c : Nat}
set_option maxHeartbeats 8000000 in
theorem second_ok {pk : Addr} {csk : List Value} {k : Lok} {Sk Pk : Nat → Prop} {i : Nat} {w : World} (hatk : AtF Pk w pk csk) (hk : lokR.rd Sk w csk k) (hi : i < k.l.length) : Ret prog 65 #[.pointer (some pk), iv i] w (fun v w' => v = .bool (decide (R2 (k.l.take i) (k.l.getD i evt0))) ∧ Ext w w') := by
 obtain ⟨p, l⟩ := k
 obtain ⟨hIk, Ak, ck, rfl, hl0⟩ := hk
 dsimp only at hi hl0 hatk ⊢
 refine ret_of_wk func65 rfl ntmps65 leB_ ?_
 have hp := HP.begin_ w
 have hmx := hl0.mx
 have hlF := hl0.now
 have hat := hatk.now
 generalize hF0 : (fun b => b < w.heap.size) = F0 at hp hlF hat
 obtain ⟨ai, I0, i0', I1, i1, I2, i2, I3, i3, hAi, hati, hIi, y0, y1, y2, y3⟩ := evtR_el hlF i hi
 generalize l.getD i evt0 = e at hati hIi y0 y1 y2 y3 ⊢
 refine so ?_
 refine Alo hp (h := fun g5 w1 hp E1 => so ?_)
 refine Hs 0 hp (h := fun w2 hp C2 => ?_)
 replace hp := hp.as_ (H' := itB g5 46 (evC e I0 i0' I1 i1 I2 i2 I3 i3) :: []) rfl
 have f2 : Frz F0 F0 w w2 := mv
 have her : evtR.rd F0 w2 (evC e I0 i0' I1 i1 I2 i2 I3 i3) e := ⟨hIi, I0, i0', I1, i1, I2, i2, I3, i3, rfl, y0.to f2, y1.to f2, y2.to f2, y3.to f2⟩
 clear hati
 refine so ?_
 refine Cx hp (rclient_ok her) (h := fun w3 hp E3 => so ?_)
 have f3 : Frz F0 F0 w w3 := Frz.bE E3 f2
 refine Cd ?_ ?_ <;> intro c1
 ·refine so ?_
  exact Pt ⟨_, rfl, bool_f (fun h => h.1 c1), hp.chg⟩
 refine so ?_
 refine Lp [0, 1, 5, 6, 7] (fun L' w' mes => ∃ j : Nat, L' = [(0, .pointer (some pk)), (1, iv i), (5, pt g5 0), (6, .bool (downB e.a (l.take j))), (7, iv (j : Int))] ∧ j ≤ i ∧ HP w (fun _ => False) F0 w' (itB g5 46 (evC e I0 i0' I1 i1 I2 i2 I3 i3) :: []) ∧ Frz F0 F0 w w' ∧ mes = i - j) (i - 0) ⟨0, rfl, Nat.zero_le _, hp, f3, rfl⟩ ?_
 clear hp
 rintro _ wr _ ⟨j, rfl, hj, hp, hF, rfl⟩ KL hKL
 refine so ?_
 refine Cd ?_ ?_ <;> intro hc
 ·have hj9 : j < l.length := by omega
  have hstep : downB e.a (l.take (j + 1)) = (fun d (x : Evt) => if x.a = e.a then (if x.kind = 8 then true else if x.kind = 9 then false else d) else d) (downB e.a (l.take j)) (l.getD j evt0) := foldl_take _ _ hj9
  obtain ⟨ae, A0, c0, A1, c1', A2, c2, A3, c3, hAe, hate, hIe, _⟩ := evtR_el hlF j hj9
  have hat2 := hat.to hF
  have hate2 := hate.to hF
  clear hate hat
  generalize l.getD j evt0 = x at hstep hate2 hIe
  generalize downB e.a (l.take j) = d at hstep ⊢
  dsimp only at hstep
  refine sl ?_
  refine wc_seq ?_
  refine wc_block ?_
  refine wc_seq_cut (fun L' w' => L' = [(0, .pointer (some pk)), (1, iv i), (5, pt g5 0), (6, .bool (if x.a = e.a ∧ x.kind = 8 then true else d)), (7, iv (j : Int))] ∧ Ext wr w') ?_ ?_
  ·intro K hK
   refine so ?_
   by_cases b1 : x.a = e.a
   ·refine wdP 17 hp (fun wD hp hED => pl) fun w5 hp E5 => so ?_
    refine Gs 33 ?_ ?_ <;> intro q1
    rotate_left
    ·exact absurd b1 q1
    refine so ?_
    refine Cd ?_ ?_ <;> intro q2 <;> refine so ?_
    ·refine wk_re (k := 6) (v := .bool (if x.a = e.a ∧ x.kind = 8 then true else d)) rfl (by rw [if_pos ⟨q1, q2⟩]) ?_
     exact Kd [0, 1, 5, 6, 7] hK ⟨rfl, E5⟩
    ·refine wk_re (k := 6) (v := .bool (if x.a = e.a ∧ x.kind = 8 then true else d)) rfl (by rw [if_neg (fun h => q2 h.2)]) ?_
     exact Kd [0, 1, 5, 6, 7] hK ⟨rfl, E5⟩
   ·refine wdP 17 hp (fun wD hp hED => pl) fun w5 hp E5 => so ?_
    refine Gs 33 ?_ ?_ <;> intro q1
    ·exact absurd q1 b1
    refine so ?_
    refine aF (so ?_)
    refine wk_re (k := 6) (v := .bool (if x.a = e.a ∧ x.kind = 8 then true else d)) rfl (by rw [if_neg (fun h => q1 h.1)]) ?_
    exact Kd [0, 1, 5, 6, 7] hK ⟨rfl, E5⟩
  rintro _ w5 ⟨rfl, E5⟩
  replace hp := hp.ext E5
  have hat5 := hat2.ext E5
  have hate5 := hate2.ext E5
  clear hat2 hate2
  refine so ?_
  have fin : ∀ {w' : World} {v : Bool}, HP w (fun _ => False) F0 w' (itB g5 46 (evC e I0 i0' I1 i1 I2 i2 I3 i3) :: []) → Ext w5 w' → downB e.a (l.take (j + 1)) = v → WK 71 KL [(0, .pointer (some pk)), (1, iv i), (5, pt g5 0), (6, .bool v), (7, iv ((j : Int) + 1))] w' := fun hp E h => by
   subst h
   exact Kl [0, 1, 5, 6, 7] hKL (i - (j + 1)) ⟨j + 1, rfl, by omega, hp, Frz.bE (E5.trans E) hF, rfl⟩ (by omega)
  by_cases b1 : x.a = e.a
  ·refine wdP 17 hp (fun wD hp hED => pl) fun w6 hp E6 => so ?_
   refine Gs 55 ?_ ?_ <;> intro q1
   rotate_left
   ·exact absurd b1 q1
   refine so ?_
   refine Cd ?_ ?_ <;> intro q2 <;> refine so ?_
   ·exact wk_drop _ (pk_sub (is := [0, 1, 5, 6, 7]) rfl) (fin hp E6 (by rw [hstep, if_pos q1, if_neg (by omega), if_pos q2]))
   ·refine wk_drop _ (pk_sub (is := [0, 1, 5, 6, 7]) rfl) (fin hp E6 ?_)
    rw [hstep, if_pos q1, if_neg q2]
    by_cases q3 : x.kind = 8
    ·rw [if_pos q3, if_pos ⟨q1, q3⟩]
    ·rw [if_neg q3, if_neg (fun h => q3 h.2)]
  ·refine wdP 17 hp (fun wD hp hED => pl) fun w6 hp E6 => so ?_
   refine Gs 55 ?_ ?_ <;> intro q1
   ·exact absurd q1 b1
   refine so ?_
   refine aF (so ?_)
   exact wk_drop _ (pk_sub (is := [0, 1, 5, 6, 7]) rfl) (fin hp E6 (by rw [hstep, if_neg q1, if_neg (fun h => q1 h.1)]))
 ·have hji : j = i := by omega
  subst hji
  refine so ?_
  refine wl_neqb (by decide) (by kernel_rfl) rfl rfl (so ?_)
  exact Pt ⟨_, rfl, congrArg Value.bool (decide_eq_decide.2 ⟨fun h => ⟨c1, h⟩, fun h => h.2⟩), hp.chg⟩
set_option maxHeartbeats 4000000 in
theorem shape_ok {w0 w : World} {M0 Fz : Nat → Prop} {H : List It} {q : JMem} {p : Pln} {ln : Nat} {here : Int} {v : JVal} {cs : List Value} {e : Evt} (hj : JW w0 M0 Fz w H q p ln here v) (he : evtR.rd Fz w cs e) (hM : PlnMay p) (hP : PlnI p) : Ret prog 29 #[pt q.g 0, .agg cs.toArray] w (JA w0 M0 Fz w H q p ln here (V1 p v e) 1 v) := by
 obtain ⟨f1, f2, f3, f4, f5, f6, f7, r4, r5, hp, hr⟩ := hj
 obtain ⟨hI, A0, c0, A1, c1, A2, c2, A3, c3, rfl, h0, h1, h2, h3⟩ := he
 have hM2 := hM
 unfold PlnMay at hM2
 dsimp only [jH, lookC] at hp
 refine ret_of_wk func29 rfl ntmps29 leB_ ?_
 refine so ?_
 refine Bx hp (h := fun g3 w1 hp E1 => so ?_)
 have hp1 := hp
 have he1 : evtR.rd Fz w1 _ e := ⟨hI, A0, c0, A1, c1, A2, c2, A3, c3, rfl, h0.ext E1, h1.ext E1, h2.ext E1, h3.ext E1⟩
 refine wdP 9 hp (fun wD hp hED => by refine pm ?_; exact PLe (jnodes_ok (Sp := fun _ => True) (p := p) ⟨hP, rfl⟩ (by omega) (by omega) (by omega)) (h := by refine pm ?_; exact PLs jwithin_ok (h := pl))) fun wD hp hED => ?_
 refine sl ?_
 refine wc_seq_cut (fun L' w' => L' = [(0, pt q.g 0), (3, pt g3 0), (4, iv 0), (5, .bool (decide (whoE p e)))] ∧ Ext w1 w') ?_ ?_
 ·intro K hK
  refine so ?_
  refine Cx hp (jclient_ok (evtR.keep hED (fun _ _ _ x => x) he1)) (h := fun w2 hp E2 => so ?_)
  have hx : Ext w1 w2 := hED.trans E2
  refine Cd ?_ ?_ <;> intro hc <;> refine so ?_
  ·have hwho : whoE p e ↔ (31 ≤ e.a ∧ e.a ≤ 31 + p.clients - 1) ∨ e.a = 34 := by unfold whoE; rw [if_pos hc]; omega
   by_cases hw : 31 ≤ e.a ∧ e.a ≤ 31 + p.clients - 1
   ·refine wdP 16 hp (fun wD hp hED => by refine pm ?_; exact PLs jwithin_ok (h := pl)) fun wD hp hED => so ?_
    refine wk_re (k := 5) (v := .bool (decide (whoE p e))) rfl (congrArg Value.bool (decide_eq_true (hwho.2 (.inl hw))).symm) ?_
    exact Kd [0, 3, 4, 5] hK ⟨rfl, hx.trans hED⟩
   ·refine wdP 16 hp (fun wD hp hED => by refine pm ?_; exact PLs jwithin_ok (h := pl)) fun wD hp hED => so ?_
    refine wk_re (k := 5) (v := .bool (decide (whoE p e))) rfl (congrArg Value.bool (decide_eq_decide.2 (by rw [hwho]; omega))) ?_
    exact Kd [0, 3, 4, 5] hK ⟨rfl, hx.trans hED⟩
  ·refine wk_re (k := 5) (v := .bool (decide (whoE p e))) rfl (congrArg Value.bool (decide_eq_decide.2 (by unfold whoE; rw [if_neg hc]))) ?_
   exact Kd [0, 3, 4, 5] hK ⟨rfl, hx⟩
 rintro _ wa ⟨rfl, Ea⟩
 clear hp
 have hp := hp1.ext Ea
 refine so ?_
 by_cases g1 : e.time < v.time
 ·refine wdP 23 hp (fun wD hp hED => pl) fun wD hp hED => so ?_
  refine aT (so ?_)
  exact Pt ⟨_, rfl, Fz, mv, .inl ⟨.inl g1, rfl, _, hp⟩⟩
 by_cases g2 : 1 ≤ e.kind ∧ e.kind ≤ 9
 ·by_cases g3 : whoE p e
  ·refine wdP 23 hp (fun wD hp hED => by refine pm ?_; exact PLsg jwithin_ok (h := by refine pm ?_; exact PLsg (jbad_ok (hp.up 1 rfl)) (h := pl))) fun wD hp hED => so ?_
   refine Cd ?_ ?_ <;> intro hc <;> refine so ?_
   ·exact Pt ⟨_, rfl, Fz, mv, .inl ⟨.inr (.inr (.inr (.inr hc))), rfl, _, hp⟩⟩
   ·exact Pt ⟨_, rfl, Fz, mv, .inr ⟨by unfold V1; rintro (h | h | h | h | h); exact g1 h; omega; omega; exact h g3; exact hc h, rfl, _, _, _, _, _, _, _, _, _, hp.tail, hr.to mv⟩⟩
  ·refine wdP 23 hp (fun wD hp hED => by refine pm ?_; exact PLsg jwithin_ok (h := pl)) fun wD hp hED => so ?_
   refine aT (so ?_)
   exact Pt ⟨_, rfl, Fz, mv, .inl ⟨.inr (.inr (.inr (.inl g3))), rfl, _, hp⟩⟩
 ·refine wdP 23 hp (fun wD hp hED => by refine pm ?_; exact PLsg jwithin_ok (h := pl)) fun wD hp hED => so ?_
  refine aT (so ?_)
  exact Pt ⟨_, rfl, Fz, mv, .inl ⟨by unfold V1; omega, rfl, _, hp⟩⟩
theorem jobsR.up {Fz : Nat → Prop} {w : World} {f : Value → Option Value} {r : Value → Option (List Value)} {v : JVal} {e : Evt} (h : jobsR Fz w f r v.jobs) {A : Option Addr} {c : Nat} {rs : List (List Value)} (hR : RF jobR Fz w rs (v.jobs e.group e.epoch e.seq e.a ++ [⟨e.wish, e.ans⟩])) :
  jobsR Fz w (updF f (ranV e.group e.epoch e.seq e.a) (.slice A (v.jobs e.group e.epoch e.seq e.a ++ [(⟨e.wish, e.ans⟩ : Job)]).length c)) (updG r (ranV e.group e.epoch e.seq e.a) (some rs.flatten)) (upj v e) := by
 refine ⟨fun key u hk => ?_, fun g ep s n => ?_⟩
 ·by_cases e1 : key = ranV e.group e.epoch e.seq e.a
  ·exact ⟨_, _, _, _, e1⟩
  ·rw [updF_other _ e1] at hk
   exact h.1 key u hk
 ·by_cases e1 : g = e.group ∧ ep = e.epoch ∧ s = e.seq ∧ n = e.a
  ·obtain ⟨rfl, rfl, rfl, rfl⟩ := e1
   refine .inr ⟨A, c, rs, ?_, ?_, ?_⟩
   ·rw [updF_same, up_own]
   ·rw [updG_same]
   ·rw [up_own]; exact hR
  ·have hne : ranV g ep s n ≠ ranV e.group e.epoch e.seq e.a := fun x => e1 (ranV_inj x)
   rw [updF_other _ hne, updG_other _ _ hne]
   unfold upj
   rw [if_neg e1]
   exact h.2 g ep s n
theorem ValB.u5 {v : JVal} {n : Nat} (h : ValB v n) (e : Evt) : ValB (u5 v e) (n + 1) := by
 unfold Proofs.Ytgheaedligkhoaa.u5
 split
 ·refine ⟨fun g ep s a => ?_, fun g ep => Nat.le_succ_of_le (h.s g ep), fun a => by have : calOf _ a = calOf v a := rfl; have := h.m a; dsimp only [calOf] at *; omega⟩
  dsimp only [upj]
  have := h.j g ep s a
  split
  ·rw [List.length_append, List.length_singleton]; omega
  ·omega
 ·exact h.mono (Nat.le_succ _)
theorem u9_oth (v : JVal) (e : Evt) : (u9 v e).jobs = v.jobs ∧ (u9 v e).frst = v.frst ∧ (u9 v e).bat = v.bat ∧ (u9 v e).mrk = v.mrk ∧ (u9 v e).down = v.down ∧ (u9 v e).sld = v.sld ∧ (u9 v e).time = v.time := by unfold u9; split <;> exact ⟨rfl, rfl, rfl, rfl, rfl, rfl, rfl⟩
theorem AG.nil : AG [] := ⟨fun _ _ _ _ _ _ h => (by cases h), fun _ _ h => (by cases h)⟩
def cntO (l : List Evt) (o : Wsh) (q : Nat) : Nat := (List.range q).countP fun j => decide (ourC l o j)
end Go.Proofs.Ytgheaedligkhoaa
