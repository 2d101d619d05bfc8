/- What each of these functions computes, for every argument that its theorem names; a part of what the proof of JudgeFinds stands on. -/
import Derived.Test.YtgheaedligkhoaaAab
import Derived.Test.YtgheaedligkhoaaAac
import Derived.Test.YtgheaedligkhoaaAad
import Derived.Test.YtgheaedligkhoaaAae
import Derived.Test.YtgheaedligkhoaaAaf
import Derived.Test.YtgheaedligkhoaaAag
import Derived.Test.YtgheaedligkhoaaAah
import Derived.Test.YtgheaedligkhoaaAam
import Derived.Test.YtgheaedligkhoaaAaq
import Derived.Test.YtgheaedligkhoaaAar
namespace Go.Proofs.Ytgheaedligkhoaa
open Go.RowKit Go.Eng _root_.Go.Proofs.Try Go.Eng _root_.Go.Proofs.Try
set_option maxRecDepth 100000
variable {w0 w : World} {M0 Fz : Nat → Prop} {H : List It} {A : Option Addr} {c : Nat}
set_option maxHeartbeats 8000000 in
theorem rhist_ok {pk : Addr} {csk : List Value} {k : Lok} {Sk Pk : Nat → Prop} {i : Nat} {w : World} (hatk : AtF Pk w pk csk) (hk : lokR.rd Sk w csk k) (hi : i < k.l.length) (hl : k.l.length ≤ 32768) : Ret prog 90 #[.pointer (some pk), iv i] w (fun v w' => ∃ A c, v = .slice A (histS k.p k.l i).length c ∧ GS opR (fun _ => True) w' A c (histS k.p k.l i) ∧ Ext w w') := by
 have hk0 := rdTn (F := fun b => b < w.heap.size) (w' := w) hk
 obtain ⟨p, l⟩ := k
 obtain ⟨hIk, Ak, ck, rfl, hl0⟩ := hk
 dsimp only at hi hl hl0 hatk ⊢
 refine ret_of_wk func90 rfl ntmps90 leB_ ?_
 have hp := HP.begin_ w
 have hlF := hl0.now
 have hat := hatk.now
 generalize hF0 : (fun b => b < w.heap.size) = F0 at hp hlF hat hk0
 obtain ⟨ai, I0, i0', I1, i1, I2, i2, I3, i3, hAi, hati, hIi, z0, z1, _, _⟩ := evtR_el hlF i hi
 have hAA : Ak = some ai := hAi
 unfold histS
 generalize hei : l.getD i evt0 = e at hati hIi z0 z1 ⊢
 have s5 : AtF F0 w ((ai.add (i * 53)).add 39) (wsC e.wish I0 i0' I1 i1) := hati.sub 39 10
 clear hati
 generalize ho : e.wish = o at s5 z0 z1 ⊢
 have hIo : WshI o := by rw [← ho]; exact hIi.wish
 refine so ?_
 refine Alo hp (h := fun g5 w1 hp E1 => so ?_)
 refine Hs 0 hp (h := fun w2 hp C2 => ?_)
 replace hp := (hp.as_ (H' := itB g5 42 (wsC o I0 i0' I1 i1) :: []) rfl).noRow 139 4
 have f2 : Frz F0 F0 w w2 := mv
 clear s5
 refine so ?_
 refine Lp [0, 1, 5, 6, 7] (fun L' w' mes => ∃ (j : Nat) (A6 : Option Addr) (c6 : Nat) (rows : List (List Value)), L' = [(0, .pointer (some pk)), (1, iv i), (5, pt g5 0), (6, .slice A6 (opsS l i o j).length c6), (7, iv (j : Int))] ∧ j ≤ i ∧ HP w (fun _ => False) F0 w' (itR 139 4 A6 (opsS l i o j).length c6 rows.flatten :: itB g5 42 (wsC o I0 i0' I1 i1) :: []) ∧ RF opR F0 w' rows (opsS l i o j) ∧ Frz F0 F0 w w' ∧ mes = i - j) (i - 0) ⟨0, none, 0, [], rfl, Nat.zero_le _, hp, RF.nil _ _ _, f2, rfl⟩ ?_
 clear hp
 rintro _ wr _ ⟨j, A6, c6, rows, rfl, hj, hp, hR, hF, rfl⟩ KL hKL
 refine so ?_
 refine Cd ?_ ?_ <;> intro hc
 ·have hj9 : j < l.length := by omega
  have hstep := opsS_step l i o j
  have hlen := opsS_len l i o j
  obtain ⟨ae, A0, c0, A1, c1, A2, c2, A3, c3, hAe, hate, hIe, x0, x1, _, _⟩ := evtR_el hlF j hj9
  clear hAA
  have hAA : Ak = some ae := hAe
  have hopS : opS l i j = match endS l (l.getD j evt0).a (j + 1) (i - j) with
   | some n => if (l.getD n evt0).ans.err = 0 then ⟨decide ((l.getD j evt0).wish.kind = 2), if (l.getD j evt0).wish.kind = 2 then (l.getD j evt0).wish.data else (l.getD n evt0).ans.data, (j : Int) + 1, (n : Int) + 1⟩ else ⟨decide ((l.getD j evt0).wish.kind = 2), (l.getD j evt0).wish.data, (j : Int) + 1, 0⟩
   | none => ⟨decide ((l.getD j evt0).wish.kind = 2), (l.getD j evt0).wish.data, (j : Int) + 1, 0⟩ := rfl
  have hend := end_ok (pk := pk) (k := ⟨p, l⟩) (i := j) (m := i) (w := w) hat hk0 (by omega) hi
  clear hend
  generalize hxe : l.getD j evt0 = x at hstep hate hIe x0 x1 hopS
  generalize hcur : opsS l i o j = s at *
  have s8 : AtF F0 w ((ae.add (j * 53)).add 39) (wsC x.wish A0 c0 A1 c1) := hate.sub 39 10
  refine so ?_
  refine Alo hp (h := fun g8 w3 hp E3 => so ?_)
  refine Hs 0 hp (h := fun w4 hp C4 => ?_)
  replace hp := hp.as_ (H' := itB g8 42 (wsC x.wish A0 c0 A1 c1) :: itR 139 4 A6 s.length c6 rows.flatten :: itB g5 42 (wsC o I0 i0' I1 i1) :: []) rfl
  have f4 : Frz F0 F0 wr w4 := mv
  have hxw : wishR.rd F0 w4 (wsC x.wish A0 c0 A1 c1) x.wish := ⟨hIe.wish, A0, c0, A1, c1, rfl, x0.to (Frz.bF f4 hF), x1.to (Frz.bF f4 hF)⟩
  have how : wishR.rd F0 w4 (wsC o I0 i0' I1 i1) o := ⟨hIo, I0, i0', I1, i1, rfl, z0.to (Frz.bF f4 hF), z1.to (Frz.bF f4 hF)⟩
  have nxt : ∀ w', HP w (fun _ => False) F0 w' (itB g8 42 (wsC x.wish A0 c0 A1 c1) :: itR 139 4 A6 s.length c6 rows.flatten :: itB g5 42 (wsC o I0 i0' I1 i1) :: []) → Frz F0 F0 wr w' → ¬ (x.kind = 1 ∧ oursW x.wish o) → WK 99 KL [(0, .pointer (some pk)), (1, iv i), (5, pt g5 0), (6, .slice A6 s.length c6), (7, iv ((j : Int) + 1))] w' := fun w' hp hz hn => by
   refine Kl [0, 1, 5, 6, 7] hKL (i - (j + 1)) ⟨j + 1, A6, c6, rows, ?_⟩ (by omega)
   rw [hstep, if_neg hn, List.append_nil]
   exact ⟨rfl, by omega, hp.tail, hR.to hz, Frz.bF hz hF, rfl⟩
  refine so ?_
  refine Gs 41 ?_ ?_ <;> intro k1 <;> refine so ?_
  ·refine aT (so ?_)
   exact wk_drop _ (pk_sub (is := [0, 1, 5, 6, 7]) rfl) (nxt _ hp f4 (fun h => k1 h.1))
  refine Cx hp (rours_ok hxw how) (h := fun w5 hp E5 => so ?_)
  refine Cd ?_ ?_ <;> intro k2 <;> refine so ?_
  ·exact wk_drop _ (pk_sub (is := [0, 1, 5, 6, 7]) rfl) (nxt _ hp (Frz.bE E5 f4) (fun h => k2 h.2))
  have kk : x.kind = 1 ∧ oursW x.wish o := ⟨Decidable.not_not.1 k1, Decidable.not_not.1 k2⟩
  rw [if_pos kk] at hstep
  refine wl_builtS (ps := [(0, .tmp 49), (1, .tmp 51), (2, .tmp 53)]) (by decide) bld139 rfl rfl (so ?_)
  refine Alo hp (h := fun g9 w6 hp E6 => so ?_)
  refine Hs 0 hp (h := fun w7 hp C7 => ?_)
  replace hp := hp.as_ (H' := itB g9 139 [.bool (decide (x.wish.kind = 2)), .slice A0 x.wish.data.length c0, iv ((j : Int) + 1), iv 0] :: itB g8 42 (wsC x.wish A0 c0 A1 c1) :: itR 139 4 A6 s.length c6 rows.flatten :: itB g5 42 (wsC o I0 i0' I1 i1) :: []) rfl
  have f7 : Frz F0 F0 w4 w7 := mv
  have f7r : Frz F0 F0 wr w7 := Frz.bF f7 f4
  have f7w : Frz F0 F0 w w7 := Frz.bF f7r hF
  refine so ?_
  refine Ce (end_ok (k := ⟨p, l⟩) (i := j) (m := i) (hat.to f7w) (rdTo hk0 f7w) (by omega) hi) ?_
  rintro _ w8 ⟨rfl, E8⟩
  replace hp := hp.ext E8
  have f8 : Frz F0 F0 w w8 := Frz.bE E8 f7w
  dsimp only
  rw [hxe]
  refine sl ?_
  refine wc_seq_cut (fun L' w' => ∃ cs : List Value, L' = [(0, .pointer (some pk)), (1, iv i), (5, pt g5 0), (6, .slice A6 s.length c6), (7, iv (j : Int)), (9, pt g9 0)] ∧ HP w (fun _ => False) F0 w' (itB g9 139 cs :: itB g8 42 (wsC x.wish A0 c0 A1 c1) :: itR 139 4 A6 s.length c6 rows.flatten :: itB g5 42 (wsC o I0 i0' I1 i1) :: []) ∧ opR.rd F0 w' cs (opS l i j) ∧ Frz F0 F0 w8 w') ?_ ?_
  ·intro K hK
   cases hen : endS l x.a (j + 1) (i - j) with
   | none =>
    rw [hen] at hopS
    dsimp only at hopS ⊢
    refine so ?_
    refine aF (so ?_)
    exact Kd [0, 1, 5, 6, 7, 9] hK ⟨_, rfl, hp, by rw [hopS]; exact ⟨A0, c0, rfl, x0.to f8⟩, Frz.start _ _⟩
   | some n =>
    rw [hen] at hopS
    dsimp only at hopS ⊢
    have hnb := endS_b l x.a _ _ _ hen
    obtain ⟨an, N0, n0, N1, n1, N2, n2, N3, n3, hAn, hatn, hIn, _, _, v2, _⟩ := evtR_el hlF n (by omega)
    rw [hAe] at hAn
    cases hAn
    generalize hye : l.getD n evt0 = y at hatn hIn v2 hopS
    have s9n : AtF F0 w ((ae.add (n * 53)).add 49) (anC y.ans N2 n2 N3 n3) := hatn.sub 49 4
    have s10n : AtF F0 w (((ae.add (n * 53)).add 49).add 1) [.slice N2 y.ans.data.length n2] := s9n.sub 1 1
    clear hatn
    refine so ?_
    refine Cd ?_ ?_ <;> intro k5 <;> refine so ?_
    ·rw [if_pos k5] at hopS
     refine H1 0 hp (h := fun wa hp Ca => so ?_)
     have fa : Frz F0 F0 w8 wa := mv
     refine Cd ?_ ?_ <;> intro k6 <;> refine so ?_
     ·refine H1 0 hp (h := fun wb hp Cb => so ?_)
      have fb : Frz F0 F0 wa wb := mv
      rw [if_neg k6] at hopS
      exact Kd [0, 1, 5, 6, 7, 9] hK ⟨_, rfl, hp, by rw [hopS]; exact ⟨N2, n2, rfl, v2.to (Frz.bF (Frz.bF fb fa) f8)⟩, Frz.bF fb fa⟩
     ·rw [if_pos (Decidable.not_not.1 k6)] at hopS
      exact Kd [0, 1, 5, 6, 7, 9] hK ⟨_, rfl, hp, by rw [hopS]; exact ⟨A0, c0, rfl, x0.to (Frz.bF fa f8)⟩, fa⟩
    ·rw [if_neg k5] at hopS
     exact Kd [0, 1, 5, 6, 7, 9] hK ⟨_, rfl, hp, by rw [hopS]; exact ⟨A0, c0, rfl, x0.to f8⟩, Frz.start _ _⟩
  clear hp
  rintro _ w9 ⟨cs9, rfl, hp, hr9, f9⟩
  obtain ⟨B9, b9, rfl, hB9⟩ := hr9
  refine so ?_
  refine wl_oneOf (by decide) sl129 rfl rfl rfl leB_ ?_
  rintro _ wc hOn Ec
  obtain ⟨gv, rfl, hat8⟩ := hOn
  replace hp := hp.ext Ec
  refine wl_happend (i := 2) (m := 1) (size := 4) (news := [.bool (opS l i j).wr, .slice B9 (opS l i j).val.length b9, iv (opS l i j).b, iv (opS l i j).e]) (by decide) sl129 rfl rfl hp rfl rfl (fun b hb => by cases hb; exact hat8) (by simp) (List.all_eq_true.1 rfl) (by omega) ?_
  rintro A10 c10 wd hp Cd_
  replace hp := hp.as_ (H' := itB g9 139 [.bool (opS l i j).wr, .slice B9 (opS l i j).val.length b9, iv (opS l i j).b, iv (opS l i j).e] :: itB g8 42 (wsC x.wish A0 c0 A1 c1) :: itR 139 4 A10 (s.length + 1) c10 (rows.flatten ++ [.bool (opS l i j).wr, .slice B9 (opS l i j).val.length b9, iv (opS l i j).b, iv (opS l i j).e]) :: itB g5 42 (wsC o I0 i0' I1 i1) :: []) rfl
  have fd : Frz F0 F0 w9 wd := mv
  have fdr : Frz F0 F0 wr wd := Frz.bF fd (Frz.bF f9 (Frz.bE E8 f7r))
  refine so ?_
  refine wk_re (k := 6) (v := .slice A10 (s ++ [opS l i j]).length c10) rfl (by rw [List.length_append]; rfl) ?_
  refine Kl [0, 1, 5, 6, 7] hKL (i - (j + 1)) ⟨j + 1, A10, c10, rows ++ [[.bool (opS l i j).wr, .slice B9 (opS l i j).val.length b9, iv (opS l i j).b, iv (opS l i j).e]], ?_⟩ (by omega)
  rw [hstep]
  refine ⟨rfl, by omega, ?_, (hR.to fdr).append (RF.one (r := opR) ⟨B9, b9, rfl, hB9.to fd⟩), Frz.bF fdr hF, rfl⟩
  rw [flat_snoc, List.length_append]
  exact hp.tail.tail
 ·have hji : j = i := by omega
  subst hji
  have hlen := opsS_len l j o j
  have hln2 := (forgS_len p o (l.take j)).2
  rw [List.length_take] at hln2
  refine so ?_
  have how : wishR.rd F0 wr (wsC o I0 i0' I1 i1) o := ⟨hIo, I0, i0', I1, i1, rfl, z0.to hF, z1.to hF⟩
  refine Ce (forged_ok (hat.to hF) (rdTo hk0 hF) how hi hl) ?_
  rintro _ w3 ⟨A3, c3, rfl, hO, E3⟩
  obtain ⟨F2, rows2, hp, hR2, s2, n2⟩ := hp.outIn E3 hO
  have f3 : Frz F0 F2 wr w3 := ⟨E3.weak (fun _ _ x => x.elim), s2⟩
  have hR3 := hR.to f3
  dsimp only at hp hR2 hln2 ⊢
  refine wl_happend (i := 1) (m := (forgS p o (l.take j)).2.length) (size := 4) (news := rows2.flatten) (by decide) sl129 rfl rfl hp rfl (by rw [hR2.flen]; rfl) (fun b hb => (hp.rowAt (i := 0) rfl).at_ hb) (fun hb => ?_) ?_ (by omega) ?_
  ·by_cases h0 : 0 < (forgS p o (l.take j)).2.length
   ·obtain ⟨g, hg⟩ := row_addr (hp.rowAt (i := 0) rfl) h0
    rw [hb] at hg; cases hg
   ·omega
  ·exact RF.oneC hR2
  rintro A9 c9 w5 hp C5
  refine so ?_
  have f5 : Frz F2 F2 w3 w5 := mv
  have hrow := hp.rowAt (i := 1) rfl
  refine Pt ⟨_, rfl, A9, c9, by rw [List.length_append], ?_, hp.chg⟩
  refine OwnRow.gsRF (rows := rows ++ rows2) (by rw [List.flatten_append, List.length_append]; exact hrow) ?_ (fun _ _ _ => trivial)
  exact ((hR3.to f5).append (hR2.to f5)).wid (fun _ _ => trivial)
set_option maxHeartbeats 8000000 in
theorem seals_ok {w0 w : World} {M0 Fz : Nat → Prop} {H : List It} {q : JMem} {p : Pln} {ln : Nat} {here : Int} {v : JVal} {cs : List Value} {e : Evt} (hj : JW w0 M0 Fz w H q p ln here v) (he : evtR.rd Fz w cs e) (hb : (v.sld e.group e.epoch).length ≤ 32768) : Ret prog 34 #[pt q.g 0, .agg cs.toArray] w (JA w0 M0 Fz w H q p ln here (V6 v e) 6 (u6 v e)) := by
 obtain ⟨f1, f2, f3, f4, f5, f6, f7, r4, r5, hp, hr⟩ := hj
 have hef := he
 obtain ⟨hI, A0, c0, A1, c1, A2, c2, A3, c3, rfl, h0, h1, h2, h3⟩ := he
 obtain ⟨lk, hlk⟩ := kofE (g := e.group) (ep := e.epoch) hI.2.2.2.2.1 hI.2.2.2.2.2.1
 have hIm : MrkI ⟨e.seq, e.dig⟩ := hI.2.2.2.2.2.2.1
 dsimp only [jH, lookC] at hp
 refine ret_of_wk func34 rfl ntmps34 leB_ ?_
 refine so ?_
 refine Bx hp (h := fun g3 w1 hp E1 => so ?_)
 refine Cx hp (jnumb_ok (rdTo hef (F := Fz) (w' := w1))) (h := fun w2 hp E2 => so ?_)
 refine Cd ?_ ?_ <;> intro kn <;> refine so ?_
 ·refine Pt ⟨_, rfl, Fz, mv, .inr ⟨fun h => kn h.1, rfl, ?_⟩⟩
  rw [u6, if_neg (fun h => kn (.inr (.inr h)))]
  exact ⟨_, _, _, _, _, _, _, _, _, hp.tail, hr.to mv⟩
 replace kn : numbE e := Decidable.not_not.1 kn
 refine wl_builtS (ps := [(0, .tmp 12), (1, .tmp 14)]) (by decide) bld98 rfl rfl ?_
 refine so ?_
 refine Alo hp (h := fun g5 w3 hp E3 => so ?_)
 refine Hs 0 hp (h := fun w4 hp C4 => so ?_)
 replace hp := hp.as_ (H' := itB g5 98 (markC ⟨e.seq, e.dig⟩) :: itB g3 46 ([.int .i64 e.time, .int .i64 e.kind, .int .i64 e.a, .int .i64 e.b, .int .i64 e.group, .int .i64 e.epoch, .int .i64 e.seq] ++ (digC e.dig ++ ([.int .i64 e.wish.client, .int .i64 e.wish.stamp, .int .i64 e.wish.group, .int .i64 e.wish.epoch, .int .i64 e.wish.kind, .int .i64 e.wish.block, .slice A0 e.wish.data.length c0, .int .i64 e.wish.old, .int .i64 e.wish.new, .slice A1 e.wish.next.length c1, .int .i64 e.ans.err, .slice A2 e.ans.data.length c2, .int .i64 e.ans.epoch, .slice A3 e.ans.nodes.length c3]))) :: itB q.g 64 (lookC p q ln here v.time) :: itMR prog 3 0 0 q.m1 f1 nR :: itMR prog 89 0 0 q.m2 f2 nR :: itMR prog 89 0 0 q.m3 f3 nR :: itMR prog 91 96 14 q.m4 f4 r4 :: itMR prog 87 98 33 q.m5 f5 r5 :: itMR prog 3 0 0 q.m6 f6 nR :: itMR prog 3 0 0 q.m7 f7 nR :: H) rfl
 dsimp only [markC, lookC] at hp
 obtain ⟨AQ, dQ, hvQ, hgQ⟩ := sealAt hp (i := 7) rfl hr.s e.group e.epoch
 refine wdP 9 hp (fun wD hp hED => by refine pm ?_; exact PLe (era_ok (rdTo hef (F := Fz) (w' := wD))) (h := by refine pm ?_; exact .op rfl (lkV (e := 99) (z := .slice none 0 0) hvQ (keyed_of kb87) hlk (hp.mapR (i := 7) rfl) (wl_nil qp)) pl)) fun w5 hp E5 => so ?_
 refine Lp [0, 3, 5, 22, 23, 24] (fun L' w' mes => ∃ k : Nat, L' = [(0, pt q.g 0), (3, pt g3 0), (5, pt g5 0), (22, .slice AQ (v.sld e.group e.epoch).length dQ), (23, iv ((v.sld e.group e.epoch).length : Int)), (24, iv (k : Int))] ∧ k ≤ (v.sld e.group e.epoch).length ∧ HP w0 M0 Fz w' (itB g5 98 ([iv e.seq] ++ digC e.dig) :: itB g3 46 ([.int .i64 e.time, .int .i64 e.kind, .int .i64 e.a, .int .i64 e.b, .int .i64 e.group, .int .i64 e.epoch, .int .i64 e.seq] ++ (digC e.dig ++ ([.int .i64 e.wish.client, .int .i64 e.wish.stamp, .int .i64 e.wish.group, .int .i64 e.wish.epoch, .int .i64 e.wish.kind, .int .i64 e.wish.block, .slice A0 e.wish.data.length c0, .int .i64 e.wish.old, .int .i64 e.wish.new, .slice A1 e.wish.next.length c1, .int .i64 e.ans.err, .slice A2 e.ans.data.length c2, .int .i64 e.ans.epoch, .slice A3 e.ans.nodes.length c3]))) :: itB q.g 64 (lookC p q ln here v.time) :: itMR prog 3 0 0 q.m1 f1 nR :: itMR prog 89 0 0 q.m2 f2 nR :: itMR prog 89 0 0 q.m3 f3 nR :: itMR prog 91 96 14 q.m4 f4 r4 :: itMR prog 87 98 33 q.m5 f5 r5 :: itMR prog 3 0 0 q.m6 f6 nR :: itMR prog 3 0 0 q.m7 f7 nR :: H) ∧ Frz Fz Fz w5 w' ∧ (∀ j, j < k → p6 e ((v.sld e.group e.epoch).getD j mark0) = false) ∧ mes = (v.sld e.group e.epoch).length - k) ((v.sld e.group e.epoch).length - 0) ⟨0, rfl, Nat.zero_le _, hp, mv, fun j hj => absurd hj (Nat.not_lt_zero _), rfl⟩ ?_
 have f5w : Frz Fz Fz w w5 := mv
 clear hp
 rintro _ wr _ ⟨k, rfl, hk, hp, hEr, hno, rfl⟩ KL hKL
 obtain ⟨A', c', hv', hg'⟩ := sealAt hp (i := 7) rfl hr.s e.group e.epoch
 rw [hvQ] at hv'
 cases hv'
 have frr : Frz Fz Fz w wr := Frz.bF hEr f5w
 refine so ?_
 refine Cd ?_ ?_ <;> intro hc
 ·have hk9 : k < (v.sld e.group e.epoch).length := by omega
  obtain ⟨aj, hAj, hat, hIj⟩ := markR_el hg' k hk9
  generalize hxj : (v.sld e.group e.epoch).getD k mark0 = x at hat hIj
  refine so ?_
  refine Alo hp (h := fun g7 w7 hp E7 => so ?_)
  refine Hs 0 hp (h := fun w8 hp C8 => so ?_)
  have hps : p6 e x = decide (e.kind = 6 ∧ x ≠ ⟨e.seq, e.dig⟩ ∨ e.kind ≠ 6 ∧ x.seq < e.seq) := rfl
  have hany : p6 e x = true → (v.sld e.group e.epoch).any (p6 e) = true := fun h => by
   rw [List.any_eq_true]
   refine ⟨x, ?_, h⟩
   rw [← hxj, List.getD_eq_getElem?_getD, List.getElem?_eq_getElem hk9]
   exact List.getElem_mem hk9
  have hnx : p6 e x = false → ∀ j, j < k + 1 → p6 e ((v.sld e.group e.epoch).getD j mark0) = false := fun h j hj => by
   by_cases hjk : j < k
   ·exact hno j hjk
   ·obtain rfl : j = k := by omega
    rw [hxj]; exact h
  refine Gs 31 ?_ ?_ <;> intro k6 <;> refine so ?_
  ·refine wl_neqK (m := 6) (x = ⟨e.seq, e.dig⟩) (by decide) key98 eg98 rfl rfl hIj.fit hIm.fit mark_inj ?_
   refine so ?_
   refine Gs 36 ?_ ?_ <;> intro hq <;> refine so ?_
   ·refine aT (so ?_)
    exact Pt ⟨_, rfl, Fz, mv, .inl ⟨⟨kn, hany (by rw [hps]; exact decide_eq_true (.inl ⟨k6, hq⟩))⟩, rfl, _, hp⟩⟩
   ·refine Gs 40 ?_ ?_ <;> intro k7 <;> refine so ?_
    ·exact absurd k6 k7
    ·refine aF (so ?_)
     exact Kl [0, 3, 5, 22, 23, 24] hKL ((v.sld e.group e.epoch).length - (k + 1)) ⟨k + 1, rfl, by omega, hp.tail, Frz.bF (v := wr) mv hEr, hnx (by rw [hps]; exact decide_eq_false (by rintro (h | h); exact hq h.2; exact h.1 k6)), rfl⟩ (by omega)
  ·refine Gs 40 ?_ ?_ <;> intro k7 <;> refine so ?_
   ·refine Cd ?_ ?_ <;> intro hq <;> refine so ?_
    ·exact Pt ⟨_, rfl, Fz, mv, .inl ⟨⟨kn, hany (by rw [hps]; exact decide_eq_true (.inr ⟨k6, hq⟩))⟩, rfl, _, hp⟩⟩
    ·exact Kl [0, 3, 5, 22, 23, 24] hKL ((v.sld e.group e.epoch).length - (k + 1)) ⟨k + 1, rfl, by omega, hp.tail, Frz.bF (v := wr) mv hEr, hnx (by rw [hps]; exact decide_eq_false (by rintro (h | h); exact k6 h.1; exact hq h.2)), rfl⟩ (by omega)
   ·exact absurd k6 k7
 ·have hno2 : (v.sld e.group e.epoch).any (p6 e) = false := by
   rw [List.any_eq_false]
   intro x hx
   obtain ⟨j, hj, rfl⟩ := List.mem_iff_getElem.1 hx
   have := hno j (by omega)
   rw [List.getD_eq_getElem?_getD, List.getElem?_eq_getElem hj] at this
   simpa using this
  refine so ?_
  refine Cd ?_ ?_ <;> intro k6 <;> refine so ?_
  ·have hz : ∃ A c, (f5 (eraV e.group e.epoch)).getD (.slice none 0 0) = .slice A (v.sld e.group e.epoch).length c ∧ (∀ m ∈ v.sld e.group e.epoch, MrkI m) ∧ HP w0 M0 Fz wr (itR 98 33 A (v.sld e.group e.epoch).length c ((v.sld e.group e.epoch).map markC).flatten :: itMR prog 87 98 33 q.m5 f5 (updG r5 (eraV e.group e.epoch) none) :: itB g5 98 (markC ⟨e.seq, e.dig⟩) :: itB g3 46 (evC e A0 c0 A1 c1 A2 c2 A3 c3) :: itB q.g 64 (lookC p q ln here v.time) :: itMR prog 3 0 0 q.m1 f1 nR :: itMR prog 89 0 0 q.m2 f2 nR :: itMR prog 89 0 0 q.m3 f3 nR :: itMR prog 91 96 14 q.m4 f4 r4 :: itMR prog 3 0 0 q.m6 f6 nR :: itMR prog 3 0 0 q.m7 f7 nR :: H) := by
    replace hp := (hp.up 7 rfl).as_ (H' := itMR prog 87 98 33 q.m5 f5 r5 :: itB g5 98 (markC ⟨e.seq, e.dig⟩) :: itB g3 46 (evC e A0 c0 A1 c1 A2 c2 A3 c3) :: itB q.g 64 (lookC p q ln here v.time) :: itMR prog 3 0 0 q.m1 f1 nR :: itMR prog 89 0 0 q.m2 f2 nR :: itMR prog 89 0 0 q.m3 f3 nR :: itMR prog 91 96 14 q.m4 f4 r4 :: itMR prog 3 0 0 q.m6 f6 nR :: itMR prog 3 0 0 q.m7 f7 nR :: H) rfl
    rcases hr.s e.group e.epoch with ⟨a1, a2, a3⟩ | ⟨A, c, a1, a2, a3⟩
    ·refine ⟨none, 0, by rw [a1, a2]; rfl, by rw [a1]; simp, ?_⟩
     rw [updG_none a3, a1]
     exact hp.noRow 98 33
    ·obtain ⟨A', n', c', b1, hp⟩ := hp.lend a2
     rw [a1] at b1
     cases b1
     exact ⟨A, c, by rw [a1]; rfl, a3, hp⟩
   clear hp
   obtain ⟨A, c, hcur, hml, hp⟩ := hz
   obtain ⟨KM, ⟨hRo, hRk⟩, hKF, hKlt, hpo, hup⟩ := hp.apart (i := 0) rfl
   have hoff := hp.rowOff (i := 0) (j := 1) rfl rfl (by decide)
   apply wc_drawTM 16 15 KM [.eq (pt q.g 0), .eq (pt q.g 0), .eq (pt q.g 12), .eq (.map (some q.m5)), .eq (.agg (evC e A0 c0 A1 c1 A2 c2 A3 c3).toArray), .eq (eraV e.group e.epoch), .eq (pt q.g 0), .eq (pt q.g 0), .eq (pt q.g 12), .eq (.map (some q.m5)), .eq (.agg (evC e A0 c0 A1 c1 A2 c2 A3 c3).toArray), .eq (eraV e.group e.epoch), .eq (.slice A (v.sld e.group e.epoch).length c), .eq (.agg (markC ⟨e.seq, e.dig⟩).toArray), SP.tmpR wr.heap.size 98 33 1 (markC ⟨e.seq, e.dig⟩), SP.turn KM wr.heap.size 98 33 ((v.sld e.group e.epoch).length + 1) (((v.sld e.group e.epoch).map markC).flatten ++ markC ⟨e.seq, e.dig⟩)] (by kernel_rfl) (by kernel_rfl)
   ·exact ⟨.inr (fun _ _ _ _ h => h), .inr (fun _ _ _ _ h => h), .inr (fun _ _ _ _ h => h), .inr (fun _ _ _ _ h => h), .inr (fun _ _ _ _ h => h), .inr (fun _ _ _ _ h => h), .inr (fun _ _ _ _ h => h), .inr (fun _ _ _ _ h => h), .inr (fun _ _ _ _ h => h), .inr (fun _ _ _ _ h => h), .inr (fun _ _ _ _ h => h), .inr (fun _ _ _ _ h => h), .inr (fun _ _ _ _ h => h), .inr (fun _ _ _ _ h => h), .inr (SP.tmpR_st hKlt), .inl rfl, trivial⟩
   ·refine ⟨?_, ?_, ?_, ?_, ?_, ?_, ?_, ?_, ?_, ?_, ?_, ?_, ?_, ?_, ?_, ?_, trivial⟩ <;> intro F' wF hER hEE hk
    ·exact dm (hk.qi 0)
    ·exact wl_nilCheck (by decide) (hk.qe 0) qz
    ·exact Fd_ 12 fld64_8 (hk.qe 1) rfl qz
    ·exact Hl_ 3 sc60 (hk.qe 2) (hpo _ hER) rfl rfl qz
    ·exact wl_hloadX _ (i := 2) (by decide) ag46 (hk.qi 3) (hpo _ hER) rfl rfl rfl qz
    ·have ea := hk.qe 4
     refine Cl_ (xs := [.tmp 56]) (by kernel_rfl) (by simp only [evs, ev, ea]) (era_ok (rdTo hef (Frz.bF ⟨hER.weak (fun b _ h => hKF b h), fun b h => h⟩ frr))) ?_
     rintro _ wc ⟨rfl, hEc⟩
     exact qz ⟨hEc, rfl⟩
    ·exact dm (hk.qi 0)
    ·exact wl_nilCheck (by decide) (hk.qe 6) qz
    ·exact Fd_ 12 fld64_8 (hk.qe 7) rfl qz
    ·exact Hl_ 3 sc60 (hk.qe 8) (hpo _ hER) rfl rfl qz
    ·exact wl_hloadX _ (i := 2) (by decide) ag46 (hk.qi 3) (hpo _ hER) rfl rfl rfl qz
    ·have ea := hk.qe 10
     refine Cl_ (xs := [.tmp 62]) (by kernel_rfl) (by simp only [evs, ev, ea]) (era_ok (rdTo hef (Frz.bF ⟨hER.weak (fun b _ h => hKF b h), fun b h => h⟩ frr))) ?_
     rintro _ wc ⟨rfl, hEc⟩
     exact qz ⟨hEc, rfl⟩
    ·exact lkV (e := 99) (z := .slice none 0 0) hcur (keyed_of kb87) hlk ((hpo _ hER).mapR (i := 0) rfl) qz (hx := hk.qe 9) (hi := hk.qe 11)
    ·exact wl_hloadX _ (i := 1) (by decide) ag98 (hk.qi 5) (hpo _ hER) rfl rfl rfl qz
    ·have ea := hk.qe 13
     refine wl_bslice (size := 33) (xs := [.tmp 65]) (vs := [.agg (markC ⟨e.seq, e.dig⟩).toArray]) (by decide) sl99 rfl (by simp only [evs, ev, ea]; first | done | rfl) rfl (by intro v hv; rw [List.mem_singleton.1 hv]; rfl) leB_ 0 (Nat.zero_le _) ?_
     rintro gt wt hgt hot hEt
     exact qz ⟨hEt, gt, rfl, by rw [hgt]; exact hER.size, hot⟩
    ·have hEx := hEE rfl
     have e64 := hk.qe 12
     obtain ⟨u66, e66, h66⟩ := hk.qp 14
     obtain ⟨gt, rfl, hgt0, hot⟩ := h66
     refine wl_append (size := 33) (m := 1) (news := markC ⟨e.seq, e.dig⟩) (by decide) sl99 e64 e66 (hRo.ext hEx) rfl (fun b hb => by cases hb; exact hot.at0) (by simp) (List.all_eq_true.1 rfl) (by omega) (Nat.zero_le _) ?_
     rintro A4 c4 w4' ho4 hch4 h44
     exact qz ⟨hch4.weak (fun b _ x => (hRk b).2 ⟨x.1, x.2.2⟩), A4, c4, rfl, ho4, fun b hb => (by
      rcases h44 with ⟨rfl, rfl⟩ | rfl
      ·exact .inl ((hRk b).2 hb)
      ·obtain ⟨_, a, ha, rfl⟩ := hb
       cases ha
       exact .inr hEx.size)⟩
   intro F' wD hED hini hdo
   obtain ⟨u67, e67, h67⟩ := hdo 15 67 (Nat.lt_of_lt_of_eq (by decide) rfl) rfl
   obtain ⟨A4, c4, rfl, ho4, hK4⟩ := h67
   refine wl_drop [(0, _), (3, _), (5, _), (55, _), (57, _), (67, _)] ⟨di hini 0, di hini 3, di hini 5, dr hdo 3, dr hdo 5, e67, trivial⟩ ?_
   clear hini hdo e67
   replace hp := hup _ (itR 98 33 A4 ((v.sld e.group e.epoch).length + 1) c4 (((v.sld e.group e.epoch).map markC).flatten ++ markC ⟨e.seq, e.dig⟩)) (fun b => c4 ≠ 0 ∧ blk A4 b) hED ⟨ho4, fun _ => Iff.rfl⟩ hK4
   have hfD : Frz Fz Fz w wD := Frz.bF ⟨hED.weak (fun b _ h => hKF b h), fun b h => h⟩ frr
   refine wl_rmapUpdate (i := 1) (keyed_of kb87) (e := 99) (by kernel_rfl) rfl rfl rfl hlk hp rfl (updG_same _ _ _) (fun w9 hp C9 => so ?_)
   have hg := HP.give (key := eraV e.group e.epoch) hp (updF_same _ _ _) (updG_same _ _ _)
   rw [updG_updG] at hg
   have f9 : Frz Fz Fz w w9 := Frz.bF ⟨C9, fun b h => h⟩ hfD
   have hr9 := hr.to (F := Fz) (w' := w9) f9
   refine Pt ⟨_, rfl, Fz, f9, .inr ⟨fun h => (by unfold V6 at h; rw [hno2] at h; cases h.2), rfl, ?_⟩⟩
   rw [u6, if_pos k6]
   replace hg := (hg.up 1 rfl).tail
   replace hg := (hg.up 1 rfl).tail
   refine ⟨_, _, _, _, _, _, _, _, _, HP.comm [itMR prog 87 98 33 q.m5 _ _] [itB q.g 64 (lookC p q ln here v.time), itMR prog 3 0 0 q.m1 f1 nR, itMR prog 89 0 0 q.m2 f2 nR, itMR prog 89 0 0 q.m3 f3 nR, itMR prog 91 96 14 q.m4 f4 r4] _ hg, hr9.d, hr9.b, hr9.m, hr9.j, fun g ep => ?_, hr9.f, hr9.c⟩
   by_cases hk : g = e.group ∧ ep = e.epoch
   ·obtain ⟨rfl, rfl⟩ := hk
    refine .inr ⟨A4, c4, ?_, ?_, ?_⟩
    ·rw [updF_same]; simp [ups]
    ·rw [updG_same]; simp [ups]
    ·intro m hm
     simp only [ups, and_self, if_true, List.mem_append, List.mem_singleton] at hm
     rcases hm with hm | rfl
     ·exact hml m hm
     ·exact hIm
   ·have hne : eraV g ep ≠ eraV e.group e.epoch := fun x => hk (eraV_inj x)
    have := hr9.s g ep
    simp only [ups, if_neg hk]
    rw [updF_other _ hne, updG_other _ _ hne]
    exact this
  ·refine Pt ⟨_, rfl, Fz, mv, .inr ⟨fun h => (by unfold V6 at h; rw [hno2] at h; cases h.2), rfl, ?_⟩⟩
   rw [u6, if_neg k6]
   exact ⟨_, _, _, _, _, _, _, _, _, hp.tail.tail, hr.to mv⟩
end Go.Proofs.Ytgheaedligkhoaa
