/- What each of these functions computes, for every argument that its theorem names; a part of what the proof of NotePacks stands on. -/
import Derived.Test.YtkdoomglflikkaaGreatQac
import Derived.Test.YtkdoomglflikkaaGreatQad
import Derived.Test.YtkdoomglflikkaaGreatQae
namespace Go.Proofs.YtkdoomglflikkaaGreat
open Go.RowKit Go.Eng Go.Eng _root_.Go.Proofs.Tryz
set_option maxRecDepth 100000
variable {w0 w : World} {M0 Fz : Nat → Prop} {H : List It} {A : Option Addr} {c : Nat}
theorem WshI0 : WshI wish0 := by unfold WshI i64; decide
def markR : Rep Mrk where
 size := 33
 rd := fun S w cs x => MrkI x ∧ cs = [.int .i64 x.seq] ++ (digC x.dig)
 len := by rintro _ _ _ _ ⟨hI, rfl⟩; rfl
 one := by rintro _ _ _ _ ⟨hI, rfl⟩; exact List.all_eq_true.1 rfl
 keep := by rintro _ _ _ _ _ _ ch hm ⟨hI, rfl⟩; exact ⟨hI, rfl⟩
 mono := by rintro _ _ _ _ _ hs ⟨hI, rfl⟩; exact ⟨hI, rfl⟩
def ansR : Rep Ans where
 size := 4
 rd := fun S w cs x => AnsI x ∧ ∃ A0 c0 A1 c1, cs = [.int .i64 x.err, .slice A0 x.data.length c0, .int .i64 x.epoch, .slice A1 x.nodes.length c1] ∧ GS byteR S w A0 c0 x.data ∧ GS intR S w A1 c1 x.nodes
 len := by rintro _ _ _ _ ⟨hI, A0, c0, A1, c1, rfl, k0, k1⟩; rfl
 one := by rintro _ _ _ _ ⟨hI, A0, c0, A1, c1, rfl, k0, k1⟩; exact List.all_eq_true.1 rfl
 keep := by rintro _ _ _ _ _ _ ch hm ⟨hI, A0, c0, A1, c1, rfl, k0, k1⟩; exact ⟨hI, _, _, _, _, rfl, k0.keep ch hm, k1.keep ch hm⟩
 mono := by rintro _ _ _ _ _ hs ⟨hI, A0, c0, A1, c1, rfl, k0, k1⟩; exact ⟨hI, _, _, _, _, rfl, k0.mono hs, k1.mono hs⟩
theorem NteI.change {n : Nte} (h : NteI n) : ChnI n.change := by unfold NteI i64 at h; unfold ChnI i64; omega
end Go.Proofs.YtkdoomglflikkaaGreat
namespace Go.Proofs.YtkdoomglflikkaaGreat
open Go.ChangeShapes Go.WideShapes Go.ChangeAt Go.RowKit Go.Eng Go.Eng _root_.Go.Proofs.Tryz
set_option maxRecDepth 100000
variable {w0 w : World} {M0 Fz : Nat → Prop} {H : List It} {A : Option Addr} {c : Nat}
theorem reads_t23 : ReadsR Tryz.prog 23 digR (fun _ => True) := reads_digest (e := 5) Tryz.underlying23 Tryz.underlying5 Tryz.ce5 Tryz.ce23
theorem reads_t27 : ReadsR Tryz.prog 27 (sliceR intR) (fun l => l.length * 8 ≤ 140737488355328) := fun H enc w base sp held fuel cs x h hl hw => by
 obtain ⟨v, h1, h2⟩ := reads_slice (size := 1) (bytes := 8) Tryz.underlying27 rfl (by decide) Tryz.ce3 Tryz.by3 (by decide) (reads_int Tryz.underlying3) H enc w base sp held fuel cs x h hl hw
 exact ⟨v, h1, h2.2⟩
end Go.Proofs.YtkdoomglflikkaaGreat
namespace Go.Proofs.YtkdoomglflikkaaGreat
open Go.RowKit Go.Eng Go.Eng _root_.Go.Proofs.Tryz
set_option maxRecDepth 100000
variable {w0 w : World} {M0 Fz : Nat → Prop} {H : List It} {A : Option Addr} {c : Nat}
theorem num_ok {n : Int} (h1 : -9223372036854775808 ≤ n) (h2 : n ≤ 9223372036854775807) : Ret prog 180 #[.int .i64 n] w (fun v w' => ∃ A c, v = .tuple #[.slice A (numS n).1.length c, .int .i64 (numS n).2] ∧ OwnB 5 w.heap.size w' A c (numS n).1 ∧ Ext w w') := by
 refine ret_of_wk func180 rfl ntmps180 leB_ ?_
 refine so ?_
 refine Gs 9 ?_ ?_<;>intro hg<;>refine so ?_
 refine aT (so ?_)
 refine P2 results180 ?_
 exact ⟨_, rfl, none, 0, by rw [numS, if_pos (by omega)]; rfl, by rw [numS, if_pos (by omega)]; exact OwnRow.nil _ _ _ _ _, Chg.refl _ _⟩
 refine Cd ?_ ?_<;>intro hc
 refine so ?_
 refine P2 results180 ?_
 exact ⟨_, rfl, none, 0, by rw [numS, if_pos (by omega)]; rfl, by rw [numS, if_pos (by omega)]; exact OwnRow.nil _ _ _ _ _, Chg.refl _ _⟩
 obtain ⟨N, rfl⟩ : ∃ N : Nat, n = N := ⟨n.toNat, by omega⟩
 have hs : numS (N : Int) = (numL N, 0) := by rw [numS, if_neg (by omega)]; simp
 have hN : N ≤ 9007199254740991 := by omega
 have h7:=digs_len N hN
 refine so ?_
 refine Lp [0, 4] (fun L' w' mes => ∃ (m : Nat), L' = [(0, iv (N : Int)), (4, iv (m : Int))] ∧ (m ≤ (digs N).length) ∧ (w = w') ∧ (digs N).length - m = mes) ((digs N).length - 0) (by
     refine ⟨0, rfl, by omega, ?_, rfl⟩
     rfl) ?_
 rintro _ wr _ ⟨m, rfl, hm, hw, rfl⟩ KL1 hKL1
 subst hw
 refine so ?_
 refine wl_mul (by decide) rfl rfl (w64 (by omega) (by omega)) ?_
 refine wl_shr (by decide) rfl rfl (by omega) (shr256 N m _ rfl (by omega)) ?_
 refine so ?_
 refine Cd ?_ ?_<;>intro hlt
 have hml : m < (digs N).length := (digs_lt N m hN (by omega)).1 (by omega)
 refine so ?_
 refine Kl [0, 4] hKL1 ((digs N).length - (m + 1)) ⟨(m + 1), rfl, by omega, ?_, rfl⟩ (by omega)
 rfl
 have hme : (digs N).length = m := by
   have := mt (digs_lt N m hN (by omega)).2 (by omega)
   omega
 refine so ?_
 refine wl_conv (by decide) it3 it5 rfl (wrap_u8 _) ?_
 refine wl_bsliceB (xs := [.tmp 21]) (bs := [u8Of m]) (by decide) sl26 rfl rfl rfl (by simp) w.heap.size (Nat.le_refl _) ?_
 rintro g w1 hg1 ho1 hE1
 refine so ?_
 refine Lp [0, 4, 5, 23, 24] (fun L' w' mes => ∃ (i : Nat), ∃ (A : Option Addr), ∃ (c : Nat), L' = [(0, iv (N : Int)), (4, iv (m : Int)), (5, .slice A (UInt8.ofNat m :: (digs N).take i).length c), (23, iv (m : Int)), (24, iv (i : Int))] ∧ (i ≤ m) ∧ (OwnB 5 w.heap.size w' A c (UInt8.ofNat m :: (digs N).take i)) ∧ (Ext w w') ∧ m - i = mes) (m - 0) (by
     refine ⟨0, _, _, rfl, by omega, ?_, hE1, rfl⟩
     rw [u8Of_nat] at ho1; exact ho1) ?_
 rintro _ wr _ ⟨i, A, c, rfl, hi, ho, hE, rfl⟩ KL2 hKL2
 refine so ?_
 refine Cd ?_ ?_<;>intro hlt2<;>refine so ?_
 have hsucc:=digs_succ N i (by omega)
 rw [hme, ← u8Of_nat (N / _)] at hsucc
 refine so ?_
 refine wl_mul (by decide) rfl rfl (w64 (by omega) (by omega)) ?_
 refine wl_shr (by decide) rfl rfl (by omega) (shr256 N (m - 1 - i) _ (by omega) (by omega)) ?_
 refine wl_conv (by decide) it3 it5 rfl (wrap_u8 _) ?_
 refine wl_bsliceB (xs := [.tmp 35]) (bs := [u8Of ((N / 256 ^ (m - 1 - i) : Nat) : Int)]) (by decide) sl26 rfl rfl rfl (by simp) wr.heap.size (Nat.le_refl _) ?_
 rintro g2 w2 hg2 ho2 hE2
 refine wl_appendB (l2 := [u8Of ((N / 256 ^ (m - 1 - i) : Nat) : Int)]) (by decide) sl26 rfl rfl (ho.ext hE2) ho2.bs (by have := ho.mx; have := digs_len N hN; simp; omega) (Nat.le_trans hE.size hE2.size) ?_
 rintro A3 c3 w3 ho3 ch3 _
 refine sl ?_
 refine wc_region ?_
 refine sl ?_
 refine wk_drop [(0, iv (N : Int)), (4, iv (m : Int)), (5, .slice A3 (UInt8.ofNat m :: (digs N).take (i + 1)).length c3), (23, iv (m : Int)), (24, iv ((i + 1) : Int))] ⟨rfl, rfl, (by rw [hsucc]; rfl), rfl, rfl, trivial⟩ (hKL2 _ _ (m2 := m - (i + 1)) ?_ ?_)
 refine ⟨(i + 1), A3, c3, rfl, by omega, ?_, (hE.trans hE2).own ch3 (Nat.le_refl _), rfl⟩
 rw [hsucc]; exact ho3
 omega
 refine P2 results180 ?_
 have hfin : UInt8.ofNat m :: (digs N).take i = numL N := by rw [List.take_of_length_le (by omega), ← hme]; rfl
 rw [hfin] at ho ⊢
 exact ⟨_, rfl, A, c, by rw [hs], by rw [hs]; exact ho, hE⟩
theorem digits_ok {N : Nat} (hN : N ≤ 9007199254740991) : Ret prog 119 #[.int .i64 (N : Int)] w (fun v w' => ∃ A c, v = .slice A (digs N).length c ∧ OwnB 5 w.heap.size w' A c (digs N) ∧ Ext w w') := by
 refine ret_of_wk func119 rfl ntmps119 leB_ ?_
 refine go ?_
 refine wc_loop (fun L' w' mes => ∃ (m : Nat), ∃ (l : List UInt8), ∃ (A : Option Addr), ∃ (c : Nat), L' = [(0, iv (m : Int)), (3, .slice A l.length c)] ∧ (digs N = digF (8 - l.length) m ++ l) ∧ (m < 256 ^ (7 - l.length)) ∧ (l.length ≤ 7) ∧ (OwnB 5 w.heap.size w' A c l) ∧ (Ext w w') ∧ m = mes) [(0, iv (N : Int)), (3, .slice _ [].length _)] (N) (by
     refine ⟨N, [], _, _, rfl, ?_, ?_, ?_, ?_, ?_, rfl⟩
     · simp [digs]
     · simp only [List.length_nil]; omega
     · simp
     · exact OwnRow.nil _ _ _ _ _
     · exact Chg.refl _ _) ⟨rfl, rfl, trivial⟩ ?_
 rintro _ wr _ ⟨m, l, A, c, rfl, hd, hm, hll, ho, hE, rfl⟩ KL1 hKL1
 have hm0 : 0 < m → l.length < 7 := by
   intro h0
   rcases Nat.lt_or_ge l.length 7 with h | h
   · exact h
   · rw [show 7 - l.length = 0 by omega] at hm; simp at hm; omega
 refine go ?_
 refine Gt_ rfl rfl (go ?_)
 refine Cd (fun hlt => ?_) fun hlt => ?_
 have hl7:=hm0 (by omega)
 have hmlt : m < 256 ^ 7 := Nat.lt_of_lt_of_le hm (Nat.pow_le_pow_right (by omega) (by omega))
 refine go ?_
 refine wl_rem (by decide) rfl rfl (by omega) (Int.tmod_eq_emod_of_nonneg (by omega)) ?_
 refine wl_conv (by decide) it3 it5 rfl (wrap_u8 _) ?_
 have hbb : u8Of ((m : Int) % 256) = u8Of (m : Int) := by simp only [u8Of, Int.emod_emod_of_dvd _ (Int.dvd_refl _)]
 refine wl_re (k := 8) (v := bv (u8Of (m : Int))) rfl (by rw [hbb]) ?_
 refine wl_bsliceB (xs := [.tmp 8]) (bs := [u8Of (m : Int)]) (by decide) sl26 rfl rfl rfl (by simp) wr.heap.size (Nat.le_refl _) ?_
 rintro g2 w2 hg2 ho2 hE2
 refine go ?_
 refine wl_appendB (l := [u8Of (m : Int)]) (by decide) sl26 rfl rfl ho2 (ho.ext hE2).bs (by have := ho.mx; simp; omega) hE2.size ?_
 rintro A3 c3 w3 ho3 ch3 _
 have hE3:=(hE.trans hE2).own ch3 hE.size
 replace ho3:=ho3.lower hE.size
 refine go ?_
 have hq : (m : Int).tdiv 256 = ((m / 256 : Nat) : Int) := by rw [Int.tdiv_eq_ediv_of_nonneg (by omega)]; omega
 refine wl_quo (by decide) rfl rfl (by omega) (w64 (by omega) (by omega)) ?_
 refine gl ?_
 refine wk_drop [(0, iv ((m / 256) : Int)), (3, .slice A3 (u8Of (m : Int) :: l).length c3)] ⟨(by rw [hq]; rfl), rfl, trivial⟩ (hKL1 _ _ (m2 := (m / 256)) ?_ ?_)
 refine ⟨(m / 256), (u8Of (m : Int) :: l), A3, c3, rfl, ?_, ?_, ?_, ?_, ?_, rfl⟩
 rw [hd, show 8 - l.length = (7 - l.length) + 1 by omega, digF, if_neg (by omega), u8Of_nat]; simp [show 8 - (l.length + 1) = 7 - l.length by omega]
 rw [List.length_cons, show 7 - l.length = (7 - (l.length + 1)) + 1 by omega, Nat.pow_succ] at *; omega
 simp only [List.length_cons]; omega
 exact ho3
 exact hE3
 omega
 have h0 : m = 0 := by omega
 subst h0
 rw [digF_zero, List.nil_append] at hd
 refine go ?_
 refine P1 results119 ?_
 exact ⟨_, rfl, A, c, by rw [hd], by rw [hd]; exact ho, hE⟩
theorem join_ok {ls : List (List UInt8)} {Sa : Nat → Prop} (h : GS (sliceR byteR) Sa w A c ls) (hb : ls.flatten.length ≤ 140737488355328) : Ret prog 184 #[.slice A ls.length c] w (fun v w' => ∃ A' c', v = .slice A' ls.flatten.length c' ∧ OwnB 5 w.heap.size w' A' c' ls.flatten ∧ Ext w w') := by
 refine ret_of_wk func184 rfl ntmps184 leB_ ?_
 refine so ?_
 refine Lp [3, 6, 7, 8] (fun L' w' mes => ∃ (k : Nat), ∃ (A2 : Option Addr), ∃ (c2 : Nat), L' = [(3, .slice A2 (ls.take k).flatten.length c2), (6, .slice A ls.length c), (7, iv (ls.length : Int)), (8, iv (k : Int))] ∧ (k ≤ ls.length) ∧ (OwnB 5 w.heap.size w' A2 c2 (ls.take k).flatten) ∧ (Ext w w') ∧ ls.length - k = mes) (ls.length - 0) ⟨0, _, _, rfl, by omega, OwnRow.nil _ _ _ _ _, Chg.refl _ _, rfl⟩ ?_
 rintro _ wr _ ⟨k, A2, c2, rfl, hk, ho, hE, rfl⟩ KL1 hKL1
 have hmx:=h.mx
 refine so ?_
 refine Cd ?_ ?_<;>intro hlt
 refine so ?_
 refine wl_idx (r := sliceR byteR) (by decide) sl187 rfl rfl (h.ext hE) k rfl (by omega) ?_
 rintro a cs hb1 _ hat ⟨Ak, ck, rfl, hgk⟩
 refine Ld_ sc26 rfl hat.head (so ?_)
 have hsucc : (ls.take (k + 1)).flatten = (ls.take k).flatten ++ ls[k] := by rw [← List.take_append_getElem (by omega : k < ls.length), List.flatten_append]; simp only [List.flatten_cons, List.flatten_nil, List.append_nil]
 have hlen : (ls.take (k + 1)).flatten.length ≤ ls.flatten.length := by
   have e : ls.flatten = (ls.take (k + 1)).flatten ++ (ls.drop (k + 1)).flatten := by rw [← List.flatten_append, List.take_append_drop]
   rw [e, List.length_append]; omega
 rw [hsucc, List.length_append] at hlen
 refine wl_appendB (by decide) sl26 rfl rfl ho hgk (by omega) hE.size ?_
 rintro A3 c3 w3 ho3 ch3 _
 refine sl ?_
 refine wc_region ?_
 refine sl ?_
 refine wk_drop [(3, .slice A3 (ls.take (k + 1)).flatten.length c3), (6, .slice A ls.length c), (7, iv (ls.length : Int)), (8, iv ((k + 1) : Int))] ⟨(by rw [hsucc]; rfl), rfl, rfl, rfl, trivial⟩ (hKL1 _ _ (m2 := ls.length - (k + 1)) ?_ ?_)
 refine ⟨(k + 1), A3, c3, rfl, by omega, ?_, hE.own ch3 (Nat.le_refl _), rfl⟩
 rw [hsucc]; exact ho3
 omega
 have hkl : k = ls.length := by omega
 refine so ?_
 refine Pt ?_
 subst hkl
 rw [List.take_length] at ho ⊢
 exact ⟨_, rfl, A2, c2, rfl, ho, hE⟩
theorem rjoin_ok {ls : List (List UInt8)} {Sa : Nat → Prop} (h : GS (sliceR byteR) Sa w A c ls) (hb : ls.flatten.length ≤ 140737488355328) : Ret prog 140 #[.slice A ls.length c] w (fun v w' => ∃ A' c', v = .slice A' ls.flatten.length c' ∧ OwnB 5 w.heap.size w' A' c' ls.flatten ∧ Ext w w') := by
 refine ret_of_wk func140 rfl ntmps140 leB_ ?_
 refine go ?_
 refine wc_loop (fun L' w' mes => ∃ (k : Nat), ∃ (A2 : Option Addr), ∃ (c2 : Nat), L' = [(3, .slice A2 (ls.take k).flatten.length c2), (0, .slice A ls.length c), (4, iv (k : Int))] ∧ (k ≤ ls.length) ∧ (OwnB 5 w.heap.size w' A2 c2 (ls.take k).flatten) ∧ (Ext w w') ∧ ls.length - k = mes) [(3, .slice _ (ls.take 0).flatten.length _), (0, .slice A ls.length c), (4, iv (0 : Int))] (ls.length - 0) (by
     refine ⟨0, _, _, rfl, ?_, ?_, ?_, rfl⟩
     · omega
     · exact OwnRow.nil _ _ _ _ _
     · exact Chg.refl _ _) ⟨rfl, rfl, rfl, trivial⟩ ?_
 rintro _ wr _ ⟨k, A2, c2, rfl, hk, ho, hE, rfl⟩ KL1 hKL1
 have hmx:=h.mx
 refine go ?_
 refine Ln_ underlying187 rfl ?_
 refine Ls_ rfl rfl (go ?_)
 refine Cd (fun hlt => ?_) fun hlt => ?_
 refine go ?_
 refine wl_idx (r := sliceR byteR) (by decide) sl187 rfl rfl (h.ext hE) k rfl (by omega) ?_
 rintro a cs hb1 _ hat ⟨Ak, ck, rfl, hgk⟩
 refine Ld_ sc26 rfl hat.head ?_
 have hsucc : (ls.take (k + 1)).flatten = (ls.take k).flatten ++ ls[k] := by rw [← List.take_append_getElem (by omega : k < ls.length), List.flatten_append]; simp only [List.flatten_cons, List.flatten_nil, List.append_nil]
 have hlen : (ls.take (k + 1)).flatten.length ≤ ls.flatten.length := by
   have e : ls.flatten = (ls.take (k + 1)).flatten ++ (ls.drop (k + 1)).flatten := by rw [← List.flatten_append, List.take_append_drop]
   rw [e, List.length_append]; omega
 rw [hsucc, List.length_append] at hlen
 refine wl_appendB (by decide) sl26 rfl rfl ho hgk (by omega) hE.size ?_
 rintro A3 c3 w3 ho3 ch3 _
 refine go ?_
 refine wl_add (by decide) rfl rfl (w64 (by omega) (by omega)) (gl ?_)
 refine wk_drop [(3, .slice A3 (ls.take (k + 1)).flatten.length c3), (0, .slice A ls.length c), (4, iv ((k + 1) : Int))] ⟨(by rw [hsucc]; rfl), rfl, rfl, trivial⟩ (hKL1 _ _ (m2 := ls.length - (k + 1)) ?_ ?_)
 refine ⟨(k + 1), A3, c3, rfl, ?_, ?_, ?_, rfl⟩
 omega
 rw [hsucc]; exact ho3
 exact hE.own ch3 (Nat.le_refl _)
 omega
 have hkl : k = ls.length := by omega
 refine go ?_
 refine P1 results140 ?_
 subst hkl
 rw [List.take_length] at ho ⊢
 exact ⟨_, rfl, A2, c2, rfl, ho, hE⟩
set_option maxHeartbeats 4000000 in
theorem r12_view {n : Int} {w : World}  : Ret Tryz.prog 89 #[.int .i64 n] w (fun v w' => v = .bool (decide (isView n)) ∧ w' = w) := by
 refine ret_of_wk Tryz.func89 rfl Tryz.ntmps89 (Nat.le_of_ble_eq_true rfl) ?_
 refine wc_seq ?_
 refine wc_region ?_
 refine wl_assign (by decide) rfl ?_
 refine wl_nil ?_
 refine wk_norm ?_
 refine wc_seq ?_
 refine wc_region ?_
 refine wl_move (by decide) rfl ?_
 refine wl_call (by decide) Tryz.cl52 rfl (r12_within) ?_
 rintro _ _ ⟨rfl, rfl⟩
 refine wl_assign (by decide) rfl ?_
 refine wl_nil ?_
 refine wk_norm ?_
 refine wc_ret ?_
 refine wk_post1 (.inl rfl) Tryz.results89 rfl ?_
 exact ⟨_, rfl, congrArg Value.bool (decide_eq_decide.2 (by unfold isView; omega)), rfl⟩
set_option maxHeartbeats 4000000 in
theorem n_isClient {n : Int} {w : World}  : Ret Tryz.prog 101 #[.int .i64 n] w (fun v w' => v = .bool (decide (31 ≤ n ∧ n ≤ 34)) ∧ w' = w) := by
 refine ret_of_wk Tryz.func101 rfl Tryz.ntmps101 (Nat.le_of_ble_eq_true rfl) ?_
 refine wc_seq ?_
 refine wc_region ?_
 refine wl_assign (by decide) rfl ?_
 refine wl_nil ?_
 refine wk_norm ?_
 refine wc_seq ?_
 refine wc_region ?_
 refine wl_move (by decide) rfl ?_
 refine wl_call (by decide) Tryz.cl62 rfl (n_within) ?_
 rintro _ _ ⟨rfl, rfl⟩
 refine wl_assign (by decide) rfl ?_
 refine wl_nil ?_
 refine wk_norm ?_
 refine wc_ret ?_
 refine wk_post1 (.inl rfl) Tryz.results101 rfl ?_
 exact ⟨_, rfl, congrArg Value.bool (decide_eq_decide.2 (by omega)), rfl⟩
set_option maxHeartbeats 4000000 in
theorem n_isSeq {n : Int} {w : World}  : Ret Tryz.prog 104 #[.int .i64 n] w (fun v w' => v = .bool (decide (isSeq n)) ∧ w' = w) := by
 refine ret_of_wk Tryz.func104 rfl Tryz.ntmps104 (Nat.le_of_ble_eq_true rfl) ?_
 refine wc_seq ?_
 refine wc_region ?_
 refine wl_assign (by decide) rfl ?_
 refine wl_nil ?_
 refine wk_norm ?_
 refine wc_seq ?_
 refine wc_region ?_
 refine wl_move (by decide) rfl ?_
 refine wl_call (by decide) Tryz.cl62 rfl (n_within) ?_
 rintro _ _ ⟨rfl, rfl⟩
 refine wl_assign (by decide) rfl ?_
 refine wl_nil ?_
 refine wk_norm ?_
 refine wc_ret ?_
 refine wk_post1 (.inl rfl) Tryz.results104 rfl ?_
 exact ⟨_, rfl, congrArg Value.bool (decide_eq_decide.2 (by unfold isSeq; omega)), rfl⟩
theorem plain8_iff {a b : Wsh} : plain8 a = plain8 b ↔ a.client = b.client ∧ a.stamp = b.stamp ∧ a.group = b.group ∧ a.epoch = b.epoch ∧ a.kind = b.kind ∧ a.block = b.block ∧ a.old = b.old ∧ a.new = b.new := by simp [plain8]
theorem SameL.lens {a b : Nte} (h : SameL a b) : a.changes.length = b.changes.length ∧ a.picks.length = b.picks.length ∧ a.digs.length = b.digs.length := by obtain ⟨h1, h2, h3, _⟩ := h; rw [h1, h2, h3]; exact ⟨rfl, rfl, rfl⟩
def WQ (w : Wsh) : Prop := 0 ≤ w.epoch ∧ w.epoch ≤ 1048576 ∧ w = ownW w ∧ (w.kind = 5 ∨ (31 ≤ w.client ∧ w.client ≤ 34 ∧ 1 ≤ w.stamp ∧ w.stamp ≤ 9007199254740991))
instance (w : Wsh) : Decidable (WQ w) := by unfold WQ; infer_instance
def ordS (a b : Stn) : Int := orI [cmpI a.seq b.seq, cmpI a.view b.view, Lib.compareBytes a.dig.l b.dig.l]
def SeenF (f : Value → Option Value) (l : List Stn) : Prop := ∀ s g, f (keyM s g) = if cntM l s g = 0 then none else some (.int .i64 (cntM l s g : Nat))
theorem CntF.step {f : Value → Option Value} {l : List Stn} (h : CntF f l) (x : Stn) : CntF (updF f (.int .i64 x.seq) (.int .i64 ((cntQ l x.seq : Nat) + 1))) (l ++ [x]) := by
 intro s
 rw [cntQ_snoc]
 by_cases e : x.seq = s
 ·subst e; rw [updF_same]; simp
 ·rw [updF_other f (fun he => e (by injection he with _ he; exact he.symm)), if_neg e, Nat.add_zero]; exact h s
theorem cmpI_lt (x y : Int) : (cmpI x y < 0 ↔ x < y) ∧ (cmpI x y = 0 ↔ x = y) := by unfold cmpI; constructor <;> (split <;> (try split) <;> omega)
theorem mseq_len {cg : Chn} {k : Nat} (h : k ≤ cg.marks.length) : (mseq cg k).length = k := by unfold mseq; rw [List.length_map, List.length_take]; omega
theorem rise_last {l : List Int} (h : RiseI l) : ∀ d i, i + d < l.length → l.getD i 0 ≤ l.getD (i + d) 0
 | 0, i, _ => Int.le_refl _
 | d + 1, i, hi => by
  have h1 := rise_last h d i (by omega)
  have h2 := h (i + (d + 1)) hi (by omega)
  rw [show i + (d + 1) - 1 = i + d by omega] at h2
  omega
theorem mnode_len {n : Nte} {k : Nat} (h : k ≤ n.changes.length) : (mnode n k).length = k := by unfold mnode; rw [List.length_map, List.length_take]; omega
theorem nodesR_iff {l : List Int} : NodesRise l ↔ RiseI l ∧ ¬ ∃ x ∈ l, ¬ (1 ≤ x ∧ x ≤ 28) := by
 constructor
 ·intro h
  exact ⟨fun i hi h0 => (h i hi).2.2 h0, fun ⟨x, hx, hn⟩ => hn (h.mem x hx)⟩
 ·rintro ⟨h1, h2⟩ i hi
  have h3 : 1 ≤ l.getD i 0 ∧ l.getD i 0 ≤ 28 := Decidable.byContradiction fun hn => h2 ⟨_, getD_mem hi, hn⟩
  exact ⟨h3.1, h3.2, fun h0 => h1 i hi h0⟩
theorem flat_takeD {α : Type} (E : α → List UInt8) (l : List α) (k : Nat) (z : α) (hk : k < l.length) : flatE E (l.take (k + 1)) = flatE E (l.take k) ++ E (l.getD k z) := by
 rw [flat_take E l k hk, List.getD_eq_getElem?_getD, List.getElem?_eq_getElem hk]; rfl
theorem parse_some {l lR : List UInt8} {eR e2 : Int} {x : Wsh} (h : StepP wishP (some l) (rst (decide (eR ≠ 0)) lR) x) (hen : e2 = if eR = 0 ∧ 0 < lR.length then 4 else eR) (h2 : e2 = 0) : parseS l = if WishMay x then some x else none := by
 have h0 := (end_E hen).1 h2
 rw [h0] at h
 have h1 : wishP l = some (x, []) := h
 unfold parseS
 rw [h1]
 by_cases hm : WishMay x <;> simp [hm]
def UnbR (l : List UInt8) (x : List Wsh) (e : Int) : Prop := (e = 0 ∧ unbS l = some x) ∨ (e ≠ 0 ∧ unbS l = none ∧ x = [])
theorem unb_some {l lR : List UInt8} {eR e2 : Int} {x : List Wsh} (h : StepP blistP (some l) (rst (decide (eR ≠ 0)) lR) x) (hen : e2 = if eR = 0 ∧ 0 < lR.length then 4 else eR) (h2 : e2 = 0) : unbS l = some x := by
 have h0 := (end_E hen).1 h2
 rw [h0] at h
 have h1 : blistP l = some (x, []) := h
 unfold unbS
 rw [h1]
 exact if_pos rfl
theorem read_ok {l lR : List UInt8} {b ok : Bool} {x : Nte} (h : StepP noteP (some l) (rst b lR) x) (hb : b = false) (ho : ok = decide ((lR.length : Int) = 0)) : ReadR l x ok := by
 subst hb ho
 have h1 : noteP l = some (x, lR) := h
 refine ⟨fun hh => ?_, fun hh y => ?_⟩
 ·have h2 := of_decide_eq_true hh
  rw [h1, List.eq_nil_of_length_eq_zero (show lR.length = 0 by omega)]
 ·have h2 := of_decide_eq_false hh
  rw [h1]
  intro h3
  simp only [Option.some.injEq, Prod.mk.injEq] at h3
  rw [h3.2] at h2
  exact h2 rfl
end Go.Proofs.YtkdoomglflikkaaGreat
namespace Go.Proofs.YtkdoomglflikkaaGreat
open Go.Eng Go.RowKit Go.Eng _root_.Go.Proofs.Tryz
set_option maxRecDepth 100000
variable {w0 w : World} {M0 Fz : Nat → Prop} {H : List It} {A : Option Addr} {c : Nat}
theorem SpN.keep {S M : Nat → Prop} {w w' : World} {cs : List Value} {n : Nte} (h : SpN S w cs n) (ch : Chg M w w') (hm : ∀ b, b < w.heap.size → S b → ¬ M b) : SpN S w' cs n :=
 ⟨fun A c e => WshAt.keep (h.b A c e) ch hm, fun A c e => IntsAt.keep (h.d A c e) ch hm, fun A c e => IntsAt.keep (h.k A c e) ch hm, fun A c e => IntsAt.keep (h.g A c e) ch hm⟩
end Go.Proofs.YtkdoomglflikkaaGreat
namespace Go.Proofs.YtkdoomglflikkaaGreat
open Go.RowKit Go.Eng Go.Eng _root_.Go.Proofs.Tryz
set_option maxRecDepth 100000
variable {w0 w : World} {M0 Fz : Nat → Prop} {H : List It} {A : Option Addr} {c : Nat}
theorem pack_ok {x y : Nte} {e : Bool} (hm : MayN x) (h : ReadR (noteE x) y e) (he : e = true) (hs : x = y) : packS x = (noteE x, 0) := by
 have h1 := h.1 he
 rw [read_own (may_fine hm).1] at h1
 simp only [Option.some.injEq, Prod.mk.injEq, and_true] at h1
 unfold packS
 rw [if_pos ⟨hm, h1.trans hs.symm⟩]
def stdP : List Stn := [⟨5, dgt 1, 2⟩, ⟨9, dgt 2, 0⟩]
set_option maxHeartbeats 40000000 in
theorem lDigest_ok {b : UInt8}  : Ret prog 27 #[bv b] w (fun v w' => v = .agg (digC (dgt b)).toArray ∧ Ext w w') := by
 refine ret_of_wk func27 rfl ntmps27 leB_ ?_
 have hp:=HP.begin_ w
 refine so ?_
 refine Alo hp (h := fun gs2 w1 hp hE1 => ?_)
 replace hp:=hp.ay (itB gs2 23 (digC dig0) :: _)
 refine so ?_
 refine wl_builtS (cells := digC (dgt b)) (ps := [(0, .tmp 3), (1, .const (.int .u8 1)), (2, .const (.int .u8 2))]) (by decide) bld23 rfl rfl ?_
 refine Hs 0 hp (h := fun w2 hp hC2 => ?_)
 replace hp:=hp.ay (itB gs2 23 (digC (dgt b)) :: _)
 refine so ?_
 refine wk_postR (rs := [.cell 2 23]) (.inl rfl) results27 ⟨_, _, _, rfl, rfl, loadVar_agg ag23 (hp.blkAt (i := 0) rfl).at0 rfl, rfl⟩ ?_
 exact ⟨_, rfl, rfl, hp.chg⟩
theorem unpack_pm {n : Nte} (h : PackMay n) : unpackS (packS n).1 = (n, 0) := by
 rw [packS_pm h]
 exact unpack_pack h
theorem aw_c : (packS awN).1 = [1, 12, 1, 2, 1, 1, 1, 5, 1, 4, 1, 5, 1, 6, 1, 7, 1, 9] := by decide +kernel
theorem head_flat (x : Wsh) : ([numE x.kind, numE x.client, numE x.stamp, numE x.group, numE x.epoch, numE x.block] : List (List UInt8)).flatten = headE x := by simp [headE]
theorem piece_is {x : Nte} (h : x.kind = 10 ∨ x.kind = 11) (hb : bodyOk x) : PieceOk x := by
 unfold bodyOk at hb
 rcases h with h | h <;> rw [h] at hb <;> simp only [Int.reduceEq, or_self, if_false, if_true] at hb
 ·obtain ⟨h1, _, h3, h4⟩ := hb
  exact ⟨h1, h3, h4, fun hn => absurd h hn⟩
 ·obtain ⟨h1, _, h3, h4, ⟨h5, _⟩, h6⟩ := hb
  exact ⟨h1, h3, h4, fun _ => ⟨len_is h5 (by decide), by omega⟩⟩
end Go.Proofs.YtkdoomglflikkaaGreat
