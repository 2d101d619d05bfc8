/- NoteChanges is true: what the program answers is what the statement says, for every argument (no further condition). -/
import Derived.Test.YtkdoomglflikkaaGreatDaa
import Derived.Test.YtkdoomglflikkaaGreatCaa
import Derived.Test.YtkdoomglflikkaaGreatCab
import Derived.Test.YtkdoomglflikkaaGreatCad
import Derived.Test.YtkdoomglflikkaaGreatCae
import Derived.Test.YtkdoomglflikkaaGreatCag
import Derived.Test.YtkdoomglflikkaaGreatCah
import Derived.Test.YtkdoomglflikkaaGreatCaj
import Derived.Test.YtkdoomglflikkaaGreatCak
import Derived.Test.YtkdoomglflikkaaGreatCao
import Derived.Test.YtkdoomglflikkaaGreatCap
import Derived.Test.YtkdoomglflikkaaGreatCas
import Derived.Test.YtkdoomglflikkaaGreatCau
import Derived.Test.YtkdoomglflikkaaGreatCav
import Derived.Test.YtkdoomglflikkaaGreatCay
import Derived.Test.YtkdoomglflikkaaGreatCbn
namespace Go.Proofs.YtkdoomglflikkaaGreat
open Go.RowKit Go.Eng Go.Eng _root_.Go.Proofs.Tryz
set_option maxRecDepth 100000
variable {w0 w : World} {M0 Fz : Nat → Prop} {H : List It} {A : Option Addr} {c : Nat}
theorem digits_ok {N : Nat} (hN : N ≤ 9007199254740991) : Ret prog 119 #[.int .i64 (N : Int)] w (fun v w' => ∃ A c, v = .slice A (digs N).length c ∧ OwnB 5 w.heap.size w' A c (digs N) ∧ Ext w w') := by
 refine ret_of_wk func119 rfl ntmps119 leB_ ?_
 refine go ?_
 refine wc_loop (fun L' w' mes => ∃ (m : Nat), ∃ (l : List UInt8), ∃ (A : Option Addr), ∃ (c : Nat), L' = [(0, iv (m : Int)), (3, .slice A l.length c)] ∧ (digs N = digF (8 - l.length) m ++ l) ∧ (m < 256 ^ (7 - l.length)) ∧ (l.length ≤ 7) ∧ (OwnB 5 w.heap.size w' A c l) ∧ (Ext w w') ∧ m = mes) [(0, iv (N : Int)), (3, .slice _ [].length _)] (N) (by
     refine ⟨N, [], _, _, rfl, ?_, ?_, ?_, ?_, ?_, rfl⟩
     · simp [digs]
     · simp only [List.length_nil]; omega
     · simp
     · exact OwnRow.nil _ _ _ _ _
     · exact Chg.refl _ _) ⟨rfl, rfl, trivial⟩ ?_
 rintro _ wr _ ⟨m, l, A, c, rfl, hd, hm, hll, ho, hE, rfl⟩ KL1 hKL1
 have hm0 : 0 < m → l.length < 7 := by
   intro h0
   rcases Nat.lt_or_ge l.length 7 with h | h
   · exact h
   · rw [show 7 - l.length = 0 by omega] at hm; simp at hm; omega
 refine go ?_
 refine Gt_ rfl rfl (go ?_)
 refine Cd (fun hlt => ?_) fun hlt => ?_
 have hl7:=hm0 (by omega)
 have hmlt : m < 256 ^ 7 := Nat.lt_of_lt_of_le hm (Nat.pow_le_pow_right (by omega) (by omega))
 refine go ?_
 refine wl_rem (by decide) rfl rfl (by omega) (Int.tmod_eq_emod_of_nonneg (by omega)) ?_
 refine wl_conv (by decide) it3 it5 rfl (wrap_u8 _) ?_
 have hbb : u8Of ((m : Int) % 256) = u8Of (m : Int) := by simp only [u8Of, Int.emod_emod_of_dvd _ (Int.dvd_refl _)]
 refine wl_re (k := 8) (v := bv (u8Of (m : Int))) rfl (by rw [hbb]) ?_
 refine wl_bsliceB (xs := [.tmp 8]) (bs := [u8Of (m : Int)]) (by decide) sl26 rfl rfl rfl (by simp) wr.heap.size (Nat.le_refl _) ?_
 rintro g2 w2 hg2 ho2 hE2
 refine go ?_
 refine wl_appendB (l := [u8Of (m : Int)]) (by decide) sl26 rfl rfl ho2 (ho.ext hE2).bs (by have := ho.mx; simp; omega) hE2.size ?_
 rintro A3 c3 w3 ho3 ch3 _
 have hE3:=(hE.trans hE2).own ch3 hE.size
 replace ho3:=ho3.lower hE.size
 refine go ?_
 have hq : (m : Int).tdiv 256 = ((m / 256 : Nat) : Int) := by rw [Int.tdiv_eq_ediv_of_nonneg (by omega)]; omega
 refine wl_quo (by decide) rfl rfl (by omega) (w64 (by omega) (by omega)) ?_
 refine gl ?_
 refine wk_drop [(0, iv ((m / 256) : Int)), (3, .slice A3 (u8Of (m : Int) :: l).length c3)] ⟨(by rw [hq]; rfl), rfl, trivial⟩ (hKL1 _ _ (m2 := (m / 256)) ?_ ?_)
 refine ⟨(m / 256), (u8Of (m : Int) :: l), A3, c3, rfl, ?_, ?_, ?_, ?_, ?_, rfl⟩
 rw [hd, show 8 - l.length = (7 - l.length) + 1 by omega, digF, if_neg (by omega), u8Of_nat]; simp [show 8 - (l.length + 1) = 7 - l.length by omega]
 rw [List.length_cons, show 7 - l.length = (7 - (l.length + 1)) + 1 by omega, Nat.pow_succ] at *; omega
 simp only [List.length_cons]; omega
 exact ho3
 exact hE3
 omega
 have h0 : m = 0 := by omega
 subst h0
 rw [digF_zero, List.nil_append] at hd
 refine go ?_
 refine P1 results119 ?_
 exact ⟨_, rfl, A, c, by rw [hd], by rw [hd]; exact ho, hE⟩
theorem rnum_ok {n : Int} (h1 : -9223372036854775808 ≤ n) (h2 : n ≤ 9223372036854775807) : Ret prog 74 #[.int .i64 n] w (fun v w' => ∃ A c, v = .tuple #[.slice A (numS n).1.length c, .int .i64 (numS n).2] ∧ OwnB 5 w.heap.size w' A c (numS n).1 ∧ Ext w w') := by
 refine ret_of_wk func74 rfl ntmps74 leB_ ?_
 refine go ?_
 refine Ls_ rfl rfl (go ?_)
 refine Gs 7 (fun hg => ?_) fun hg => ?_
 refine go ?_
 refine wc_cond_t rfl (go ?_)
 refine P2 results74 ?_
 exact ⟨_, rfl, none, 0, by rw [numS, if_pos (by omega)]; rfl, by rw [numS, if_pos (by omega)]; exact OwnRow.nil _ _ _ _ _, Chg.refl _ _⟩
 refine go ?_
 refine Gt_ rfl rfl (go ?_)
 refine Cd (fun hc => ?_) fun hc => ?_
 refine go ?_
 refine P2 results74 ?_
 exact ⟨_, rfl, none, 0, by rw [numS, if_pos (by omega)]; rfl, by rw [numS, if_pos (by omega)]; exact OwnRow.nil _ _ _ _ _, Chg.refl _ _⟩
 obtain ⟨N, rfl⟩ : ∃ N : Nat, n = N := ⟨n.toNat, by omega⟩
 have hs : numS (N : Int) = (numL N, 0) := by rw [numS, if_neg (by omega)]; simp
 have hN : N ≤ 9007199254740991 := by omega
 have h7:=digs_len N hN
 refine go ?_
 refine Cl_ cl119 rfl (digits_ok (N := N) (w := w) hN) ?_
 rintro _ w1 ⟨A1, c1, rfl, ho1, hE1⟩
 refine go ?_
 refine Ln_ underlying26 rfl ?_
 refine wl_conv (by decide) it3 it5 rfl (wrap_u8 _) ?_
 refine wl_bsliceB (xs := [.tmp 15]) (bs := [u8Of ((digs N).length : Int)]) (by decide) sl26 rfl rfl rfl (by simp) w1.heap.size (Nat.le_refl _) ?_
 rintro g2 w2 hg2 ho2 hE2
 refine go ?_
 refine wl_appendB (l := [u8Of ((digs N).length : Int)]) (by decide) sl26 rfl rfl ho2 (ho1.ext hE2).bs (by simp; omega) hE2.size ?_
 rintro A3 c3 w3 ho3 ch3 _
 have hE3:=(hE1.trans hE2).own ch3 hE1.size
 replace ho3:=ho3.lower hE1.size
 refine go ?_
 refine P2 results74 ?_
 have hfin : [u8Of ((digs N).length : Int)] ++ digs N = numL N := by rw [u8Of_nat]; rfl
 rw [hfin] at ho3 ⊢
 exact ⟨_, rfl, A3, c3, by rw [hs], by rw [hs]; exact ho3, hE3⟩
def RwP (te : Nat) (w0 : World) (M0 Fz : Nat → Prop) (w : World) (H : List It) (out : List UInt8) (v : Value) (w2 : World) : Prop := ∃ A' c', v = .slice A' out.length c' ∧ HP w0 M0 Fz w2 (itR te 1 A' out.length c' (out.map bv) :: H) ∧ Frz Fz Fz w w2
theorem num_is {n : Int} (hn : isNum n) : numS n = (numE n, 0) := by
 unfold isNum at hn
 rw [numS, if_neg (by omega)]; rfl
theorem rnum_is {n : Int} {w : World} (hn : isNum n) : Ret Tryz.prog 74 #[.int .i64 n] w (fun v w' => ∃ A c, v = .tuple #[.slice A (numE n).length c, .int .i64 0] ∧ OwnB 5 w.heap.size w' A c (numE n) ∧ Ext w w') := by
 have h := rnum_ok (n := n) (w := w) (by have := hn.1; omega) (by have := hn.2; omega)
 rw [num_is hn] at h
 exact h
theorem flat_roomD {α : Type} (E : α → List UInt8) (l : List α) (k : Nat) (z : α) (hk : k < l.length) : (flatE E (l.take k)).length + (E (l.getD k z)).length ≤ (flatE E l).length := by
 have h1 := flat_take_le E l (k + 1)
 rw [flat_takeD E l k z hk, List.length_append] at h1
 exact h1
theorem getD_ok {α : Type} {P : α → Prop} {l : List α} (h : ∀ x ∈ l, P x) {k : Nat} (z : α) (hk : k < l.length) : P (l.getD k z) := by
 rw [List.getD_eq_getElem?_getD, List.getElem?_eq_getElem hk]
 exact h _ (List.getElem_mem hk)
set_option maxHeartbeats 40000000 in
theorem qNum_ok {out : List UInt8} {n : Int} (hp : HP w0 M0 Fz w (itR 5 1 A out.length c (out.map bv) :: H)) (hn : isNum n) (hlen : out.length + (numE n).length ≤ 1000000) : Ret prog 42 #[.slice A out.length c, .int .i64 n] w (RwP 5 w0 M0 Fz w H (out ++ numE n)) := by
 have hFr:=Frz.start Fz w
 have hn0:=hn
 unfold isNum at hn0
 refine ret_of_wk func42 rfl ntmps42 leB_ ?_
 refine go ?_
 refine Cl_ cl74 rfl (rnum_is (n := n) hn) ?_
 rintro _ w1 ⟨A1, c1, rfl, ho1, hE1⟩
 replace hFr:=hFr.ext hE1
 replace hp:=hp.ext hE1
 refine go ?_
 refine wl_happendB (i := 0) (l2 := (numE n)) (by decide) sl26 rfl rfl hp rfl ho1.bs (by omega) ?_
 rintro A2 c2 w2 hp2 hC2
 replace hFr:=hFr.fz hC2
 replace hp:=(hp2.ay (itR 5 1 A2 ((out ++ (numE n))).length c2 (((out ++ (numE n))).map bv) :: H))
 refine go ?_
 refine P1 results42 ?_
 exact ⟨_, rfl, _, _, rfl, hp.less hFr.sub, hFr.chg, fun _ h => h⟩
set_option maxHeartbeats 40000000 in
theorem qStands_ok {out : List UInt8} {l : List Stn} {B : Option Addr} {d : Nat} (hp : HP w0 M0 Fz w (itR 5 1 A out.length c (out.map bv) :: H)) (hl : GS standR Fz w B d l) (hok : ∀ x ∈ l, standOk x) (hnl : isNum (l.length : Int)) (hlen : out.length + (listE standE l).length ≤ 1000000) : Ret prog 77 #[.slice A out.length c, .slice B l.length d] w (RwP 5 w0 M0 Fz w H (out ++ listE standE l)) := by
 have hFr:=Frz.start Fz w
 simp only [listE, List.length_append] at hlen
 have hnl0:=hnl
 unfold isNum at hnl0
 refine ret_of_wk func77 rfl ntmps77 leB_ ?_
 refine go ?_
 refine Ln_ underlying31 rfl ?_
 have hcl:=qNum_ok (n := (l.length : Int)) hp (by first | assumption | (unfold isNum; omega)) (by (try simp only [List.length_append]); omega)
 refine Cl_ cl42 rfl hcl ?_
 clear hcl
 rintro _ w1 ⟨A1, c1, rfl, hp1, hF1⟩
 replace hFr:=hFr.fr hF1
 have q0:=hl.tk.fr hF1
 replace hp:=(hp1.ay (itR 5 1 A1 ((out ++ numE (l.length : Int))).length c1 (((out ++ numE (l.length : Int))).map bv) :: H))
 refine go ?_
 refine wc_loop (fun L' w' mes => ∃ (k : Nat), ∃ (A2 : Option Addr), ∃ (c2 : Nat), L' = [(0, .slice A2 ((out ++ numE (l.length : Int)) ++ flatE standE (l.take k)).length c2), (1, .slice B l.length d), (5, iv (k : Int))] ∧ (k ≤ l.length) ∧ (Frz Fz Fz w w') ∧ (GS standR Fz w' B d l) ∧ (HP w0 M0 Fz w' (itR 5 1 A2 ((out ++ numE (l.length : Int)) ++ flatE standE (l.take k)).length c2 (((out ++ numE (l.length : Int)) ++ flatE standE (l.take k)).map bv) :: H)) ∧ l.length - k = mes) [(0, .slice A1 ((out ++ numE (l.length : Int)) ++ flatE standE (l.take 0)).length c1), (1, .slice B l.length d), (5, iv (0 : Int))] (l.length - 0) (by
     refine ⟨0, A1, c1, rfl, ?_, ?_, ?_, ?_, rfl⟩
     · exact Nat.zero_le _
     · exact hFr
     · exact (hl.fr q0)
     · rw [List.take_zero, flatE_nil, List.append_nil]; exact hp) ⟨(by rw [List.take_zero, flatE_nil, List.append_nil]; rfl), rfl, rfl, trivial⟩ ?_
 rintro _ wr _ ⟨k, A2, c2, rfl, hk, hFr, hl, hp, rfl⟩ KL1 hKL1
 refine go ?_
 refine Ln_ underlying31 rfl ?_
 refine Ls_ rfl rfl (go ?_)
 refine Cd (fun hlt => ?_) fun hlt => ?_
 have hk9 : k < l.length := by omega
 have hrm:=flat_roomD standE l k stand0 hk9
 (try simp only [standE, digE, List.length_append] at hrm)
 have hko:=getD_ok hok stand0 hk9
 obtain ⟨ho1, _, ho3⟩ := hko
 refine go ?_
 obtain ⟨ae2, hAe2, hate2, hIe2⟩ := standR_el hl k (by omega)
 refine wl_idx0 (by decide) sl31 rfl rfl hAe2 k rfl (by omega) ?_
 refine Fe_ fld97_0 rfl ?_
 refine Ld_ sc3 rfl (hate2.get rfl) ?_
 have hcl:=qNum_ok (n := ((l.getD k stand0).seq)) hp (by first | assumption | (unfold isNum; omega)) (by (try simp only [List.length_append]); omega)
 refine Cl_ cl42 rfl hcl ?_
 clear hcl
 rintro _ w3 ⟨A3, c3, rfl, hp3, hF3⟩
 replace hFr:=hFr.fr hF3
 have q1:=hl.tk.fr hF3
 replace hp:=(hp3.ay (itR 5 1 A3 ((((out ++ numE (l.length : Int)) ++ flatE standE (l.take k)) ++ numE ((l.getD k stand0).seq))).length c3 (((((out ++ numE (l.length : Int)) ++ flatE standE (l.take k)) ++ numE ((l.getD k stand0).seq))).map bv) :: H))
 refine go ?_
 refine wl_idx0 (by decide) sl31 rfl rfl hAe2 k rfl (by omega) ?_
 refine Fe_ fld97_1 rfl ?_
 refine wl_sliceA (by decide) ar23 rfl ?_
 have hb4:=(((hate2.fr q1).at_.drop 1).take 32).bs rfl (hate2.fr q1).inS (hate2.fr q1).lt
 refine wl_happendB (i := 0) (l2 := ((l.getD k stand0).dig).l) (by decide) sl26 rfl (by rw [((l.getD k stand0).dig).h]; rfl) hp rfl hb4 (by (try simp only [List.length_append]); omega) ?_
 rintro A5 c5 w5 hp5 hC5
 replace hFr:=hFr.fz hC5
 replace q1:=q1.fz hC5
 replace hp:=(hp5.ay (itR 5 1 A5 (((((out ++ numE (l.length : Int)) ++ flatE standE (l.take k)) ++ numE ((l.getD k stand0).seq)) ++ ((l.getD k stand0).dig).l)).length c5 ((((((out ++ numE (l.length : Int)) ++ flatE standE (l.take k)) ++ numE ((l.getD k stand0).seq)) ++ ((l.getD k stand0).dig).l)).map bv) :: H))
 refine go ?_
 refine wl_idx0 (by decide) sl31 rfl rfl hAe2 k rfl (by omega) ?_
 refine Fe_ fld97_2 rfl ?_
 refine Ld_ sc3 rfl ((hate2.fr q1).get rfl) ?_
 have hcl:=qNum_ok (n := ((l.getD k stand0).view)) hp (by first | assumption | (unfold isNum; omega)) (by (try simp only [List.length_append]); omega)
 refine Cl_ cl42 rfl hcl ?_
 clear hcl
 rintro _ w6 ⟨A6, c6, rfl, hp6, hF6⟩
 replace hFr:=hFr.fr hF6
 replace q1:=q1.fr hF6
 replace hp:=(hp6.ay (itR 5 1 A6 ((((((out ++ numE (l.length : Int)) ++ flatE standE (l.take k)) ++ numE ((l.getD k stand0).seq)) ++ ((l.getD k stand0).dig).l) ++ numE ((l.getD k stand0).view))).length c6 (((((((out ++ numE (l.length : Int)) ++ flatE standE (l.take k)) ++ numE ((l.getD k stand0).seq)) ++ ((l.getD k stand0).dig).l) ++ numE ((l.getD k stand0).view))).map bv) :: H))
 refine go ?_
 refine wl_add (by decide) rfl rfl (w64 (by omega) (by omega)) (go ?_)
 have hnx : ((out ++ numE (l.length : Int)) ++ flatE standE (l.take (k + 1))) = (((((out ++ numE (l.length : Int)) ++ flatE standE (l.take k)) ++ numE ((l.getD k stand0).seq)) ++ ((l.getD k stand0).dig).l) ++ numE ((l.getD k stand0).view)) := by
   rw [flat_takeD standE l k stand0 hk9]
   simp only [standE, digE, ← List.append_assoc]
 refine wk_drop [(0, .slice A6 ((out ++ numE (l.length : Int)) ++ flatE standE (l.take (k + 1))).length c6), (1, .slice B l.length d), (5, iv ((k + 1) : Int))] ⟨(by rw [hnx]; rfl), rfl, rfl, trivial⟩ (hKL1 _ _ (m2 := l.length - (k + 1)) ?_ ?_)
 refine ⟨(k + 1), A6, c6, rfl, ?_, ?_, ?_, ?_, rfl⟩
 omega
 exact hFr
 exact (hl.fr q1)
 rw [hnx]; exact hp
 omega
 obtain rfl : k = l.length := by omega
 refine go ?_
 refine P1 results77 ?_
 rw [List.take_length, List.append_assoc] at hp
 exact ⟨_, by rw [List.take_length, List.append_assoc]; rfl, _, _, rfl, hp.less hFr.sub, hFr.chg, fun _ h => h⟩
def ChnB (x : Chn) : Prop := x.marks.length * 40 ≤ 140737488355328 ∧ x.p.length * 48 ≤ 140737488355328 ∧ x.q.length * 48 ≤ 140737488355328
def chgS (x : Chn) : List UInt8 × Int := if ChangeMay x then (changeE x, 0) else ([], 2)
theorem len_is {α : Type} {l : List α} {m : Int} (h : (l.length : Int) ≤ m) (hm : m ≤ 40) : isNum (l.length : Int) := by unfold isNum; omega
set_option maxHeartbeats 40000000 in
theorem qChange_ok {out : List UInt8} {csx : List Value} {x : Chn} (hp : HP w0 M0 Fz w (itR 5 1 A out.length c (out.map bv) :: H)) (hx : changeR.rd Fz w csx x) (hok : changeOk x) (hlen : out.length + (changeE x).length ≤ 1000000) : Ret prog 46 #[.slice A out.length c, .agg csx.toArray] w (RwP 5 w0 M0 Fz w H (out ++ changeE x)) := by
 obtain ⟨hIx, Ax0, cx0, Ax1, cx1, Ax2, cx2, rfl, hx0, hx1, hx2⟩ := hx
 have mhx0:=hx0.mx
 have mhx1:=hx1.mx
 have mhx2:=hx2.mx
 have hFr:=Frz.start Fz w
 obtain ⟨hk0, hk1, hk2, ⟨hm1, hm2⟩, ⟨hp1, hp2⟩, hq1, hq2⟩ := hok
 have hnl:=len_is hm1 (by decide)
 have hlen0:=hlen
 simp only [changeE, List.length_append] at hlen
 have hlm : (listE markE x.marks).length = (numE (x.marks.length : Int)).length + (flatE markE x.marks).length := by simp only [listE, List.length_append]
 refine ret_of_wk func46 rfl ntmps46 leB_ ?_
 refine go ?_
 refine wl_hbox (by decide) rfl hp ?_
 rintro gs3 w1 hp1 hE1
 replace hFr:=hFr.ext hE1
 have q0:=hE1
 replace hp:=hp1
 replace hp:=hp.ay (itB gs3 33 ([iv x.node, iv x.view, iv x.low, .slice Ax0 x.marks.length cx0, .slice Ax1 x.p.length cx1, .slice Ax2 x.q.length cx2]) :: _)
 refine go ?_
 replace hp:=(hp.up 1 rfl).as_ (H' := itR 5 1 A out.length c (out.map bv) :: itB gs3 33 ([iv x.node, iv x.view, iv x.low, .slice Ax0 x.marks.length cx0, .slice Ax1 x.p.length cx1, .slice Ax2 x.q.length cx2]) :: H) rfl
 refine go ?_
 refine Fd_ 0 fld33_0 rfl rfl ?_
 refine Hl_ 1 sc3 rfl hp rfl rfl ?_
 have hcl:=qNum_ok (n := x.node) hp (by first | assumption | (unfold isNum; omega)) (by (try simp only [List.length_append]); omega)
 refine Cl_ cl42 rfl hcl ?_
 clear hcl
 rintro _ w2 ⟨A2, c2, rfl, hp2, hF2⟩
 replace hFr:=hFr.fr hF2
 have q1:=hx0.tk.ext q0
 replace q1:=q1.fr hF2
 replace hp:=(hp2.ay (itR 5 1 A2 ((out ++ numE x.node)).length c2 (((out ++ numE x.node)).map bv) :: itB gs3 33 ([iv x.node, iv x.view, iv x.low, .slice Ax0 x.marks.length cx0, .slice Ax1 x.p.length cx1, .slice Ax2 x.q.length cx2]) :: H))
 refine go ?_
 refine Fd_ 1 fld33_1 rfl rfl ?_
 refine Hl_ 1 sc3 rfl hp rfl rfl ?_
 have hcl:=qNum_ok (n := x.view) hp (by first | assumption | (unfold isNum; omega)) (by (try simp only [List.length_append]); omega)
 refine Cl_ cl42 rfl hcl ?_
 clear hcl
 rintro _ w3 ⟨A3, c3, rfl, hp3, hF3⟩
 replace hFr:=hFr.fr hF3
 replace q1:=q1.fr hF3
 replace hp:=(hp3.ay (itR 5 1 A3 (((out ++ numE x.node) ++ numE x.view)).length c3 ((((out ++ numE x.node) ++ numE x.view)).map bv) :: itB gs3 33 ([iv x.node, iv x.view, iv x.low, .slice Ax0 x.marks.length cx0, .slice Ax1 x.p.length cx1, .slice Ax2 x.q.length cx2]) :: H))
 refine go ?_
 refine Fd_ 2 fld33_2 rfl rfl ?_
 refine Hl_ 1 sc3 rfl hp rfl rfl ?_
 have hcl:=qNum_ok (n := x.low) hp (by first | assumption | (unfold isNum; omega)) (by (try simp only [List.length_append]); omega)
 refine Cl_ cl42 rfl hcl ?_
 clear hcl
 rintro _ w4 ⟨A4, c4, rfl, hp4, hF4⟩
 replace hFr:=hFr.fr hF4
 replace q1:=q1.fr hF4
 replace hp:=(hp4.ay (itR 5 1 A4 ((((out ++ numE x.node) ++ numE x.view) ++ numE x.low)).length c4 (((((out ++ numE x.node) ++ numE x.view) ++ numE x.low)).map bv) :: itB gs3 33 ([iv x.node, iv x.view, iv x.low, .slice Ax0 x.marks.length cx0, .slice Ax1 x.p.length cx1, .slice Ax2 x.q.length cx2]) :: H))
 refine go ?_
 refine Fd_ 3 fld33_3 rfl rfl ?_
 refine Hl_ 1 sc30 rfl hp rfl rfl ?_
 refine Ln_ underlying30 rfl ?_
 have hcl:=qNum_ok (n := (x.marks.length : Int)) hp (by first | assumption | (unfold isNum; omega)) (by (try simp only [List.length_append]); omega)
 refine Cl_ cl42 rfl hcl ?_
 clear hcl
 rintro _ w5 ⟨A5, c5, rfl, hp5, hF5⟩
 replace hFr:=hFr.fr hF5
 replace q1:=q1.fr hF5
 replace hp:=(hp5.ay (itR 5 1 A5 (((((out ++ numE x.node) ++ numE x.view) ++ numE x.low) ++ numE (x.marks.length : Int))).length c5 ((((((out ++ numE x.node) ++ numE x.view) ++ numE x.low) ++ numE (x.marks.length : Int))).map bv) :: itB gs3 33 ([iv x.node, iv x.view, iv x.low, .slice Ax0 x.marks.length cx0, .slice Ax1 x.p.length cx1, .slice Ax2 x.q.length cx2]) :: H))
 refine go ?_
 refine wc_loop (fun L' w' mes => ∃ (k : Nat), ∃ (A2 : Option Addr), ∃ (c2 : Nat), L' = [(0, .slice A2 (((((out ++ numE x.node) ++ numE x.view) ++ numE x.low) ++ numE (x.marks.length : Int)) ++ flatE markE (x.marks.take k)).length c2), (3, pt gs3 0), (5, iv (k : Int))] ∧ (k ≤ x.marks.length) ∧ (Frz Fz Fz w w') ∧ (GS markR Fz w' Ax0 cx0 x.marks) ∧ (GS standR Fz w' Ax1 cx1 x.p) ∧ (GS standR Fz w' Ax2 cx2 x.q) ∧ (HP w0 M0 Fz w' (itR 5 1 A2 (((((out ++ numE x.node) ++ numE x.view) ++ numE x.low) ++ numE (x.marks.length : Int)) ++ flatE markE (x.marks.take k)).length c2 ((((((out ++ numE x.node) ++ numE x.view) ++ numE x.low) ++ numE (x.marks.length : Int)) ++ flatE markE (x.marks.take k)).map bv) :: itB gs3 33 ([iv x.node, iv x.view, iv x.low, .slice Ax0 x.marks.length cx0, .slice Ax1 x.p.length cx1, .slice Ax2 x.q.length cx2]) :: H)) ∧ x.marks.length - k = mes) [(0, .slice A5 (((((out ++ numE x.node) ++ numE x.view) ++ numE x.low) ++ numE (x.marks.length : Int)) ++ flatE markE (x.marks.take 0)).length c5), (3, pt gs3 0), (5, iv (0 : Int))] (x.marks.length - 0) (by
     refine ⟨0, A5, c5, rfl, ?_, ?_, ?_, ?_, ?_, ?_, rfl⟩
     · exact Nat.zero_le _
     · exact hFr
     · exact (hx0.fr q1)
     · exact (hx1.fr q1)
     · exact (hx2.fr q1)
     · rw [List.take_zero, flatE_nil, List.append_nil]; exact hp) ⟨(by rw [List.take_zero, flatE_nil, List.append_nil]; rfl), rfl, rfl, trivial⟩ ?_
 rintro _ wr _ ⟨k, A2, c2, rfl, hk, hFr, hx0, hx1, hx2, hp, rfl⟩ KL1 hKL1
 refine go ?_
 refine Fd_ 3 fld33_3 rfl rfl ?_
 refine Hl_ 1 sc30 rfl hp rfl rfl ?_
 refine Ln_ underlying30 rfl ?_
 refine Ls_ rfl rfl (go ?_)
 refine Cd (fun hlt => ?_) fun hlt => ?_
 have hk9 : k < x.marks.length := by omega
 have hrm:=flat_roomD markE x.marks k mark0 hk9
 (try simp only [markE, digE, List.length_append] at hrm)
 have hko:=getD_ok hm2 mark0 hk9
 obtain ⟨ho1, _⟩ := hko
 refine go ?_
 refine Fd_ 3 fld33_3 rfl rfl ?_
 refine Hl_ 1 sc30 rfl hp rfl rfl (go ?_)
 obtain ⟨ae6, hAe6, hate6, hIe6⟩ := markR_el hx0 k (by omega)
 refine wl_idx0 (by decide) sl30 rfl rfl hAe6 k rfl (by omega) ?_
 refine Fe_ fld95_0 rfl ?_
 refine Ld_ sc3 rfl (hate6.get rfl) ?_
 have hcl:=qNum_ok (n := ((x.marks.getD k mark0).seq)) hp (by first | assumption | (unfold isNum; omega)) (by (try simp only [List.length_append]); omega)
 refine Cl_ cl42 rfl hcl ?_
 clear hcl
 rintro _ w7 ⟨A7, c7, rfl, hp7, hF7⟩
 replace hFr:=hFr.fr hF7
 have q2:=hx0.tk.fr hF7
 replace hp:=(hp7.ay (itR 5 1 A7 (((((((out ++ numE x.node) ++ numE x.view) ++ numE x.low) ++ numE (x.marks.length : Int)) ++ flatE markE (x.marks.take k)) ++ numE ((x.marks.getD k mark0).seq))).length c7 ((((((((out ++ numE x.node) ++ numE x.view) ++ numE x.low) ++ numE (x.marks.length : Int)) ++ flatE markE (x.marks.take k)) ++ numE ((x.marks.getD k mark0).seq))).map bv) :: itB gs3 33 ([iv x.node, iv x.view, iv x.low, .slice Ax0 x.marks.length cx0, .slice Ax1 x.p.length cx1, .slice Ax2 x.q.length cx2]) :: H))
 refine go ?_
 refine Fd_ 3 fld33_3 rfl rfl ?_
 refine Hl_ 1 sc30 rfl hp rfl rfl (go ?_)
 refine wl_idx0 (by decide) sl30 rfl rfl hAe6 k rfl (by omega) ?_
 refine Fe_ fld95_1 rfl ?_
 refine wl_sliceA (by decide) ar23 rfl ?_
 have hb8:=(((hate6.fr q2).at_.drop 1).take 32).bs rfl (hate6.fr q2).inS (hate6.fr q2).lt
 refine wl_happendB (i := 0) (l2 := ((x.marks.getD k mark0).dig).l) (by decide) sl26 rfl (by rw [((x.marks.getD k mark0).dig).h]; rfl) hp rfl hb8 (by (try simp only [List.length_append]); omega) ?_
 rintro A9 c9 w9 hp9 hC9
 replace hFr:=hFr.fz hC9
 replace q2:=q2.fz hC9
 replace hp:=(hp9.ay (itR 5 1 A9 ((((((((out ++ numE x.node) ++ numE x.view) ++ numE x.low) ++ numE (x.marks.length : Int)) ++ flatE markE (x.marks.take k)) ++ numE ((x.marks.getD k mark0).seq)) ++ ((x.marks.getD k mark0).dig).l)).length c9 (((((((((out ++ numE x.node) ++ numE x.view) ++ numE x.low) ++ numE (x.marks.length : Int)) ++ flatE markE (x.marks.take k)) ++ numE ((x.marks.getD k mark0).seq)) ++ ((x.marks.getD k mark0).dig).l)).map bv) :: itB gs3 33 ([iv x.node, iv x.view, iv x.low, .slice Ax0 x.marks.length cx0, .slice Ax1 x.p.length cx1, .slice Ax2 x.q.length cx2]) :: H))
 refine go ?_
 refine wl_add (by decide) rfl rfl (w64 (by omega) (by omega)) (go ?_)
 have hnx : (((((out ++ numE x.node) ++ numE x.view) ++ numE x.low) ++ numE (x.marks.length : Int)) ++ flatE markE (x.marks.take (k + 1))) = (((((((out ++ numE x.node) ++ numE x.view) ++ numE x.low) ++ numE (x.marks.length : Int)) ++ flatE markE (x.marks.take k)) ++ numE ((x.marks.getD k mark0).seq)) ++ ((x.marks.getD k mark0).dig).l) := by
   rw [flat_takeD markE x.marks k mark0 hk9]
   simp only [markE, digE, ← List.append_assoc]
 refine wk_drop [(0, .slice A9 (((((out ++ numE x.node) ++ numE x.view) ++ numE x.low) ++ numE (x.marks.length : Int)) ++ flatE markE (x.marks.take (k + 1))).length c9), (3, pt gs3 0), (5, iv ((k + 1) : Int))] ⟨(by rw [hnx]; rfl), rfl, rfl, trivial⟩ (hKL1 _ _ (m2 := x.marks.length - (k + 1)) ?_ ?_)
 refine ⟨(k + 1), A9, c9, rfl, ?_, ?_, ?_, ?_, ?_, ?_, rfl⟩
 omega
 exact hFr
 exact (hx0.fr q2)
 exact (hx1.fr q2)
 exact (hx2.fr q2)
 rw [hnx]; exact hp
 omega
 have hkl : k = x.marks.length := by omega
 have htl : (flatE markE (x.marks.take k)).length = (flatE markE x.marks).length := by rw [hkl, List.take_length]
 refine go ?_
 refine Fd_ 4 fld33_4 rfl rfl ?_
 refine Hl_ 1 sc31 rfl hp rfl rfl ?_
 have hcl:=qStands_ok hp hx1 (by assumption) (len_is (by assumption) (by decide)) (by (try simp only [List.length_append]); omega)
 refine Cl_ cl77 rfl hcl ?_
 clear hcl
 rintro _ w10 ⟨A10, c10, rfl, hp10, hF10⟩
 replace hFr:=hFr.fr hF10
 have q3:=hx2.tk.fr hF10
 replace hp:=(hp10.ay (itR 5 1 A10 (((((((out ++ numE x.node) ++ numE x.view) ++ numE x.low) ++ numE (x.marks.length : Int)) ++ flatE markE (x.marks.take k)) ++ listE standE x.p)).length c10 ((((((((out ++ numE x.node) ++ numE x.view) ++ numE x.low) ++ numE (x.marks.length : Int)) ++ flatE markE (x.marks.take k)) ++ listE standE x.p)).map bv) :: itB gs3 33 ([iv x.node, iv x.view, iv x.low, .slice Ax0 x.marks.length cx0, .slice Ax1 x.p.length cx1, .slice Ax2 x.q.length cx2]) :: H))
 refine go ?_
 refine Fd_ 5 fld33_5 rfl rfl ?_
 refine Hl_ 1 sc31 rfl hp rfl rfl ?_
 have hcl:=qStands_ok hp (hx2.fr q3) (by assumption) (len_is (by assumption) (by decide)) (by (try simp only [List.length_append]); omega)
 refine Cl_ cl77 rfl hcl ?_
 clear hcl
 rintro _ w11 ⟨A11, c11, rfl, hp11, hF11⟩
 replace hFr:=hFr.fr hF11
 replace hp:=(hp11.ay (itR 5 1 A11 ((((((((out ++ numE x.node) ++ numE x.view) ++ numE x.low) ++ numE (x.marks.length : Int)) ++ flatE markE (x.marks.take k)) ++ listE standE x.p) ++ listE standE x.q)).length c11 (((((((((out ++ numE x.node) ++ numE x.view) ++ numE x.low) ++ numE (x.marks.length : Int)) ++ flatE markE (x.marks.take k)) ++ listE standE x.p) ++ listE standE x.q)).map bv) :: itB gs3 33 ([iv x.node, iv x.view, iv x.low, .slice Ax0 x.marks.length cx0, .slice Ax1 x.p.length cx1, .slice Ax2 x.q.length cx2]) :: H))
 refine go ?_
 refine P1 results46 ?_
 have e9 : ((((((out ++ numE x.node) ++ numE x.view) ++ numE x.low) ++ numE (x.marks.length : Int)) ++ flatE markE (x.marks.take k)) ++ listE standE x.p) ++ listE standE x.q = out ++ changeE x := by rw [hkl, List.take_length]; simp only [changeE, listE, List.append_assoc]
 rw [e9] at hp
 exact ⟨_, rfl, _, _, by rw [e9], ((hp.up 1 rfl).tail).less hFr.sub, hFr.chg, fun _ h => h⟩
set_option maxHeartbeats 40000000 in
theorem rChgB_ok {csx : List Value} {x : Chn} {Sx : Nat → Prop} (hx : changeR.rd Sx w csx x) : Ret prog 31 #[.agg csx.toArray] w (fun v w' => ∃ A' c', v = .tuple #[.slice A' (chgS x).1.length c', .int .i64 (chgS x).2] ∧ OwnB 5 w.heap.size w' A' c' (chgS x).1 ∧ Ext w w') := by
 obtain ⟨hIx, Ax0, cx0, Ax1, cx1, Ax2, cx2, rfl, hx0, hx1, hx2⟩ := hx
 have mhx0:=hx0.mx
 have mhx1:=hx1.mx
 have mhx2:=hx2.mx
 refine ret_of_wk func31 rfl ntmps31 leB_ ?_
 have hp:=HP.begin_ w
 replace hx0:=hx0.now
 replace hx1:=hx1.now
 replace hx2:=hx2.now
 refine go ?_
 refine wl_hbox (by decide) rfl hp ?_
 rintro gs1 w1 hp1 hE1
 have q0:=hE1
 replace hp:=hp1
 replace hp:=hp.ay (itB gs1 33 ([iv x.node, iv x.view, iv x.low, .slice Ax0 x.marks.length cx0, .slice Ax1 x.p.length cx1, .slice Ax2 x.q.length cx2]) :: _)
 refine go ?_
 refine Hx_ ([iv x.node, iv x.view, iv x.low, .slice Ax0 x.marks.length cx0, .slice Ax1 x.p.length cx1, .slice Ax2 x.q.length cx2]) 0 ag33 rfl hp rfl rfl rfl ?_
 have hcl:=rChangeMay_ok ⟨hIx, _, _, _, _, _, _, rfl, (hx0.ext q0), (hx1.ext q0), (hx2.ext q0)⟩
 refine Cl_ cl58 rfl hcl ?_
 clear hcl
 rintro _ w2 ⟨rfl, hE2⟩
 replace q0:=q0.trans hE2
 replace hp:=hp.ext hE2
 first | refine Nd_ rfl ?_ | refine Nn_ rfl ?_
 refine go ?_
 refine Cd (fun hm => ?_) fun hm => ?_
 have hsn : chgS x = ([], 2) := if_neg (by simpa using hm)
 refine go ?_
 refine P2 results31 ?_
 rw [hsn]
 exact ⟨_, rfl, _, _, rfl, OwnRow.nil _ _ _ _ _, hp.chg⟩
 have hmm : ChangeMay x := by simpa using hm
 have hsn : chgS x = (changeE x, 0) := if_pos hmm
 have hok:=change_fine hmm
 have hlen0:=changeE_len hok
 refine go ?_
 refine Hx_ ([iv x.node, iv x.view, iv x.low, .slice Ax0 x.marks.length cx0, .slice Ax1 x.p.length cx1, .slice Ax2 x.q.length cx2]) 0 ag33 rfl hp rfl rfl rfl ?_
 replace hp:=(hp.noRow 5 1).as_ (H' := itR 5 1 none (([] : List UInt8)).length 0 ((([] : List UInt8)).map bv) :: itB gs1 33 ([iv x.node, iv x.view, iv x.low, .slice Ax0 x.marks.length cx0, .slice Ax1 x.p.length cx1, .slice Ax2 x.q.length cx2]) :: []) rfl
 have hcl:=qChange_ok hp ⟨hIx, _, _, _, _, _, _, rfl, (hx0.ext q0), (hx1.ext q0), (hx2.ext q0)⟩ hok (by show (0 : Nat) + _ ≤ _; omega)
 refine Cl_ cl46 rfl hcl ?_
 clear hcl
 rintro _ w3 ⟨A3, c3, rfl, hp3, hF3⟩
 replace hp:=(hp3.ay (itR 5 1 A3 ((([] : List UInt8) ++ changeE x)).length c3 (((([] : List UInt8) ++ changeE x)).map bv) :: itB gs1 33 ([iv x.node, iv x.view, iv x.low, .slice Ax0 x.marks.length cx0, .slice Ax1 x.p.length cx1, .slice Ax2 x.q.length cx2]) :: []))
 refine go ?_
 refine P2 results31 ?_
 rw [hsn]
 exact ⟨_, rfl, _, _, rfl, hp.rowLo (i := 0) rfl, hp.chg⟩
set_option maxHeartbeats 40000000 in
theorem rCopyC_ok {csx : List Value} {x : Chn} {Sx : Nat → Prop} (hx : changeR.rd Sx w csx x) (hsz : ChnB x) : Ret prog 29 #[.agg csx.toArray] w (fun v w' => ∃ cs, v = .agg cs.toArray ∧ changeR.rd (fun b => w.heap.size ≤ b) w' cs x ∧ Ext w w') := by
 obtain ⟨hIx, Ax0, cx0, Ax1, cx1, Ax2, cx2, rfl, hx0, hx1, hx2⟩ := hx
 have mhx0:=hx0.mx
 have mhx1:=hx1.mx
 have mhx2:=hx2.mx
 obtain ⟨hz0, hz1, hz2⟩ := hsz
 refine ret_of_wk func29 rfl ntmps29 leB_ ?_
 have hp:=HP.begin_ w
 replace hx0:=hx0.now
 replace hx1:=hx1.now
 replace hx2:=hx2.now
 refine go ?_
 refine wl_hbox (by decide) rfl hp ?_
 rintro gs1 w1 hp1 hE1
 have q0:=hE1
 replace hp:=hp1
 replace hp:=hp.ay (itB gs1 33 ([iv x.node, iv x.view, iv x.low, .slice Ax0 x.marks.length cx0, .slice Ax1 x.p.length cx1, .slice Ax2 x.q.length cx2]) :: _)
 refine wl_halloc (e := 33) (z := .agg #[iv 0, iv 0, iv 0, s0, s0, s0]) (by decide) (by kernel_rfl) hp ?_
 rintro gs2 w2 hp2 hE2
 replace q0:=q0.trans hE2
 replace hp:=hp2
 replace hp:=hp.ay (itB gs2 33 ([iv change0.node, iv change0.view, iv change0.low, s0, s0, s0]) :: _)
 refine go ?_
 have hpO:=hp
 apply wdT 18 [.eq _,.eq _,.eq _,.eq _,.eq _,.eq _,.eq _,.eq _,.eq _,SP.gs markR (fun b => w2.heap.size ≤ b) x.marks,.eq _,.eq _,.eq _,SP.gs standR (fun b => w2.heap.size ≤ b) x.p,.eq _,.eq _,.eq _,SP.gs standR (fun b => w2.heap.size ≤ b) x.q]
 refine ⟨?_,?_,?_,?_,?_,?_,?_,?_,?_,?_,?_,?_,?_,?_,?_,?_,?_,?_,trivial⟩<;>intro F wF hER hk
 exact Fd_ 0 fld33_0 (hk.qi 1) rfl qz
 exact Hl_ 1 sc3 (hk.qe 0) (hp.ext hER) rfl rfl qz
 exact Fd_ 1 fld33_1 (hk.qi 1) rfl qz
 exact Hl_ 1 sc3 (hk.qe 2) (hp.ext hER) rfl rfl qz
 exact Fd_ 2 fld33_2 (hk.qi 1) rfl qz
 exact Hl_ 1 sc3 (hk.qe 4) (hp.ext hER) rfl rfl qz
 exact dm (hk.qi 3)
 exact Fd_ 3 fld33_3 (hk.qi 1) rfl qz
 exact Hl_ 1 sc30 (hk.qe 7) (hp.ext hER) rfl rfl qz
 have e12:=hk.qe 6
 have e14:=hk.qe 8
 refine wl_appN (r := markR) (lo := w2.heap.size) (by decide) sl30 e12 e14 ((hx0.ext q0).ext hER) (fun {_ _ _ _ _ _} h => h) (by omega) hER.size ?_
 intro A7 c7 w7 hg7 hE7
 exact qz ⟨hE7, _, _, rfl, hg7⟩
 exact dm (hk.qi 4)
 exact Fd_ 4 fld33_4 (hk.qi 1) rfl qz
 exact Hl_ 1 sc31 (hk.qe 11) (hp.ext hER) rfl rfl qz
 have e16:=hk.qe 10
 have e18:=hk.qe 12
 refine wl_appN (r := standR) (lo := w2.heap.size) (by decide) sl31 e16 e18 ((hx1.ext q0).ext hER) (fun {_ _ _ _ _ _} h => h) (by omega) hER.size ?_
 intro A7 c7 w7 hg7 hE7
 exact qz ⟨hE7, _, _, rfl, hg7⟩
 exact dm (hk.qi 5)
 exact Fd_ 5 fld33_5 (hk.qi 1) rfl qz
 exact Hl_ 1 sc31 (hk.qe 15) (hp.ext hER) rfl rfl qz
 have e20:=hk.qe 14
 have e22:=hk.qe 16
 refine wl_appN (r := standR) (lo := w2.heap.size) (by decide) sl31 e20 e22 ((hx2.ext q0).ext hER) (fun {_ _ _ _ _ _} h => h) (by omega) hER.size ?_
 intro A7 c7 w7 hg7 hE7
 exact qz ⟨hE7, _, _, rfl, hg7⟩
 intro F wD hED hini hdo
 have e2:=di hini 2
 have e7:=dr hdo 1
 have e9:=dr hdo 3
 have e11:=dr hdo 5
 obtain ⟨u15, e15, h15⟩ := hdo 9 15 (Nat.lt_of_lt_of_eq (by decide) rfl) rfl
 obtain ⟨A15, c15, rfl, h15⟩ := h15
 obtain ⟨u19, e19, h19⟩ := hdo 13 19 (Nat.lt_of_lt_of_eq (by decide) rfl) rfl
 obtain ⟨A19, c19, rfl, h19⟩ := h19
 obtain ⟨u23, e23, h23⟩ := hdo 17 23 (Nat.lt_of_lt_of_eq (by decide) rfl) rfl
 obtain ⟨A23, c23, rfl, h23⟩ := h23
 refine wl_drop [(2, _), (7, _), (9, _), (11, _), (15, _), (19, _), (23, _)] ⟨e2, e7, e9, e11, e15, e19, e23, trivial⟩ ?_
 clear e2 e7 e9 e11 e15 e19 e23 hini hdo
 replace hp:=hp.ext hED
 obtain ⟨Fz5, hp5, hs5, hn5, _⟩ := hpO.frz hED
 replace hp:=hp5
 refine wl_builtS (ps := [(0, .tmp 7), (1, .tmp 9), (2, .tmp 11), (3, .tmp 15), (4, .tmp 19), (5, .tmp 23)]) (by decide) bld33 rfl rfl ?_
 refine wl_hstore (i := 0) rfl rfl hp rfl sz33 leB_ (List.all_eq_true.1 rfl) ?_
 rintro w3 hp3 hC3
 replace hp:=hp3
 refine go ?_
 refine wk_postR (rs := [.cell 2 33]) (.inl rfl) results29 ⟨_, _, _, rfl, rfl, loadVar_agg ag33 (hp.blkAt (i := 0) rfl).at0 rfl, rfl⟩ ?_
 exact ⟨_, rfl, _, rfl, ⟨hIx, _, _, _, _, _, _, rfl, ((GS.keep hC3 (fun b hb hs hn => hn (hn5 b hs hb)) h15).mono (fun b _ h => by have := hE1.size; have := hE2.size; omega)), ((GS.keep hC3 (fun b hb hs hn => hn (hn5 b hs hb)) h19).mono (fun b _ h => by have := hE1.size; have := hE2.size; omega)), ((GS.keep hC3 (fun b hb hs hn => hn (hn5 b hs hb)) h23).mono (fun b _ h => by have := hE1.size; have := hE2.size; omega))⟩, hp.chg⟩
set_option maxHeartbeats 40000000 in
theorem nChgB_ok {csx : List Value} {x : Chn} {Sx : Nat → Prop} (hx : changeR.rd Sx w csx x) : Ret prog 30 #[.agg csx.toArray] w (fun v w' => ∃ A' c', v = .tuple #[.slice A' (chgS x).1.length c', .int .i64 (chgS x).2] ∧ OwnB 5 w.heap.size w' A' c' (chgS x).1 ∧ Ext w w') := by
 obtain ⟨hIx, Ax0, cx0, Ax1, cx1, Ax2, cx2, rfl, hx0, hx1, hx2⟩ := hx
 have mhx0:=hx0.mx
 have mhx1:=hx1.mx
 have mhx2:=hx2.mx
 refine ret_of_wk func30 rfl ntmps30 leB_ ?_
 have hp:=HP.begin_ w
 replace hx0:=hx0.now
 replace hx1:=hx1.now
 replace hx2:=hx2.now
 refine go ?_
 refine wl_hbox (by decide) rfl hp ?_
 rintro gs1 w1 hp1 hE1
 have q0:=hE1
 replace hp:=hp1
 replace hp:=hp.ay (itB gs1 33 ([iv x.node, iv x.view, iv x.low, .slice Ax0 x.marks.length cx0, .slice Ax1 x.p.length cx1, .slice Ax2 x.q.length cx2]) :: _)
 refine go ?_
 refine Hx_ ([iv x.node, iv x.view, iv x.low, .slice Ax0 x.marks.length cx0, .slice Ax1 x.p.length cx1, .slice Ax2 x.q.length cx2]) 0 ag33 rfl hp rfl rfl rfl ?_
 have hcl:=nChangeMay_ok ⟨hIx, _, _, _, _, _, _, rfl, (hx0.ext q0), (hx1.ext q0), (hx2.ext q0)⟩
 refine Cl_ cl56 rfl hcl ?_
 clear hcl
 rintro _ w2 ⟨rfl, hE2⟩
 replace q0:=q0.trans hE2
 replace hp:=hp.ext hE2
 first | refine Nd_ rfl ?_ | refine Nn_ rfl ?_
 have hbk:=hp.blkAt (i := 0) rfl
 obtain ⟨Fz3, hp3, hs3, hat3⟩ := (hp.as_ (H' := itB gs1 33 ([iv x.node, iv x.view, iv x.low, .slice Ax0 x.marks.length cx0, .slice Ax1 x.p.length cx1, .slice Ax2 x.q.length cx2]) :: _) rfl).frzBlk
 have hmb:=MutF.of hbk hat3 rfl
 replace hp:=hp3
 have q1:=hx0.tk.ext q0
 replace q1:=q1.wid hs3
 refine go ?_
 refine Cd (fun hm => ?_) fun hm => ?_
 have hsn : chgS x = ([], 2) := if_neg (by simpa using hm)
 refine go ?_
 refine P2 results30 ?_
 rw [hsn]
 exact ⟨_, rfl, _, _, rfl, OwnRow.nil _ _ _ _ _, hp.chg⟩
 have hmm : ChangeMay x := by simpa using hm
 have hsn : chgS x = (changeE x, 0) := if_pos hmm
 have hok:=change_fine hmm
 have hlen0:=changeE_len hok
 refine go ?_
 refine wl_builtS (ps := []) (by decide) bld89 rfl rfl ?_
 refine wl_hbox (by decide) rfl hp ?_
 rintro gs9 w4 hp4 hE4
 replace q1:=q1.ext hE4
 have q2:=hE4
 replace hp:=hp4
 refine go ?_
 replace hp:=(hp.noRow 5 1).as_ (H' := itR 5 1 none ([] : List UInt8).length 0 (([] : List UInt8).map bv) :: _ :: []) rfl
 replace hp:=(HP.comm [itR 5 1 none ([] : List UInt8).length 0 (([] : List UInt8).map bv)] [_] ([]) hp).as_ (H' := itB gs9 89 [.slice none ([] : List UInt8).length 0] :: itR 5 1 none ([] : List UInt8).length 0 (([] : List UInt8).map bv) :: []) rfl
 refine go ?_
 refine wl_iface (by decide) (by kernel_rfl) rfl ?_
 have hcl:=gChange_ok hp (hat3.ext q2) ⟨hIx, _, _, _, _, _, _, rfl, (hx0.fr q1), (hx1.fr q1), (hx2.fr q1)⟩ hok (by show (0 : Nat) + _ ≤ _; omega)
 refine Cl_ cl57 rfl hcl ?_
 clear hcl
 rintro _ w5 ⟨A5, c5, hp5, hF5⟩
 replace hp:=(hp5.ay (itB gs9 89 [.slice A5 (([] : List UInt8) ++ changeE x).length c5] :: itR 5 1 A5 (([] : List UInt8) ++ changeE x).length c5 ((([] : List UInt8) ++ changeE x).map bv) :: []))
 refine go ?_
 refine Fd_ 0 fld89_0 rfl rfl ?_
 refine Hl_ 0 sc26 rfl hp rfl rfl (go ?_)
 refine P2 results30 ?_
 rw [hsn]
 exact ⟨_, rfl, _, _, rfl, hp.rowLo (i := 1) rfl, hp.chg⟩
end Go.Proofs.YtkdoomglflikkaaGreat
namespace Go.Proofs.YtkdoomglflikkaaGreat
open Go.ChangeShapes Go.WideShapes Go.ChangeAt Go.RowKit Go.Eng Go.Eng _root_.Go.Proofs.Tryz
set_option maxRecDepth 100000
variable {w0 w : World} {M0 Fz : Nat → Prop} {H : List It} {A : Option Addr} {c : Nat}
theorem reads_ChnB : ReadsR Tryz.prog 33 changeR ChnB := by
  intro H enc w base sp held fuel cs x h hlt hw
  have hlen := trod_structLen Tryz.underlying33 h
  rw [Tryz.ce33] at hlen
  obtain ⟨v0, h0, g0⟩ := reads_field Tryz.underlying33 (i := 0) rfl (reads_int Tryz.underlying3) h hlt hw
  replace h0 : intR.rd _ _ ((cs.drop 0).take (Tryz.prog.cellsOf 3)) v0 := h0
  rw [Tryz.ce3] at h0
  have e0 : (cs.drop 0).take 1 = [.int .i64 v0] := h0
  obtain ⟨v1, h1, g1⟩ := reads_field Tryz.underlying33 (i := 1) rfl (reads_int Tryz.underlying3) h hlt hw
  replace h1 : intR.rd _ _ ((cs.drop 1).take (Tryz.prog.cellsOf 3)) v1 := h1
  rw [Tryz.ce3] at h1
  have e1 : (cs.drop 1).take 1 = [.int .i64 v1] := h1
  obtain ⟨v2, h2, g2⟩ := reads_field Tryz.underlying33 (i := 2) rfl (reads_int Tryz.underlying3) h hlt hw
  replace h2 : intR.rd _ _ ((cs.drop 2).take (Tryz.prog.cellsOf 3)) v2 := h2
  rw [Tryz.ce3] at h2
  have e2 : (cs.drop 2).take 1 = [.int .i64 v2] := h2
  obtain ⟨v3, h3, g3⟩ := reads_field Tryz.underlying33 (i := 3) rfl reads_t30 h hlt hw
  replace h3 : (sliceR markR).rd _ _ ((cs.drop 3).take (Tryz.prog.cellsOf 30)) v3 := h3
  rw [Tryz.ce30] at h3
  obtain ⟨A3, c3, e3, k3⟩ := h3
  obtain ⟨v4, h4, g4⟩ := reads_field Tryz.underlying33 (i := 4) rfl reads_t31 h hlt hw
  replace h4 : (sliceR standR).rd _ _ ((cs.drop 4).take (Tryz.prog.cellsOf 31)) v4 := h4
  rw [Tryz.ce31] at h4
  obtain ⟨A4, c4, e4, k4⟩ := h4
  obtain ⟨v5, h5, g5⟩ := reads_field Tryz.underlying33 (i := 5) rfl reads_t31 h hlt hw
  replace h5 : (sliceR standR).rd _ _ ((cs.drop 5).take (Tryz.prog.cellsOf 31)) v5 := h5
  rw [Tryz.ce31] at h5
  obtain ⟨A5, c5, e5, k5⟩ := h5
  have e := (List.drop_zero (l := cs)).symm
  rw [seg_cons (m := 1) rfl e0] at e
  rw [seg_cons (m := 2) rfl e1] at e
  rw [seg_cons (m := 3) rfl e2] at e
  rw [seg_cons (m := 4) rfl e3] at e
  rw [seg_cons (m := 5) rfl e4] at e
  rw [seg_cons (m := 6) rfl e5] at e
  rw [List.drop_eq_nil_of_le (by rw [hlen]; exact Nat.le_refl _)] at e
  refine ⟨{ node := v0, view := v1, low := v2, marks := v3, p := v4, q := v5 }, ?_, ⟨g3, g4, g5⟩⟩
  refine ⟨by unfold ChnI i64; dsimp only; omega, _, _, _, _, _, _, e.trans (by (try simp only [List.cons_append, List.nil_append, List.append_nil]); try rfl), k3, k4, k5⟩
end Go.Proofs.YtkdoomglflikkaaGreat
namespace Go.Proofs.YtkdoomglflikkaaGreat
open Go.RowKit Go.Eng Go.Eng _root_.Go.Proofs.Tryz
set_option maxRecDepth 100000
variable {w0 w : World} {M0 Fz : Nat → Prop} {H : List It} {A : Option Addr} {c : Nat}
set_option maxHeartbeats 40000000 in
theorem noteChanges_ok {csc : List Value} {c : Chn} {Sc : Nat → Prop} (hc : changeR.rd Sc w csc c) (hcb : ChnB c) : Ret prog 11 #[.agg csc.toArray] w (fun v w' => v = .bool true ∧ Ext w w') := by
 obtain ⟨hIc, Ac0, cc0, Ac1, cc1, Ac2, cc2, rfl, hc0, hc1, hc2⟩ := hc
 have mhc0:=hc0.mx
 have mhc1:=hc1.mx
 have mhc2:=hc2.mx
 refine ret_of_wk func11 rfl ntmps11 leB_ ?_
 have hp:=HP.begin_ w
 replace hc0:=hc0.now
 replace hc1:=hc1.now
 replace hc2:=hc2.now
 refine go ?_
 refine wl_hbox (by decide) rfl hp ?_
 rintro gs1 w1 hp1 hE1
 have q0:=hE1
 replace hp:=hp1
 replace hp:=hp.ay (itB gs1 33 ([iv c.node, iv c.view, iv c.low, .slice Ac0 c.marks.length cc0, .slice Ac1 c.p.length cc1, .slice Ac2 c.q.length cc2]) :: _)
 refine go ?_
 refine Hx_ ([iv c.node, iv c.view, iv c.low, .slice Ac0 c.marks.length cc0, .slice Ac1 c.p.length cc1, .slice Ac2 c.q.length cc2]) 0 ag33 rfl hp rfl rfl rfl ?_
 have hcl:=rCopyC_ok ⟨hIc, _, _, _, _, _, _, rfl, (hc0.ext q0), (hc1.ext q0), (hc2.ext q0)⟩ hcb
 refine Cl_ cl29 rfl hcl ?_
 clear hcl
 rintro _ w2 ⟨cs2, rfl, hr2, hE2⟩
 obtain ⟨hI2, A2_0, c2_0, A2_1, c2_1, A2_2, c2_2, rfl, hr2_0, hr2_1, hr2_2⟩ := hr2
 have hsz3:=hp.chg.size
 obtain ⟨Fz3, hp3, hsub3, hnew3, hup3⟩ := hp.frz hE2
 replace hp:=hp3
 have q1:=hc0.tk.ext q0
 replace q1:=(q1.ext hE2).wid hsub3
 replace hr2_0:=hr2_0.frz hnew3
 replace hr2_1:=hr2_1.frz hnew3
 replace hr2_2:=hr2_2.frz hnew3
 refine wl_halloc (e := 33) (z := .agg #[iv 0, iv 0, iv 0, s0, s0, s0]) (by decide) (by kernel_rfl) hp ?_
 rintro gs3 w4 hp4 hE4
 replace q1:=q1.ext hE4
 have q2:=hE4
 replace hp:=hp4
 replace hp:=hp.ay (itB gs3 33 ([iv change0.node, iv change0.view, iv change0.low, s0, s0, s0]) :: _)
 refine wl_hstore (i := 0) rfl rfl hp rfl sz33 leB_ (List.all_eq_true.1 rfl) ?_
 rintro w5 hp5 hC5
 replace q1:=q1.fz hC5
 have q3:=hr2_0.tk.ext q2
 replace q3:=q3.fz hC5
 replace hp:=hp5
 replace hp:=hp.ay (itB gs3 33 ([iv c.node, iv c.view, iv c.low, .slice A2_0 c.marks.length c2_0, .slice A2_1 c.p.length c2_1, .slice A2_2 c.q.length c2_2]) :: _)
 refine go ?_
 refine Hx_ ([iv c.node, iv c.view, iv c.low, .slice A2_0 c.marks.length c2_0, .slice A2_1 c.p.length c2_1, .slice A2_2 c.q.length c2_2]) 0 ag33 rfl hp rfl rfl rfl ?_
 have hcl:=nChgB_ok ⟨hI2, _, _, _, _, _, _, rfl, (hr2_0.fr q3), (hr2_1.fr q3), (hr2_2.fr q3)⟩
 refine Cl_ cl30 rfl hcl ?_
 clear hcl
 rintro _ w6 ⟨A6, c6, rfl, ho6, hE6⟩
 replace ho6:=ho6.bs
 have hsz7:=hp.chg.size
 obtain ⟨Fz7, hp7, hsub7, hnew7, hup7⟩ := hp.frz hE6
 replace hp:=hp7
 replace q1:=(q1.ext hE6).wid hsub7
 replace q3:=(q3.ext hE6).wid hsub7
 replace ho6:=ho6.frz hnew7
 refine go ?_
 refine Hx_ ([iv c.node, iv c.view, iv c.low, .slice Ac0 c.marks.length cc0, .slice Ac1 c.p.length cc1, .slice Ac2 c.q.length cc2]) 1 ag33 rfl hp rfl rfl rfl ?_
 have hcl:=rChgB_ok ⟨hIc, _, _, _, _, _, _, rfl, (hc0.fr q1), (hc1.fr q1), (hc2.fr q1)⟩
 refine Cl_ cl31 rfl hcl ?_
 clear hcl
 rintro _ w8 ⟨A8, c8, rfl, ho8, hE8⟩
 replace ho8:=ho8.bs
 have hsz9:=hp.chg.size
 obtain ⟨Fz9, hp9, hsub9, hnew9, hup9⟩ := hp.frz hE8
 replace hp:=hp9
 replace q1:=(q1.ext hE8).wid hsub9
 replace q3:=(q3.ext hE8).wid hsub9
 have q4:=(ho6.tk.ext hE8).wid hsub9
 replace ho8:=ho8.frz hnew9
 refine go ?_
 refine Eq_ rfl rfl ?_
 refine wl_re (k := 22) (v := .bool true) rfl (congrArg Value.bool (decide_eq_true (by rfl))) (go ?_)
 have hcl:=eqBytes_ok (ho6.fr q4) ho8
 refine Cl_ cl16 rfl hcl ?_
 clear hcl
 rintro _ w10 ⟨rfl, hE10⟩
 replace q1:=q1.ext hE10
 replace q3:=q3.ext hE10
 replace hp:=hp.ext hE10
 refine wl_re (k := 26) (v := .bool true) rfl (congrArg Value.bool (decide_eq_true (by rfl))) (go ?_)
 refine Hx_ ([iv c.node, iv c.view, iv c.low, .slice A2_0 c.marks.length c2_0, .slice A2_1 c.p.length c2_1, .slice A2_2 c.q.length c2_2]) 0 ag33 rfl hp rfl rfl rfl (go ?_)
 refine Hx_ ([iv c.node, iv c.view, iv c.low, .slice Ac0 c.marks.length cc0, .slice Ac1 c.p.length cc1, .slice Ac2 c.q.length cc2]) 1 ag33 rfl hp rfl rfl rfl (go ?_)
 have hcl:=r12SameChange_ok ⟨hI2, _, _, _, _, _, _, rfl, (hr2_0.fr q3), (hr2_1.fr q3), (hr2_2.fr q3)⟩ ⟨hIc, _, _, _, _, _, _, rfl, (hc0.fr q1), (hc1.fr q1), (hc2.fr q1)⟩
 refine Cl_ cl32 rfl hcl ?_
 clear hcl
 rintro _ w11 ⟨rfl, hE11⟩
 replace hp:=hp.ext hE11
 refine wl_re (k := 31) (v := .bool true) rfl (congrArg Value.bool (decide_eq_true (by rfl))) (go ?_)
 refine Cl_ cl19 rfl (lAwake_ok) ?_
 rintro _ w12 ⟨rfl, hE12⟩
 replace hp:=hp.ext hE12
 refine go ?_
 refine P1 results11 ?_
 exact ⟨_, rfl, rfl, hp.chg⟩
end Go.Proofs.YtkdoomglflikkaaGreat
namespace Go.Proofs.YtkdoomglflikkaaGreat
open Go.ChangeShapes Go.WideShapes Go.ChangeAt Go.RowKit Go.Eng Go.Eng _root_.Go.Proofs.Tryz
set_option maxRecDepth 100000
variable {w0 w : World} {M0 Fz : Nat → Prop} {H : List It} {A : Option Addr} {c : Nat}
set_option maxRecDepth 100000 in
theorem noteChanges_lifted (os : Os) (started : os.Started) (H : Type) (enc : TypeId × Value → H) :
  ReturnsInHanded {} Tryz.checked os 11 .any (Rows.noteChangesSpec.pre6 enc Tryz.prog Tryz.f11 Rows.noteChangesRow.domain false) (Rows.noteChangesSpec.post enc Tryz.prog Tryz.f11 false true false false) := by
 refine law_lifted (C := Tryz.checked) Tryz.own started (by kernel_rfl) Tryz.func11
  (ChangeSpec.witness6 (enc := enc) (C := Tryz.checked) false ⟨#[], #[.agg #[.int .i64 0, .int .i64 0, .int .i64 0, .slice none 0 0, .slice none 0 0, .slice none 0 0]], []⟩ 8 (by kernel_rfl) (by kernel_rfl) (by kernel_rfl) (by kernel_rfl))
  Tryz.laidOut (by kernel_rfl) rfl rfl Tryz.underlying4 ?_ ?_
 ·intro ds hq
  obtain ⟨d0, t0, e0, q0⟩ := spec_len (show ds.length = 1 from hq)
  have en := List.eq_nil_of_length_eq_zero (show t0.length = 0 from q0)
  subst en
  subst e0
  rfl
 ·intro W base args ds h
  obtain ⟨l⟩ := args
  rw [Tryz.params11] at h
  obtain ⟨v0, l0, d0, ds0, rfl, h0, h⟩ := args_cons h
  obtain rfl := args_nil h
  clear h
  obtain ⟨cs0, x0, rfl, hc, hg0⟩ := arg_struct Tryz.underlying33 reads_ChnB h0
  exact noteChanges_ok hc hg0
theorem noteChanges_holds : Rows.NoteChangesSaid :=
 OpenClaim.holds_of_wide 11 Tryz.f11 rfl rfl rfl rfl rfl rfl rfl ⟨rfl, rfl, rfl, rfl, rfl⟩ rfl rfl rfl rfl rfl (by kernel_rfl) Tryz.func11 (by kernel_rfl)
  (of_decide_eq_true (by kernel_rfl)) (by unfold Func.isWrapper; first | (rw [if_pos (by decide +kernel)]; kernel_rfl) | (rw [if_neg (by decide +kernel)]; exact ⟨rfl, rfl⟩))
  (fun os started H enc _ => noteChanges_lifted os started H enc)
end Go.Proofs.YtkdoomglflikkaaGreat
