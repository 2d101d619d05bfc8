/- What each of these functions computes, for every argument that its theorem names; a part of what the proof of NotePacks stands on. -/
import Derived.Test.YtkdoomglflikkaaGreatQac
import Derived.Test.YtkdoomglflikkaaGreatQad
import Derived.Test.YtkdoomglflikkaaGreatQae
import Derived.Test.YtkdoomglflikkaaGreatQag
import Derived.Test.YtkdoomglflikkaaGreatQah
import Derived.Test.YtkdoomglflikkaaGreatQaj
import Derived.Test.YtkdoomglflikkaaGreatQak
namespace Go.Proofs.YtkdoomglflikkaaGreat
open Go.RowKit Go.Eng Go.Eng _root_.Go.Proofs.Tryz
set_option maxRecDepth 100000
variable {w0 w : World} {M0 Fz : Nat → Prop} {H : List It} {A : Option Addr} {c : Nat}
def noteR : Rep Nte where
 size := 58
 rd := fun S w cs x => NteI x ∧ ∃ A0 c0 A1 c1 A2 c2 A3 c3 A4 c4 A5 c5 A6 c6 A7 c7 A8 c8 A9 c9 A10 c10, cs = [.int .i64 x.kind, .int .i64 x.from_, .int .i64 x.group, .int .i64 x.epoch, .int .i64 x.view, .int .i64 x.seq] ++ (digC x.dig ++ ([.slice A0 x.batch.length c0, .int .i64 x.ans.err, .slice A1 x.ans.data.length c1, .int .i64 x.ans.epoch, .slice A2 x.ans.nodes.length c2, .int .i64 x.stamp, .int .i64 x.node, .int .i64 x.change.node, .int .i64 x.change.view, .int .i64 x.change.low, .slice A3 x.change.marks.length c3, .slice A4 x.change.p.length c4, .slice A5 x.change.q.length c5, .slice A6 x.changes.length c6, .slice A7 x.picks.length c7, .int .i64 x.level, .int .i64 x.place, .slice A8 x.digs.length c8, .slice A9 x.data.length c9, .slice A10 x.nodes.length c10])) ∧ GS wishR S w A0 c0 x.batch ∧ GS byteR S w A1 c1 x.ans.data ∧ GS intR S w A2 c2 x.ans.nodes ∧ GS markR S w A3 c3 x.change.marks ∧ GS standR S w A4 c4 x.change.p ∧ GS standR S w A5 c5 x.change.q ∧ GS changeR S w A6 c6 x.changes ∧ GS pickR S w A7 c7 x.picks ∧ GS digR S w A8 c8 x.digs ∧ GS byteR S w A9 c9 x.data ∧ GS intR S w A10 c10 x.nodes
 len := by rintro _ _ _ _ ⟨hI, A0, c0, A1, c1, A2, c2, A3, c3, A4, c4, A5, c5, A6, c6, A7, c7, A8, c8, A9, c9, A10, c10, rfl, k0, k1, k2, k3, k4, k5, k6, k7, k8, k9, k10⟩; rfl
 one := by rintro _ _ _ _ ⟨hI, A0, c0, A1, c1, A2, c2, A3, c3, A4, c4, A5, c5, A6, c6, A7, c7, A8, c8, A9, c9, A10, c10, rfl, k0, k1, k2, k3, k4, k5, k6, k7, k8, k9, k10⟩; exact List.all_eq_true.1 rfl
 keep := by rintro _ _ _ _ _ _ ch hm ⟨hI, A0, c0, A1, c1, A2, c2, A3, c3, A4, c4, A5, c5, A6, c6, A7, c7, A8, c8, A9, c9, A10, c10, rfl, k0, k1, k2, k3, k4, k5, k6, k7, k8, k9, k10⟩; exact ⟨hI, _, _, _, _, _, _, _, _, _, _, _, _, _, _, _, _, _, _, _, _, _, _, rfl, k0.keep ch hm, k1.keep ch hm, k2.keep ch hm, k3.keep ch hm, k4.keep ch hm, k5.keep ch hm, k6.keep ch hm, k7.keep ch hm, k8.keep ch hm, k9.keep ch hm, k10.keep ch hm⟩
 mono := by rintro _ _ _ _ _ hs ⟨hI, A0, c0, A1, c1, A2, c2, A3, c3, A4, c4, A5, c5, A6, c6, A7, c7, A8, c8, A9, c9, A10, c10, rfl, k0, k1, k2, k3, k4, k5, k6, k7, k8, k9, k10⟩; exact ⟨hI, _, _, _, _, _, _, _, _, _, _, _, _, _, _, _, _, _, _, _, _, _, _, rfl, k0.mono hs, k1.mono hs, k2.mono hs, k3.mono hs, k4.mono hs, k5.mono hs, k6.mono hs, k7.mono hs, k8.mono hs, k9.mono hs, k10.mono hs⟩
theorem rstr_ok {b : List UInt8} {Sa : Nat → Prop} (h : BS Sa w A c b) : Ret prog 76 #[.slice A b.length c] w (fun v w' => ∃ A c, v = .tuple #[.slice A (strS b).1.length c, .int .i64 (strS b).2] ∧ OwnB 5 w.heap.size w' A c (strS b).1 ∧ Ext w w') := by
 refine ret_of_wk func76 rfl ntmps76 leB_ ?_
 refine go ?_
 refine Ln_ underlying26 rfl ?_
 refine Gt_ rfl rfl (go ?_)
 refine Cd (fun hl => ?_) fun hl => ?_
 refine go ?_
 refine P2 results76 ?_
 have e : strS b = ([], 5) := by simp only [strS]; rw [if_pos (by omega)]
 exact ⟨_, rfl, none, 0, by rw [e]; try rfl, by rw [e]; exact OwnRow.nil _ _ _ _ _, Chg.refl _ _⟩
 have hns : numS (b.length : Int) = (numL b.length, 0) := by rw [numS, if_neg (by omega)]; simp
 have hnl:=numL_len b.length (by omega)
 refine go ?_
 refine Ln_ underlying26 rfl ?_
 refine Cl_ cl74 rfl (rnum_ok (by omega) (by omega)) ?_
 rintro _ w1 ⟨A1, c1, rfl, ho1, hE1⟩
 rw [hns] at ho1 ⊢
 refine go ?_
 refine wl_appendB (by decide) sl26 rfl rfl ho1 (h.ext hE1) (by simp; omega) hE1.size ?_
 rintro A3 c3 w3 ho3 ch3 _
 refine go ?_
 refine P2 results76 ?_
 have e : strS b = (numL b.length ++ b, 0) := by simp only [strS]; rw [if_neg (by omega)]
 exact ⟨_, rfl, A3, c3, by rw [e], by rw [e]; exact ho3, hE1.own ch3 (Nat.le_refl _)⟩
theorem WshI.fit {w : Wsh} (h : WshI w) : FitK [some .i64, some .i64, some .i64, some .i64, some .i64, some .i64, some .i64, some .i64] (P8C w) := by
 obtain ⟨h1, h2, h3, h4, h5, h6, h7, h8⟩ := h
 exact FitK.cons (fit_int h1.1 h1.2) (FitK.cons (fit_int h2.1 h2.2) (FitK.cons (fit_int h3.1 h3.2) (FitK.cons (fit_int h4.1 h4.2) (FitK.cons (fit_int h5.1 h5.2) (FitK.cons (fit_int h6.1 h6.2) (FitK.cons (fit_int h7.1 h7.2) (FitK.cons (fit_int h8.1 h8.2) FitK.nil)))))))
set_option maxHeartbeats 40000000 in
theorem alike_ok {Aa : Option Addr} {ca : Nat} {a : List Wsh} {Sa : Nat → Prop} {Ab : Option Addr} {cb : Nat} {b : List Wsh} {Sb : Nat → Prop} (ha : GS wishR Sa w Aa ca a) (hb : GS wishR Sb w Ab cb b) : Ret prog 78 #[.slice Aa a.length ca, .slice Ab b.length cb] w (fun v w' => v = .bool (decide (a = b)) ∧ Ext w w') := by
 have mha:=ha.mx
 have mhb:=hb.mx
 refine ret_of_wk func78 rfl ntmps78 leB_ ?_
 refine so ?_
 refine Cd ?_ ?_<;>intro hne
 refine so ?_
 refine Pt ?_
 exact ⟨_, rfl, bool_f (fun e => hne (by rw [e])), me⟩
 have hll : a.length = b.length := by omega
 refine so ?_
 refine Lp [0, 1, 5] (fun L' w' mes => ∃ (k : Nat), L' = [(0, .slice Aa a.length ca), (1, .slice Ab b.length cb), (5, iv (k : Int))] ∧ (k ≤ a.length) ∧ (a.take k = b.take k) ∧ Ext w w' ∧ a.length - k = mes) (a.length - 0) (by
     refine ⟨0, rfl, ?_, ?_, me, rfl⟩
     omega
     simp) ?_
 rintro _ wr _ ⟨k, rfl, hk, htk, hEq0, rfl⟩ KL1 hKL1
 refine so ?_
 refine Cd ?_ ?_<;>intro hlt
 refine so ?_
 obtain ⟨aw2, pw2_0, qw2_0, pw2_1, qw2_1, hAw2, hatw2, hIw2, hw2_0, hw2_1⟩ := wishR_el (ha.to (w' := wr)) k (by omega)
 obtain ⟨aw6, pw6_0, qw6_0, pw6_1, qw6_1, hAw6, hatw6, hIw6, hw6_0, hw6_1⟩ := wishR_el (hb.to (w' := wr)) k (by omega)
 refine wdE 10 (fun wD hED => by refine pm ?_; exact PLe (r11Same_ok ⟨hIw2, _, _, _, _, rfl, hw2_0.to, hw2_1.to⟩ ⟨hIw6, _, _, _, _, rfl, hw6_0.to, hw6_1.to⟩) (h := pl)) fun wD hED => ?_
 refine so ?_
 refine Cd ?_ ?_<;>intro hne2
 refine so ?_
 refine Pt ?_
 exact ⟨_, rfl, bool_f (fun e => hne2 (by rw [e])), me⟩
 replace hne2:=Decidable.not_not.1 hne2
 refine so ?_
 refine Kl [0, 1, 5] hKL1 (a.length - (k + 1)) ⟨(k + 1), rfl, by omega, ?_, me, rfl⟩ (by omega)
 rw [take_snoc wish0 (by omega : k < a.length), take_snoc wish0 (by omega : k < b.length), htk, hne2]
 have hkl : k = a.length := by omega
 refine so ?_
 refine Pt ?_
 exact ⟨_, rfl, bool_t (by rw [hkl, List.take_length, hll, List.take_length] at htk; exact htk), me⟩
set_option maxHeartbeats 40000000 in
theorem fWIdx_ok {Al : Option Addr} {cl : Nat} {l : List Wsh} {Sl : Nat → Prop} {fid : Nat} {first cap : List Value} {p0 : Wsh → Prop} [DecidablePred p0] (hl : GS wishR Sl w Al cl l) (hcl0 : callable prog fid = true) (hf : ∀ w1 cs x, Ext w w1 → wishR.rd Sl w1 cs x → Ret prog fid (first ++ [Value.agg cs.toArray] ++ cap).toArray w1 fun v w2 => v = Value.bool (decide (p0 x)) ∧ Ext w1 w2) : Ret prog 151 #[.slice Al l.length cl, .func (.func fid) first.toArray cap.toArray] w (fun v w' => ∃ r : Int, v = .int .i64 r ∧ (0 ≤ r ↔ ∃ x ∈ l, p0 x) ∧ Ext w w') := by
 have mhl:=hl.mx
 refine ret_of_wk func151 rfl ntmps151 leB_ ?_
 refine so ?_
 refine Lp [0, 1, 7, 8] (fun L' w' mes => ∃ (k : Nat), L' = [(0, .slice Al l.length cl), (1, .func (.func fid) first.toArray cap.toArray), (7, iv (l.length : Int)), (8, iv (k : Int))] ∧ (k ≤ l.length) ∧ (∀ x ∈ l.take k, ¬ p0 x) ∧ (GS wishR Sl w' Al cl l) ∧ (Ext w w') ∧ l.length - k = mes) (l.length - 0) ⟨0, rfl, by omega, by simp, hl, me, rfl⟩ ?_
 rintro _ wr _ ⟨k, rfl, hk, hall, hl, hEc, rfl⟩ KL1 hKL1
 refine so ?_
 refine Cd ?_ ?_<;>intro hc1<;>refine so ?_
 obtain ⟨ae1, pe1_0, qe1_0, pe1_1, qe1_1, hAe1, hate1, hIe1, he1_0, he1_1⟩ := wishR_el hl k (by omega)
 refine so ?_
 have hcl:=hf _ _ _ hEc ⟨hIe1, _, _, _, _, rfl, he1_0, he1_1⟩
 refine wl_callv (f := fid) (first := first) (cap := cap) (vs := [_]) (by decide) hcl0 rfl rfl hcl ?_
 clear hcl
 rintro _ w7 ⟨rfl, hE7⟩
 refine so ?_
 refine Cd ?_ ?_<;>intro hq<;>refine so ?_
 refine Pt ?_
 exact ⟨_, rfl, _, rfl, ⟨fun _ => ⟨_, getD_mem (by omega), hq⟩, fun _ => by omega⟩, me⟩
 exact Kl [0, 1, 7, 8] hKL1 (l.length - (k + 1)) ⟨(k + 1), rfl, by omega, forall_take hall (by omega) hq, hl.to, me, rfl⟩ (by omega)
 refine Pt ?_
 exact ⟨_, rfl, _, rfl, ⟨fun h => absurd h (by decide), fun ⟨x, hx, hpx⟩ => absurd hpx (hall x (by rw [show k = l.length by omega, List.take_length]; exact hx))⟩, hEc⟩
set_option maxHeartbeats 40000000 in
theorem nStr_ok {gr : Nat} {l : List UInt8} {bad : Bool} {X : List Value → It} {pX : Addr} {most : Int} (hp : HP w0 M0 Fz w (itB gr 103 [.slice A l.length c, .bool bad] :: X ([.slice none 0 0]) :: H)) (hS : Slot X pX 1) (hl : GS byteR Fz w A c l) : Ret prog 189 #[.pointer (some ⟨gr, 0, none⟩), .pointer (some pX), .int .i64 most] w (RdP 103 gr w0 M0 Fz w H X (sliceR byteR) (strP most) bad l) := by
 refine ret_of_wk func189 rfl ntmps189 leB_ ?_
 refine so ?_
 refine Ce (takeStr_ok (most := most) hl) ?_
 rintro _ w1 ⟨A1, c1, B1, d1, rfl, ho1, hq1, hE1⟩
 replace ho1:=ho1.bs
 replace hq1:=hq1.bs
 have hsz2:=hp.chg.size
 obtain ⟨Fz2, hp2, hsub2, hnew2, hup2⟩ := hp.frz hE1
 replace hp:=hp2
 replace ho1:=ho1.frz hnew2
 replace hq1:=hq1.frz hnew2
 refine so ?_
 refine Ce (nTook_ok (e := (takeStrS l most).2.2) hp hl.to hq1) ?_
 rintro _ w3 ⟨b3, A3, c3, l3, rfl, hb3, hn3, hp, hF3, hl3⟩
 replace ho1:=ho1.fz hF3.chg
 refine so ?_
 refine Cd ?_ ?_<;>intro ht<;>refine so ?_
 refine wl_sstore1 0 (i := 1) hS (by rw [add_zero']; rfl) rfl hp rfl rfl sz26 (by decide) rfl ?_
 rintro w4 hp hC4
 replace hp:=hp.ay (_ :: X ([.slice A1 (takeStrS l most).1.length c1]) :: _)
 refine so ?_
 refine wk_post0 (.inr rfl) results189  ?_
 exact ⟨_, rfl, _, A3, c3, l3, b3, _, _, hp, mv, hl3.to, sliceR_mk ho1.to, step_str hb3 (fun h => ⟨hn3 h, rfl⟩)⟩
 refine wk_post0 (.inr rfl) results189  ?_
 exact ⟨_, rfl, _, A3, c3, l3, b3, _, [], hp, mv, hl3, sliceR_mk (GS.nil _ _ _ none 0), step_str hb3 (fun h => absurd ht (by simp [h]))⟩
theorem t0_gStand_ok {p : Prop} (h : p := by simp only [standE, digE, List.length_append] at hlen ⊢; omega) : p := h
set_option maxHeartbeats 40000000 in
theorem gStand_ok {gw : Nat} {out : List UInt8} {pa : Addr} {pc : Addr} {cs : List Value} {x : Stn} (hp : HP w0 M0 Fz w (itB gw 89 [.slice A out.length c] :: itR 5 1 A out.length c (out.map bv) :: H)) (hatx : AtF Fz w pa cs) (hrd : standR.rd Fz w cs x) (hok : standOk x) (hlen : out.length + (standE x).length ≤ 1000000) (hcap : AtF Fz w pc [.iface 87 (.pointer (some ⟨gw, 0, none⟩))]) : Ret prog 132 #[.pointer (some pa), .pointer (some pc)] w (WrP 5 89 gw w0 M0 Fz w H (out ++ standE x)) := by
 obtain ⟨hIx, rfl⟩ := hrd
 refine ret_of_wk func132 rfl ntmps132 leB_ ?_
 refine so ?_
 refine wP 7 hp (h := fun wD hp hED => ?_)
 refine Ci rfl (gNum_ok hp (hatx.to.sub 0 1) (hok.1) t0_gStand_ok) ?_
 rintro _ w1 ⟨A1, c1, hp, hF1⟩
 refine so ?_
 refine wP 7 hp (h := fun wD hp hED => ?_)
 refine Ci rfl (gDig_ok hp (hatx.to.sub 1 32) t0_gStand_ok) ?_
 rintro _ w2 ⟨A2, c2, hp, hF2⟩
 refine so ?_
 refine wP 7 hp (h := fun wD hp hED => ?_)
 refine Ci rfl (gNum_ok hp (hatx.to.sub 33 1) (hok.2.2) t0_gStand_ok) ?_
 rintro _ w3 ⟨A3, c3, hp, hF3⟩
 refine so ?_
 refine wk_post0 (.inr rfl) results132  ?_
 rw [show out ++ standE x = (((out ++ numE x.seq) ++ x.dig.l) ++ numE x.view) from by simp only [standE, digE, ← List.append_assoc]]
 exact ⟨_, rfl, _, _, hp, mv⟩
set_option maxHeartbeats 40000000 in
theorem gMark_ok {gw : Nat} {out : List UInt8} {pa : Addr} {pc : Addr} {cs : List Value} {x : Mrk} (hp : HP w0 M0 Fz w (itB gw 89 [.slice A out.length c] :: itR 5 1 A out.length c (out.map bv) :: H)) (hatx : AtF Fz w pa cs) (hrd : markR.rd Fz w cs x) (hok : markOk x) (hlen : out.length + (markE x).length ≤ 1000000) (hcap : AtF Fz w pc [.iface 87 (.pointer (some ⟨gw, 0, none⟩))]) : Ret prog 96 #[.pointer (some pa), .pointer (some pc)] w (WrP 5 89 gw w0 M0 Fz w H (out ++ markE x)) := by
 obtain ⟨hIx, rfl⟩ := hrd
 refine ret_of_wk func96 rfl ntmps96 leB_ ?_
 refine so ?_
 refine wP 7 hp (h := fun wD hp hED => ?_)
 refine Ci rfl (gNum_ok hp (hatx.to.sub 0 1) (hok.1) (by simp only [markE, digE, List.length_append] at hlen ⊢; omega)) ?_
 rintro _ w1 ⟨A1, c1, hp, hF1⟩
 refine so ?_
 refine wP 7 hp (h := fun wD hp hED => ?_)
 refine Ci rfl (gDig_ok hp (hatx.to.sub 1 32) (by simp only [markE, digE, List.length_append] at hlen ⊢; omega)) ?_
 rintro _ w2 ⟨A2, c2, hp, hF2⟩
 refine so ?_
 refine wk_post0 (.inr rfl) results96  ?_
 rw [show out ++ markE x = ((out ++ numE x.seq) ++ x.dig.l) from by simp only [markE, digE, ← List.append_assoc]]
 exact ⟨_, rfl, _, _, hp, mv⟩
theorem nums_ok {l : List Int} {Sa : Nat → Prop} (h : GS intR Sa w A c l) (hok : ∀ x ∈ l, isNum x) (hb : l.length ≤ 1000) : Ret prog 182 #[.slice A l.length c] w (fun v w' => ∃ A' c', v = .slice A' (flatE numE l).length c' ∧ OwnB 5 w.heap.size w' A' c' (flatE numE l) ∧ Ext w w') := by
 refine ret_of_wk func182 rfl ntmps182 leB_ ?_
 refine so ?_
 refine Lp [3, 8, 9, 10] (fun L' w' mes => ∃ (k : Nat), ∃ (A2 : Option Addr), ∃ (c2 : Nat), L' = [(3, .slice A2 (flatE numE (l.take k)).length c2), (8, .slice A l.length c), (9, iv (l.length : Int)), (10, iv (k : Int))] ∧ (k ≤ l.length) ∧ (OwnB 5 w.heap.size w' A2 c2 (flatE numE (l.take k))) ∧ (Ext w w') ∧ l.length - k = mes) (l.length - 0) ⟨0, _, _, rfl, by omega, OwnRow.nil _ _ _ _ _, Chg.refl _ _, rfl⟩ ?_
 rintro _ wr _ ⟨k, A2, c2, rfl, hk, ho, hE, rfl⟩ KL1 hKL1
 refine so ?_
 refine Cd ?_ ?_<;>intro hlt
 have hk9 : k < l.length := by omega
 have hsucc:=flat_take numE l k hk9
 have hl8:=nums_len hok k
 refine so ?_
 refine wl_idx (r := intR) (by decide) sl27 rfl rfl (h.ext hE) k rfl (by omega) ?_
 rintro a cs hb1 _ hat rfl
 refine Ld_ sc3 rfl hat.head (so ?_)
 have hnk : isNum l[k] := hok _ (List.getElem_mem hk9)
 have hn8:=numE_len hnk
 refine Ce (num_ok (n := l[k]) (w := wr) (by unfold isNum at hnk; omega) (by unfold isNum at hnk; omega)) ?_
 rintro _ w1 ⟨A1, c1, rfl, ho1, hE1⟩
 rw [num_good hnk] at ho1 ⊢
 refine so ?_
 refine wl_appendB (by decide) sl26 rfl rfl (ho.ext hE1) ho1.bs (by show _ + (numE l[k]).length ≤ _; omega) (Nat.le_trans hE.size hE1.size) ?_
 rintro A3 c3 w3 ho3 ch3 _
 refine sl ?_
 refine wc_region ?_
 refine sl ?_
 refine wk_drop [(3, .slice A3 (flatE numE (l.take (k + 1))).length c3), (8, .slice A l.length c), (9, iv (l.length : Int)), (10, iv ((k + 1) : Int))] ⟨(by rw [hsucc]; rfl), rfl, rfl, rfl, trivial⟩ (hKL1 _ _ (m2 := l.length - (k + 1)) ?_ ?_)
 refine ⟨(k + 1), A3, c3, rfl, by omega, ?_, (hE.trans hE1).own ch3 (Nat.le_refl _), rfl⟩
 rw [hsucc]; exact ho3
 omega
 have hkl : k = l.length := by omega
 refine so ?_
 refine Pt ?_
 subst hkl
 rw [List.take_length] at ho ⊢
 exact ⟨_, rfl, A2, c2, rfl, ho, hE⟩
theorem rnum_is {n : Int} {w : World} (hn : isNum n) : Ret Tryz.prog 74 #[.int .i64 n] w (fun v w' => ∃ A c, v = .tuple #[.slice A (numE n).length c, .int .i64 0] ∧ OwnB 5 w.heap.size w' A c (numE n) ∧ Ext w w') := by
 have h := rnum_ok (n := n) (w := w) (by have := hn.1; omega) (by have := hn.2; omega)
 rw [num_is hn] at h
 exact h
theorem t0_wMany_ok {p : Prop} (h : p := by first | rfl | (simp_all; done) | (simp_all; omega) | (simp_all; intros; omega) | (split <;> simp_all)) : p := h
set_option maxHeartbeats 40000000 in
theorem wMany_ok {gr : Nat} {l : List UInt8} {e : Int} {most : Int} (hp : HP w0 M0 Fz w (itB gr 207 [.slice A l.length c, .int .i64 e] :: H)) (hl : GS byteR Fz w A c l) (h0 : 0 ≤ most) : Ret prog 195 #[.pointer (some ⟨gr, 0, none⟩), .int .i64 most] w (fun v w2 => ∃ F2 A' c' l' e2 x, v = .int .i64 x ∧ HP w0 M0 F2 w2 (itB gr 207 [.slice A' (l' : List UInt8).length c', .int .i64 e2] :: H) ∧ Frz Fz F2 w w2 ∧ GS byteR F2 w2 A' c' l' ∧ StepP (manyP most) (rst (decide (e ≠ 0)) l) (rst (decide (e2 ≠ 0)) l') x ∧ x ≤ most) := by
 refine ret_of_wk func195 rfl ntmps195 leB_ ?_
 refine so ?_
 refine Ce (wNum_ok hp hl) ?_
 rintro v1 w1 ⟨F1, A1, c1, l1, b1, cs1, x1, hv1, hp, hF1, hl1, hrd1, hst1⟩
 obtain ⟨hI1, rfl⟩ := hrd1
 obtain rfl : v1 = iv x1 := hv1
 have hJ1:=hI1
 unfold i64 at hJ1
 replace hp:=(hp.ay (itB gr 207 ([.slice A1 l1.length c1, iv b1]) :: H))
 refine so ?_
 refine Gs 13 ?_ ?_<;>intro hg1<;>refine so ?_
 refine Cd ?_ ?_<;>intro hc2<;>refine so ?_
 refine H1 0 hp (h := fun w2 hp hC2 => ?_)
 replace hp:=hp.ay (itB gr 207 ([.slice A1 l1.length c1, iv 5]) :: _)
 refine so ?_
 refine Cd ?_ ?_<;>intro hc3<;>refine so ?_
 refine Pt ?_
 exact ⟨_, rfl, _, A1, c1, l1, 5, 0, rfl, (hp.up 0 rfl), mv, hl1.to, many_fin2 hst1 t0_wMany_ok (fun h => by first | rfl | (simp_all; done) | (simp_all; omega)), by omega⟩
 refine Pt ?_
 exact ⟨_, rfl, _, A1, c1, l1, 5, x1, rfl, (hp.up 0 rfl), mv, hl1.to, many_fin2 hst1 t0_wMany_ok (fun h => by first | rfl | (simp_all; done) | (simp_all; omega)), by omega⟩
 refine Cd ?_ ?_<;>intro hc4<;>refine so ?_
 refine Pt ?_
 exact ⟨_, rfl, _, A1, c1, l1, b1, 0, rfl, (hp.up 0 rfl), mv, hl1, many_fin2 hst1 t0_wMany_ok (fun h => by first | rfl | (simp_all; done) | (simp_all; omega)), by omega⟩
 refine Pt ?_
 exact ⟨_, rfl, _, A1, c1, l1, b1, x1, rfl, (hp.up 0 rfl), mv, hl1, many_fin2 hst1 t0_wMany_ok (fun h => by first | rfl | (simp_all; done) | (simp_all; omega)), by omega⟩
 refine aF (so ?_)
 refine Cd ?_ ?_<;>intro hc5<;>refine so ?_
 refine Pt ?_
 exact ⟨_, rfl, _, A1, c1, l1, b1, 0, rfl, (hp.up 0 rfl), mv, hl1, many_fin2 hst1 t0_wMany_ok (fun h => by first | rfl | (simp_all; done) | (simp_all; omega)), by omega⟩
 refine Pt ?_
 exact ⟨_, rfl, _, A1, c1, l1, b1, x1, rfl, (hp.up 0 rfl), mv, hl1, many_fin2 hst1 t0_wMany_ok (fun h => by first | rfl | (simp_all; done) | (simp_all; omega)), by omega⟩
end Go.Proofs.YtkdoomglflikkaaGreat
namespace Go.Proofs.YtkdoomglflikkaaGreat
open Go.Eng Go.RowKit Go.Eng _root_.Go.Proofs.Tryz
set_option maxRecDepth 100000
variable {w0 w : World} {M0 Fz : Nat → Prop} {H : List It} {A : Option Addr} {c : Nat}
theorem rCopyI_ok {w : World} {A : Option Addr} {c : Nat} {l : List Int} {S : Nat → Prop} (hl : GS intR S w A c l) (hsz : l.length * 8 ≤ 140737488355328) : Ret prog 37 #[.slice A l.length c] w (fun v w' => ∃ A' c', v = .slice A' l.length c' ∧ OwnRow 3 1 w.heap.size w' A' l.length c' (l.map fun z => .int .i64 z) ∧ Ext w w') := by
 have hm := hl.mx
 have hc := GS.cells1 (he := fun _ => rfl) hl
 refine ret_of_wk func37 rfl ntmps37 leB_ ?_
 refine so ?_
 refine wl_append (lo := w.heap.size) (k := 0) (m := l.length) (c := 0) (xs := []) (news := l.map fun z => .int .i64 z) (by decide) sl27 rfl rfl (OwnRow.nil _ _ _ _ _) (by simp) (fun b hb => hc.1 b hb) (fun hB => by rw [hc.2 hB]; rfl) (fun u hu => by obtain ⟨b, _, rfl⟩ := List.mem_map.1 hu; rfl) (by omega) (Nat.le_refl _) ?_
 intro A' c' w' ho hch _
 rw [List.nil_append, Nat.zero_add] at ho
 rw [Nat.zero_add]
 refine so ?_
 refine Pt ?_
 exact ⟨_, rfl, _, _, rfl, ho, hch.weak (fun b _ hb => hb.1 rfl)⟩
end Go.Proofs.YtkdoomglflikkaaGreat
namespace Go.Proofs.YtkdoomglflikkaaGreat
open Go.RowKit Go.Eng Go.Eng _root_.Go.Proofs.Tryz
set_option maxRecDepth 100000
variable {w0 w : World} {M0 Fz : Nat → Prop} {H : List It} {A : Option Addr} {c : Nat}
def chapN (k : Int) : Nte :=
 if k = 1 ∨ k = 14 then { headN k with from_ := 31, batch := [wshA] }
 else if k = 2 then { headN k with node := 31, stamp := 5, ans := ⟨171, [48, 49, 50, 51, 52, 53, 54, 55, 56, 57, 97, 98, 99, 100, 101, 102], 3, [5, 6, 7, 9]⟩ }
 else if k = 3 then { headN k with view := 1, seq := 300, batch := [wshA, wshB] }
 else if k = 4 ∨ k = 5 then { headN k with seq := 7, dig := dgt 1 }
 else if k = 6 ∨ k = 13 then { headN k with seq := 8, dig := dgt 2 }
 else if k = 7 then { headN k with change := chgN 3 }
 else if k = 8 then { headN k with view := 3, node := 4, dig := dgt 3 }
 else if k = 9 then { headN k with view := 3, changes := [chgN 1, chgN 3, chgN 4], picks := [⟨5, dig0, []⟩, ⟨6, dgt 3, [wshA, wshB]⟩] }
 else if k = 10 then { headN k with seq := 8, dig := dgt 2, level := 1, place := 2 }
 else if k = 11 then { headN k with seq := 8, dig := dgt 2, digs := [dgt 5, dgt 6], data := [108, 101, 97, 102] }
 else if k = 12 then { headN k with nodes := [5, 6, 7, 9] }
 else if k = 16 then { headN k with batch := [wshA, wshB] }
 else { headN k with seq := 6, batch := [wshA, wshB] }
end Go.Proofs.YtkdoomglflikkaaGreat
