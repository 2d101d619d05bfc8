/- What each of these functions computes, for every argument that its theorem names; a part of what the proof of NotePacks stands on. -/
import Derived.Test.YtkdoomglflikkaaGreatQac
import Derived.Test.YtkdoomglflikkaaGreatQad
import Derived.Test.YtkdoomglflikkaaGreatQae
import Derived.Test.YtkdoomglflikkaaGreatQag
import Derived.Test.YtkdoomglflikkaaGreatQah
namespace Go.Proofs.YtkdoomglflikkaaGreat
open Go.RowKit Go.Eng Go.Eng _root_.Go.Proofs.Tryz
set_option maxRecDepth 100000
variable {w0 w : World} {M0 Fz : Nat → Prop} {H : List It} {A : Option Addr} {c : Nat}
theorem standR_el {S : Nat → Prop} {w : World} {A : Option Addr} {c : Nat} {l : List Stn} (h : GS standR S w A c l) (i : Nat) (hi : i < l.length) : ∃ a, A = some a ∧ AtF S w (a.add (i * 34)) ([.int .i64 (l.getD i stand0).seq] ++ (digC (l.getD i stand0).dig ++ ([.int .i64 (l.getD i stand0).view]))) ∧ StnI (l.getD i stand0) := by
 obtain ⟨a, cs, h1, h2, hI, rfl⟩ := GS.el h i hi
 have e : (l.getD i stand0) = l[i] := by rw [List.getD_eq_getElem?_getD, List.getElem?_eq_getElem hi]; rfl
 rw [e]
 exact ⟨a, h1, h2, hI⟩
def pickR : Rep Pck where
 size := 34
 rd := fun S w cs x => PckI x ∧ ∃ A0 c0, cs = [.int .i64 x.seq] ++ (digC x.dig ++ ([.slice A0 x.batch.length c0])) ∧ GS wishR S w A0 c0 x.batch
 len := by rintro _ _ _ _ ⟨hI, A0, c0, rfl, k0⟩; rfl
 one := by rintro _ _ _ _ ⟨hI, A0, c0, rfl, k0⟩; exact List.all_eq_true.1 rfl
 keep := by rintro _ _ _ _ _ _ ch hm ⟨hI, A0, c0, rfl, k0⟩; exact ⟨hI, _, _, rfl, k0.keep ch hm⟩
 mono := by rintro _ _ _ _ _ hs ⟨hI, A0, c0, rfl, k0⟩; exact ⟨hI, _, _, rfl, k0.mono hs⟩
end Go.Proofs.YtkdoomglflikkaaGreat
namespace Go.Proofs.YtkdoomglflikkaaGreat
open Go.ChangeShapes Go.WideShapes Go.ChangeAt Go.RowKit Go.Eng Go.Eng _root_.Go.Proofs.Tryz
set_option maxRecDepth 100000
variable {w0 w : World} {M0 Fz : Nat → Prop} {H : List It} {A : Option Addr} {c : Nat}
theorem reads_Mrk : ReadsR Tryz.prog 95 markR (fun _ => True) := by
 intro H enc w base sp held fuel cs x h hlt hw
 have hlen := trod_structLen Tryz.underlying95 h
 rw [Tryz.ce95] at hlen
 obtain ⟨v0, h0, g0⟩ := reads_field Tryz.underlying95 (i := 0) rfl (reads_int Tryz.underlying3) h hlt hw
 replace h0 : intR.rd _ _ ((cs.drop 0).take (Tryz.prog.cellsOf 3)) v0 := h0
 rw [Tryz.ce3] at h0
 have e0 : (cs.drop 0).take 1 = [.int .i64 v0] := h0
 obtain ⟨v1, h1, g1⟩ := reads_field Tryz.underlying95 (i := 1) rfl reads_t23 h hlt hw
 replace h1 : digR.rd _ _ ((cs.drop 1).take (Tryz.prog.cellsOf 23)) v1 := h1
 rw [Tryz.ce23] at h1
 have e1 : (cs.drop 1).take 32 = digC v1 := h1
 have e := (List.drop_zero (l := cs)).symm
 rw [seg_cons (m := 1) rfl e0] at e
 rw [seg_cons (m := 33) rfl e1] at e
 rw [List.drop_eq_nil_of_le (by rw [hlen]; exact Nat.le_refl _)] at e
 refine ⟨{ seq := v0, dig := v1 }, ?_, trivial⟩
 refine ⟨by unfold MrkI i64; dsimp only; omega, e.trans (by (try simp only [List.cons_append, List.nil_append, List.append_nil]); try rfl)⟩
theorem reads_t36 : ReadsR Tryz.prog 36 (sliceR digR) (fun l => l.length * 32 ≤ 140737488355328) := fun H enc w base sp held fuel cs x h hl hw => by
 obtain ⟨v, h1, h2⟩ := reads_slice (size := 32) (bytes := 32) Tryz.underlying36 rfl (by decide) Tryz.ce23 Tryz.by23 (by decide) reads_t23 H enc w base sp held fuel cs x h hl hw
 exact ⟨v, h1, h2.2⟩
end Go.Proofs.YtkdoomglflikkaaGreat
namespace Go.Proofs.YtkdoomglflikkaaGreat
open Go.RowKit Go.Eng Go.Eng _root_.Go.Proofs.Tryz
set_option maxRecDepth 100000
variable {w0 w : World} {M0 Fz : Nat → Prop} {H : List It} {A : Option Addr} {c : Nat}
theorem rnum_ok {n : Int} (h1 : -9223372036854775808 ≤ n) (h2 : n ≤ 9223372036854775807) : Ret prog 74 #[.int .i64 n] w (fun v w' => ∃ A c, v = .tuple #[.slice A (numS n).1.length c, .int .i64 (numS n).2] ∧ OwnB 5 w.heap.size w' A c (numS n).1 ∧ Ext w w') := by
 refine ret_of_wk func74 rfl ntmps74 leB_ ?_
 refine go ?_
 refine Ls_ rfl rfl (go ?_)
 refine Gs 7 (fun hg => ?_) fun hg => ?_
 refine go ?_
 refine wc_cond_t rfl (go ?_)
 refine P2 results74 ?_
 exact ⟨_, rfl, none, 0, by rw [numS, if_pos (by omega)]; rfl, by rw [numS, if_pos (by omega)]; exact OwnRow.nil _ _ _ _ _, Chg.refl _ _⟩
 refine go ?_
 refine Gt_ rfl rfl (go ?_)
 refine Cd (fun hc => ?_) fun hc => ?_
 refine go ?_
 refine P2 results74 ?_
 exact ⟨_, rfl, none, 0, by rw [numS, if_pos (by omega)]; rfl, by rw [numS, if_pos (by omega)]; exact OwnRow.nil _ _ _ _ _, Chg.refl _ _⟩
 obtain ⟨N, rfl⟩ : ∃ N : Nat, n = N := ⟨n.toNat, by omega⟩
 have hs : numS (N : Int) = (numL N, 0) := by rw [numS, if_neg (by omega)]; simp
 have hN : N ≤ 9007199254740991 := by omega
 have h7:=digs_len N hN
 refine go ?_
 refine Cl_ cl119 rfl (digits_ok (N := N) (w := w) hN) ?_
 rintro _ w1 ⟨A1, c1, rfl, ho1, hE1⟩
 refine go ?_
 refine Ln_ underlying26 rfl ?_
 refine wl_conv (by decide) it3 it5 rfl (wrap_u8 _) ?_
 refine wl_bsliceB (xs := [.tmp 15]) (bs := [u8Of ((digs N).length : Int)]) (by decide) sl26 rfl rfl rfl (by simp) w1.heap.size (Nat.le_refl _) ?_
 rintro g2 w2 hg2 ho2 hE2
 refine go ?_
 refine wl_appendB (l := [u8Of ((digs N).length : Int)]) (by decide) sl26 rfl rfl ho2 (ho1.ext hE2).bs (by simp; omega) hE2.size ?_
 rintro A3 c3 w3 ho3 ch3 _
 have hE3:=(hE1.trans hE2).own ch3 hE1.size
 replace ho3:=ho3.lower hE1.size
 refine go ?_
 refine P2 results74 ?_
 have hfin : [u8Of ((digs N).length : Int)] ++ digs N = numL N := by rw [u8Of_nat]; rfl
 rw [hfin] at ho3 ⊢
 exact ⟨_, rfl, A3, c3, by rw [hs], by rw [hs]; exact ho3, hE3⟩
theorem str_ok {b : List UInt8} {Sa : Nat → Prop} (h : BS Sa w A c b) : Ret prog 181 #[.slice A b.length c] w (fun v w' => ∃ A c, v = .tuple #[.slice A (strS b).1.length c, .int .i64 (strS b).2] ∧ OwnB 5 w.heap.size w' A c (strS b).1 ∧ Ext w w') := by
 refine ret_of_wk func181 rfl ntmps181 leB_ ?_
 refine go ?_
 refine Ln_ underlying26 rfl ?_
 refine Gt_ rfl rfl (go ?_)
 refine Cd (fun hl => ?_) fun hl => ?_
 refine go ?_
 refine P2 results181 ?_
 have e : strS b = ([], 5) := by simp only [strS]; rw [if_pos (by omega)]
 exact ⟨_, rfl, none, 0, by rw [e]; try rfl, by rw [e]; exact OwnRow.nil _ _ _ _ _, Chg.refl _ _⟩
 have hns : numS (b.length : Int) = (numL b.length, 0) := by rw [numS, if_neg (by omega)]; simp
 have hnl:=numL_len b.length (by omega)
 refine go ?_
 refine Ln_ underlying26 rfl ?_
 refine Cl_ cl180 rfl (num_ok (by omega) (by omega)) ?_
 rintro _ w1 ⟨A1, c1, rfl, ho1, hE1⟩
 rw [hns] at ho1 ⊢
 refine go ?_
 refine Ne_ rfl rfl (go ?_)
 refine Cd (fun hz => ?_) fun hz => ?_
 exact absurd rfl hz
 refine go ?_
 refine wl_bslice (xs := [.tmp 18, .tmp 19]) (vs := [.slice A1 (numL b.length).length c1, .slice A b.length c]) (by decide) sl187 rfl rfl rfl (by intro v hv; simp only [List.mem_cons, List.not_mem_nil, or_false] at hv; rcases hv with rfl | rfl <;> rfl) (by simp) w1.heap.size (Nat.le_refl _) ?_
 rintro g w2 hg2 ho2 hE2
 have hat2 : At w2 ⟨g, 0, none⟩ [.slice A1 (numL b.length).length c1, .slice A b.length c] := ho2.at0
 have hgs : GS (sliceR byteR) (fun _ => True) w2 (some ⟨g, 0, none⟩) 2 [numL b.length, b] := GS.two hat2 ho2.lt0 (Nat.le_refl _) trivial (sliceR_mk ((ho1.bs.ext hE2).mono (fun _ _ _ => trivial))) (sliceR_mk (((h.ext hE1).ext hE2).mono (fun _ _ _ => trivial)))
 have hcl:=join_ok hgs (by simp; omega)
 refine Cl_ cl184 rfl hcl ?_
 clear hcl
 rintro _ w3 ⟨A3, c3, rfl, ho3, hE3⟩
 refine go ?_
 refine P2 results181 ?_
 have e : strS b = (numL b.length ++ b, 0) := by simp only [strS]; rw [if_neg (by omega)]
 have e2 : [numL b.length, b].flatten = numL b.length ++ b := by simp
 rw [e2] at ho3 ⊢
 exact ⟨_, rfl, A3, c3, by rw [e], by rw [e]; exact ho3.lower (hE1.trans hE2).size, (hE1.trans hE2).trans hE3⟩
set_option maxHeartbeats 40000000 in
theorem r11Same_ok {csa : List Value} {a : Wsh} {Sa : Nat → Prop} {csb : List Value} {b : Wsh} {Sb : Nat → Prop} (ha : wishR.rd Sa w csa a) (hb : wishR.rd Sb w csb b) : Ret prog 123 #[.agg csa.toArray, .agg csb.toArray] w (fun v w' => v = .bool (decide (a = b)) ∧ Ext w w') := by
 obtain ⟨hIa, Aa0, ca0, Aa1, ca1, rfl, ha0, ha1⟩ := ha
 obtain ⟨hIb, Ab0, cb0, Ab1, cb1, rfl, hb0, hb1⟩ := hb
 refine ret_of_wk func123 rfl ntmps123 leB_ ?_
 have hp:=HP.begin_ w
 refine so ?_
 refine Bx hp (h := fun gs2 w1 hp hE1 => ?_)
 refine Bx hp (h := fun gs3 w2 hp hE2 => so ?_)
 refine Gs 10 ?_ ?_<;>intro hg1<;>refine so ?_
 refine Gs 17 ?_ ?_<;>intro hg2<;>refine so ?_
 refine Gs 24 ?_ ?_<;>intro hg3<;>refine so ?_
 refine Gs 31 ?_ ?_<;>intro hg4<;>refine so ?_
 refine Gs 38 ?_ ?_<;>intro hg5<;>refine so ?_
 refine Gs 45 ?_ ?_<;>intro hg6<;>refine so ?_
 refine Cx hp (eqBytes_ok ha0.tn hb0.tn) fun w3 hp hE3 => so ?_
 refine Gs 52 ?_ ?_<;>intro hg7<;>refine so ?_
 refine Gs 59 ?_ ?_<;>intro hg8<;>refine so ?_
 refine Gs 66 ?_ ?_<;>intro hg9<;>refine so ?_
 refine Cx hp (eqInts_ok ha1.tn hb1.tn) fun w4 hp hE4 => so ?_
 refine Pt ?_
 exact ⟨_, rfl, congrArg Value.bool (decide_eq_decide.2 (by rw [Wsh_eq]; simp_all)), hp.chg⟩
 refine Pt ?_
 exact ⟨_, rfl, bool_f (by rw [Wsh_eq]; simp_all), hp.chg⟩
 refine Pt ?_
 exact ⟨_, rfl, bool_f (by rw [Wsh_eq]; simp_all), hp.chg⟩
 refine Pt ?_
 exact ⟨_, rfl, bool_f (by rw [Wsh_eq]; simp_all), hp.chg⟩
 refine Pt ?_
 exact ⟨_, rfl, bool_f (by rw [Wsh_eq]; simp_all), hp.chg⟩
 refine Pt ?_
 exact ⟨_, rfl, bool_f (by rw [Wsh_eq]; simp_all), hp.chg⟩
 refine Pt ?_
 exact ⟨_, rfl, bool_f (by rw [Wsh_eq]; simp_all), hp.chg⟩
 refine Pt ?_
 exact ⟨_, rfl, bool_f (by rw [Wsh_eq]; simp_all), hp.chg⟩
 refine Pt ?_
 exact ⟨_, rfl, bool_f (by rw [Wsh_eq]; simp_all), hp.chg⟩
 refine Pt ?_
 exact ⟨_, rfl, bool_f (by rw [Wsh_eq]; simp_all), hp.chg⟩
theorem t0_own11_ok {p : Prop} (h : p := by unfold WshI i64; (try simp only [wish0]); omega) : p := h
set_option maxHeartbeats 40000000 in
theorem own11_ok {S : Nat → Prop} {csw0 : List Value} {w0 : Wsh} (hw0 : wishR.rd S w csw0 w0) : Ret prog 146 #[.agg csw0.toArray] w (fun v w' => ∃ cs, v = .agg cs.toArray ∧ wishR.rd S w' cs (ownW w0) ∧ Ext w w') := by
 obtain ⟨hIw0, Aw00, cw00, Aw01, cw01, rfl, hw00, hw01⟩ := hw0
 have hJw0:=hIw0
 unfold WshI i64 at hJw0
 refine ret_of_wk func146 rfl ntmps146 leB_ ?_
 have hp:=HP.beginS w S
 replace hw00:=hw00.nowS
 replace hw01:=hw01.nowS
 refine so ?_
 refine Bx hp (h := fun gs1 w1 hp hE1 => ?_)
 refine Alo hp (h := fun gs2 w2 hp hE2 => so ?_)
 refine wl_builtS (ps := [(4, .tmp 5), (2, .tmp 7), (3, .tmp 9)]) (by decide) bld68 rfl rfl ?_
 refine Alo hp (h := fun gs3 w3 hp hE3 => ?_)
 refine Hs 0 hp (h := fun w4 hp hC4 => so ?_)
 refine Cd ?_ ?_<;>intro hc1<;>refine so ?_
 refine H1 0 hp (h := fun w5 hp hC5 => so ?_)
 refine Hs 1 hp (h := fun w6 hp hC6 => so ?_)
 refine wk_postR (rs := [.cell 2 68]) (.inl rfl) results146 ⟨_, _, _, rfl, rfl, loadVar_agg ag68 (hp.blkAt (i := 1) rfl).at0 rfl, rfl⟩ ?_
 refine ⟨_, rfl, _, rfl, ?_, hp.chg⟩
 have e9 : ownW w0 = ({ ({ wish0 with group := w0.group, epoch := w0.epoch, kind := w0.kind } : Wsh) with next := w0.next } : Wsh) := by first | (exfalso; omega) | (unfold ownW; first | rw [if_pos (by assumption)] | (rw [if_neg (by assumption), Wsh_eq]; simp [*, wish0]))
 rw [e9]
 exact ⟨t0_own11_ok, _, _, _, _, rfl, gsn, (hw01.to.wid (fun _ => And.left))⟩
 refine H1 0 hp (h := fun w7 hp hC7 => so ?_)
 refine H1 0 hp (h := fun w8 hp hC8 => so ?_)
 refine H1 0 hp (h := fun w9 hp hC9 => so ?_)
 refine Cd ?_ ?_<;>intro hc2<;>refine so ?_
 refine H1 0 hp (h := fun w10 hp hC10 => so ?_)
 refine Cd ?_ ?_<;>intro hc3<;>refine so ?_
 exact absurd hc3 (by omega)
 refine Hs 1 hp (h := fun w11 hp hC11 => so ?_)
 refine wk_postR (rs := [.cell 2 68]) (.inl rfl) results146 ⟨_, _, _, rfl, rfl, loadVar_agg ag68 (hp.blkAt (i := 1) rfl).at0 rfl, rfl⟩ ?_
 refine ⟨_, rfl, _, rfl, ?_, hp.chg⟩
 have e9 : ownW w0 = ({ ({ wish0 with group := w0.group, epoch := w0.epoch, kind := w0.kind } : Wsh) with client := w0.client, stamp := w0.stamp, block := w0.block, data := w0.data } : Wsh) := by first | (exfalso; omega) | (unfold ownW; first | rw [if_pos (by assumption)] | (rw [if_neg (by assumption), Wsh_eq]; simp [*, wish0]))
 rw [e9]
 exact ⟨t0_own11_ok, _, _, _, _, rfl, (hw00.to.wid (fun _ => And.left)), gsn⟩
 refine Cd ?_ ?_<;>intro hc4<;>refine so ?_
 refine H1 0 hp (h := fun w12 hp hC12 => so ?_)
 refine H1 0 hp (h := fun w13 hp hC13 => so ?_)
 refine Hs 1 hp (h := fun w14 hp hC14 => so ?_)
 refine wk_postR (rs := [.cell 2 68]) (.inl rfl) results146 ⟨_, _, _, rfl, rfl, loadVar_agg ag68 (hp.blkAt (i := 1) rfl).at0 rfl, rfl⟩ ?_
 refine ⟨_, rfl, _, rfl, ?_, hp.chg⟩
 have e9 : ownW w0 = ({ w0 with group := ({ wish0 with group := w0.group, epoch := w0.epoch, kind := w0.kind } : Wsh).group, epoch := ({ wish0 with group := w0.group, epoch := w0.epoch, kind := w0.kind } : Wsh).epoch, kind := ({ wish0 with group := w0.group, epoch := w0.epoch, kind := w0.kind } : Wsh).kind, data := ({ wish0 with group := w0.group, epoch := w0.epoch, kind := w0.kind } : Wsh).data, next := ({ wish0 with group := w0.group, epoch := w0.epoch, kind := w0.kind } : Wsh).next } : Wsh) := by first | (exfalso; omega) | (unfold ownW; first | rw [if_pos (by assumption)] | (rw [if_neg (by assumption), Wsh_eq]; simp [*, wish0]))
 rw [e9]
 exact ⟨t0_own11_ok, _, _, _, _, rfl, gsn, gsn⟩
 refine Hs 1 hp (h := fun w15 hp hC15 => so ?_)
 refine wk_postR (rs := [.cell 2 68]) (.inl rfl) results146 ⟨_, _, _, rfl, rfl, loadVar_agg ag68 (hp.blkAt (i := 1) rfl).at0 rfl, rfl⟩ ?_
 refine ⟨_, rfl, _, rfl, ?_, hp.chg⟩
 have e9 : ownW w0 = ({ ({ wish0 with group := w0.group, epoch := w0.epoch, kind := w0.kind } : Wsh) with client := w0.client, stamp := w0.stamp, block := w0.block } : Wsh) := by first | (exfalso; omega) | (unfold ownW; first | rw [if_pos (by assumption)] | (rw [if_neg (by assumption), Wsh_eq]; simp [*, wish0]))
 rw [e9]
 exact ⟨t0_own11_ok, _, _, _, _, rfl, gsn, gsn⟩
set_option maxHeartbeats 4000000 in
theorem WishMay_iff {w : Wsh} : WishMay w ↔ WQ w ∧ WKd w := by
 unfold WishMay WQ WKd
 rw [ownW_iff]
 by_cases hnm : nextMay w.next <;> simp only [hnm, and_true, and_false, or_false, false_or] <;> omega
set_option maxHeartbeats 4000000 in
theorem fits1_ok {n : Int} {w : World}  : Ret Tryz.prog 107 #[.int .i64 n] w (fun v w' => v = .bool (decide (¬ (1 ≤ n ∧ n ≤ 28))) ∧ w' = w) := by
 refine ret_of_wk Tryz.func107 rfl Tryz.ntmps107 (Nat.le_of_ble_eq_true rfl) ?_
 refine wc_seq ?_
 refine wc_region ?_
 refine wl_assign (by decide) rfl ?_
 refine wl_nil ?_
 refine wk_norm ?_
 refine wc_seq ?_
 refine wc_region ?_
 refine wl_move (by decide) rfl ?_
 refine wl_call (by decide) Tryz.cl63 rfl (n_isNode) ?_
 rintro _ _ ⟨rfl, rfl⟩
 first | refine wl_notd (by decide) rfl ?_ | refine wl_not (by decide) rfl ?_
 refine wl_assign (by decide) rfl ?_
 refine wl_nil ?_
 refine wk_norm ?_
 refine wc_ret ?_
 refine wk_post1 (.inl rfl) Tryz.results107 rfl ?_
 exact ⟨_, rfl, rfl, rfl⟩
set_option maxHeartbeats 40000000 in
theorem orI_ok {Al : Option Addr} {cl : Nat} {l : List Int} {Sl : Nat → Prop} (hl : GS intR Sl w Al cl l) : Ret prog 148 #[.slice Al l.length cl] w (fun v w' => v = .int .i64 (orI l) ∧ w' = w) := by
 have mhl:=hl.mx
 refine ret_of_wk func148 rfl ntmps148 leB_ ?_
 refine so ?_
 refine Lp [3, 6, 7, 8] (fun L' w' mes => ∃ (k : Nat), L' = [(3, iv 0), (6, .slice Al l.length cl), (7, iv (l.length : Int)), (8, iv (k : Int))] ∧ (k ≤ l.length) ∧ (orI l = orI (l.drop k)) ∧ (w = w') ∧ l.length - k = mes) (l.length - 0) (by
     refine ⟨0, rfl, by omega, ?_, ?_, rfl⟩
     rfl
     rfl) ?_
 rintro _ wr _ ⟨k, rfl, hk, hor, hw_, rfl⟩ KL1 hKL1
 subst hw_
 refine so ?_
 refine Cd ?_ ?_<;>intro hc1<;>refine so ?_
 obtain ⟨ae1, hAe1, hate1⟩ := GS.elI hl k (by omega)
 refine so ?_
 refine Cd ?_ ?_<;>intro hc2<;>refine so ?_
 refine Pt ?_
 exact ⟨_, rfl, congrArg (Value.int .i64) (by rw [hor, orI_step (by omega), if_neg (by omega)]), rfl⟩
 refine Kl [3, 6, 7, 8] hKL1 (l.length - (k + 1)) ⟨(k + 1), rfl, by omega, ?_, ?_, rfl⟩ (by omega)
 rw [hor, orI_step (by omega), if_pos (by omega)]
 rfl
 refine Pt ?_
 exact ⟨_, rfl, congrArg (Value.int .i64) (by rw [hor, show k = l.length by omega, List.drop_length]; rfl), rfl⟩
theorem SeenF.val {f : Value → Option Value} {l : List Stn} (h : SeenF f l) (s : Int) (g : Dig) : (f (keyM s g)).getD (.int .i64 0) = .int .i64 (cntM l s g : Nat) := by
 rw [h s g]; by_cases e : cntM l s g = 0 <;> simp [e]
theorem SeenF.nil : SeenF (fun _ => none) [] := fun s g => by simp [cntM]
theorem marks_fwd {cg : Chn} (h : MarksRise cg.marks) : RiseI (mseq cg cg.marks.length) := fun i hi h0 => by
 rw [mseq_len (Nat.le_refl _)] at hi
 rw [mseq_get (by omega), mseq_get (by omega)]
 exact (h i hi h0).1
theorem nodes_rise {n : Nte} : RiseI (mnode n n.changes.length) ↔ ∀ i, i < n.changes.length → 0 < i → (n.changes.getD (i - 1) change0).node < (n.changes.getD i change0).node := by
 have hl := mnode_len (n := n) (Nat.le_refl _)
 constructor
 ·intro h i hi h0
  have := h i (by omega) h0
  rw [mnode_get (by omega), mnode_get (by omega)] at this
  exact this
 ·intro h i hi h0
  rw [hl] at hi
  rw [mnode_get (by omega), mnode_get (by omega)]
  exact h i hi h0
set_option maxHeartbeats 40000000 in
theorem nNum_ok {gr : Nat} {l : List UInt8} {bad : Bool} {X : List Value → It} {pX : Addr} {v0 : Int} (hp : HP w0 M0 Fz w (itB gr 103 [.slice A l.length c, .bool bad] :: X ([.int .i64 v0]) :: H)) (hS : Slot X pX 1) (hl : GS byteR Fz w A c l) (hv0 : i64 v0) : Ret prog 188 #[.pointer (some ⟨gr, 0, none⟩), .pointer (some pX)] w (RdP 103 gr w0 M0 Fz w H X i64R numP bad l) := by
 refine ret_of_wk func188 rfl ntmps188 leB_ ?_
 refine so ?_
 refine Ce (takeNum_ok hl) ?_
 rintro _ w1 ⟨A1, c1, rfl, ho1, hE1⟩
 replace ho1:=ho1.bs
 have hsz2:=hp.chg.size
 obtain ⟨Fz2, hp2, hsub2, hnew2, hup2⟩ := hp.frz hE1
 replace hp:=hp2
 replace ho1:=ho1.frz hnew2
 refine so ?_
 refine Ce (nTook_ok (e := (takeS l).2.2) hp hl.to ho1) ?_
 rintro _ w3 ⟨b3, A3, c3, l3, rfl, hb3, hn3, hp, hF3, hl3⟩
 refine so ?_
 refine Cd ?_ ?_<;>intro ht<;>refine so ?_
 refine wl_sstore1 0 (i := 1) hS (by rw [add_zero']; rfl) rfl hp rfl rfl sz3 (by decide) rfl ?_
 rintro w4 hp hC4
 replace hp:=hp.ay (_ :: X ([iv ((takeS l).1)]) :: _)
 refine so ?_
 refine wk_post0 (.inr rfl) results188  ?_
 have hlm:=takeS_lim l
 exact ⟨_, rfl, _, A3, c3, l3, b3, _, _, hp, mv, hl3.to, ⟨⟨by omega, by omega⟩, rfl⟩, step_num hb3 (fun h => ⟨hn3 h, rfl⟩)⟩
 refine wk_post0 (.inr rfl) results188  ?_
 exact ⟨_, rfl, _, A3, c3, l3, b3, _, _, hp, mv, hl3, ⟨hv0, rfl⟩, step_num hb3 (fun h => absurd ht (by simp [h]))⟩
set_option maxHeartbeats 40000000 in
theorem nDigest_ok {gr : Nat} {l : List UInt8} {bad : Bool} {X : List Value → It} {pX : Addr} {d0 : Dig} (hp : HP w0 M0 Fz w (itB gr 103 [.slice A l.length c, .bool bad] :: X (digC d0) :: H)) (hS : Slot X pX 32) (hl : GS byteR Fz w A c l) : Ret prog 186 #[.pointer (some ⟨gr, 0, none⟩), .pointer (some pX)] w (RdP 103 gr w0 M0 Fz w H X digR digP bad l) := by
 refine ret_of_wk func186 rfl ntmps186 leB_ ?_
 refine so ?_
 refine Ce (takeFix_ok (n := 32) hl (by omega) (by omega)) ?_
 rintro _ w1 ⟨A1, c1, B1, d1, rfl, ho1, hq1, hE1⟩
 replace ho1:=ho1.bs
 replace hq1:=hq1.bs
 have hsz2:=hp.chg.size
 obtain ⟨Fz2, hp2, hsub2, hnew2, hup2⟩ := hp.frz hE1
 replace hp:=hp2
 replace ho1:=ho1.frz hnew2
 replace hq1:=hq1.frz hnew2
 refine so ?_
 refine Ce (nTook_ok (e := (fixS l 32).2.2) hp hl.to hq1) ?_
 rintro _ w3 ⟨b3, A3, c3, l3, rfl, hb3, hn3, hp, hF3, hl3⟩
 replace ho1:=ho1.fz hF3.chg
 refine so ?_
 refine Cd ?_ ?_<;>intro ht
 have hb0 : b3 = false := by cases b3 with
   | false => rfl
   | true => cases ht
 have he0 : (fixS l 32).2.2 = 0 := by
   have h9 := hb3
   rw [hb0] at h9
   exact Decidable.not_not.1 (of_decide_eq_false (Bool.or_eq_false_iff.1 h9.symm).2)
 have h32:=fix32 he0
 obtain ⟨hcA, hcN⟩ := GS.cells1 (he := fun _ => rfl) ho1
 refine so ?_
 refine wl_arrAt (by decide) ar23 rfl (by omega) ?_
 obtain ⟨a9, rfl⟩ : ∃ a, A1 = some a := by
   cases A1 with
   | none => have := hcN rfl; rw [this] at h32; cases h32
   | some a => exact ⟨a, rfl⟩
 have hat9:=hcA a9 rfl
 rw [show (fixS l 32).1.map (fun b => bv b) = digC ⟨(fixS l 32).1, h32⟩ from (digC_map ⟨(fixS l 32).1, h32⟩).symm] at hat9
 refine wl_loadA (by decide) ag23 rfl hat9 rfl ?_
 refine so ?_
 refine wl_sstore (o := 0) (i := 1) hS (by rw [add_zero']; rfl) rfl hp rfl rfl sz23 (Nat.ne_of_gt (Nat.lt_of_lt_of_le Nat.zero_lt_one leB_)) leB_ (List.all_eq_true.1 rfl) ?_
 rintro w4 hp hC4
 refine so ?_
 refine wk_post0 (.inr rfl) results186  ?_
 exact ⟨_, rfl, _, A3, c3, l3, b3, _, ⟨(fixS l 32).1, h32⟩, hp, mv, hl3.to, rfl, step_dig hb3 (fun h => ⟨hn3 h, rfl⟩)⟩
 refine so ?_
 refine wk_post0 (.inr rfl) results186  ?_
 exact ⟨_, rfl, _, A3, c3, l3, b3, _, d0, hp, mv, hl3, rfl, step_dig hb3 (fun h => absurd ht (by simp [h]))⟩
set_option maxHeartbeats 40000000 in
theorem wNum_ok {gr : Nat} {l : List UInt8} {e : Int} (hp : HP w0 M0 Fz w (itB gr 207 [.slice A l.length c, .int .i64 e] :: H)) (hl : GS byteR Fz w A c l) : Ret prog 200 #[.pointer (some ⟨gr, 0, none⟩)] w (RvE 207 gr w0 M0 Fz w H i64R false numP e l) := by
 refine ret_of_wk func200 rfl ntmps200 leB_ ?_
 refine so ?_
 refine Cd ?_ ?_<;>intro hc1<;>refine so ?_
 refine Ce (takeNum_ok hl) ?_
 rintro _ w1 ⟨A1, c1, rfl, ho1, hE1⟩
 replace ho1:=ho1.bs
 have hsz2:=hp.chg.size
 obtain ⟨Fz2, hp2, hsub2, hnew2, hup2⟩ := hp.frz hE1
 replace hp:=hp2
 replace ho1:=ho1.frz hnew2
 refine so ?_
 refine H1 0 hp (h := fun w3 hp hC3 => ?_)
 replace hp:=hp.ay (itB gr 207 ([.slice A1 (takeS l).2.1.length c1, iv e]) :: _)
 refine so ?_
 refine H1 0 hp (h := fun w4 hp hC4 => ?_)
 replace hp:=hp.ay (itB gr 207 ([.slice A1 (takeS l).2.1.length c1, iv ((takeS l).2.2)]) :: _)
 refine so ?_
 refine Pt ?_
 have hlm:=takeS_lim l
 exact ⟨_, rfl, _, A1, c1, (takeS l).2.1, ((takeS l).2.2), _, (takeS l).1, rfl, (hp.up 0 rfl), mv, ho1.to, ⟨⟨by omega, by omega⟩, rfl⟩, step_num (by first | rfl | (simp_all; done) | (simp_all; omega)) (fun h => by first | exact ⟨rfl, rfl⟩ | (simp_all; done))⟩
 refine Pt ?_
 have hlm:=takeS_lim l
 exact ⟨_, rfl, _, A, c, l, e, _, 0, rfl, (hp.up 0 rfl), mv, hl, ⟨⟨by omega, by omega⟩, rfl⟩, step_num (by first | rfl | (simp_all; done) | (simp_all; omega)) (fun h => by first | exact ⟨rfl, rfl⟩ | (simp_all; done))⟩
theorem unb_no {l lR : List UInt8} {eR e2 : Int} {x : List Wsh} (h : StepP blistP (some l) (rst (decide (eR ≠ 0)) lR) x) (hen : e2 = if eR = 0 ∧ 0 < lR.length then 4 else eR) (h2 : e2 ≠ 0) : unbS l = none := by
 have h0 := (not_congr (end_E hen)).1 h2
 cases hs : rst (decide (eR ≠ 0)) lR with
 | none => rw [hs] at h; exact unb_fail h
 | some u =>
  rw [hs] at h h0
  have h1 : blistP l = some (x, u) := h
  unfold unbS
  rw [h1]
  exact if_neg (fun hh => h0 (by rw [hh]))
theorem step_witem_no {bad : Bool} {l l' s : List UInt8} {e eP : Int} {x : Wsh} (h : StepP (strP 256) (rst bad l) (rst (decide (e ≠ 0)) l') s) (hh : e ≠ 0 ∨ (¬ e ≠ 0 ∧ ParseR s x eP ∧ eP ≠ 0)) : StepP witemP (rst bad l) none wish0 := by
 rcases hh with he | ⟨he, hp, heP⟩
 ·rw [show decide (e ≠ 0) = true from decide_eq_true he] at h
  cases bad with
  | true => rfl
  | false =>
   have h1 : strP 256 l = none := h
   show witemP l = none
   unfold witemP boxP
   rw [h1]
 ·rw [show decide (e ≠ 0) = false from decide_eq_false he] at h
  cases bad with
  | true => rfl
  | false =>
   have h1 : strP 256 l = some (s, l') := h
   show witemP l = none
   unfold witemP boxP
   rw [h1]
   rcases hp with ⟨hz, _⟩ | ⟨_, hp, _⟩
   ·exact absurd hz heP
   ·unfold parseS at hp
    cases hw : wishP s with
    | none => simp only [hw]
    | some v =>
     obtain ⟨y, u⟩ := v
     simp only [hw] at hp ⊢
     by_cases hc : u = [] ∧ WishMay y
     ·rw [if_pos hc] at hp; cases hp
     ·rw [if_neg hc]
theorem step_batch {bad b' b2 : Bool} {l l' s : List UInt8} {xs x : List Wsh} {e : Int} (h : StepP (strP 65536) (rst bad l) (rst b' l') s) (hu : UnbR s xs e) (hb : b2 = (b' || decide (e ≠ 0))) (hx : b2 = false → x = xs) : StepP batchP (rst bad l) (rst b2 l') x := by
 have key : ∀ {l : List UInt8}, strP 65536 l = none → batchP l = none := fun hn => by unfold batchP boxP; rw [hn]
 cases bad with
 | true =>
   have hb' : b' = true := by cases b' with
     | true => rfl
     | false => cases h
   subst hb'
   rw [Bool.true_or] at hb
   subst hb
   rfl
 | false =>
   cases b' with
   | true =>
     rw [Bool.true_or] at hb
     subst hb
     exact key h
   | false =>
     have h1 : strP 65536 l = some (s, l') := h
     rw [Bool.false_or] at hb
     rcases hu with ⟨he, hu⟩ | ⟨he, hu, _⟩
     · have hb0 : b2 = false := by rw [hb]; simp [he]
       rw [hx hb0]
       subst hb0
       show batchP l = some (xs, l')
       unfold unbS at hu
       unfold batchP boxP
       rw [h1]
       cases hw : blistP s with
       | none => rw [hw] at hu; cases hu
       | some v =>
         obtain ⟨y, u⟩ := v
         simp only [hw] at hu ⊢
         by_cases hc : u = []
         · rw [if_pos hc] at hu; cases hu; rw [if_pos ⟨hc, trivial⟩]
         · rw [if_neg hc] at hu; cases hu
     · have hb0 : b2 = true := by rw [hb]; simp [he]
       subst hb0
       show batchP l = none
       unfold unbS at hu
       unfold batchP boxP
       rw [h1]
       cases hw : blistP s with
       | none => simp only [hw]
       | some v =>
         obtain ⟨y, u⟩ := v
         simp only [hw] at hu ⊢
         by_cases hc : u = []
         · rw [if_pos hc] at hu; cases hu
         · rw [if_neg (fun hh => hc hh.1)]
end Go.Proofs.YtkdoomglflikkaaGreat
namespace Go.Proofs.YtkdoomglflikkaaGreat
open Go.ChangeShapes Go.WideShapes Go.ChangeAt Go.RowKit Go.Eng Go.Eng _root_.Go.Proofs.Tryz
set_option maxRecDepth 100000
variable {w0 w : World} {M0 Fz : Nat → Prop} {H : List It} {A : Option Addr} {c : Nat}
theorem reads_AnsB : ReadsR Tryz.prog 29 ansR (fun x => x.nodes.length * 8 ≤ 140737488355328) := by
  intro H enc w base sp held fuel cs x h hlt hw
  have hlen := trod_structLen Tryz.underlying29 h
  rw [Tryz.ce29] at hlen
  obtain ⟨v0, h0, g0⟩ := reads_field Tryz.underlying29 (i := 0) rfl (reads_int Tryz.underlying25) h hlt hw
  replace h0 : intR.rd _ _ ((cs.drop 0).take (Tryz.prog.cellsOf 25)) v0 := h0
  rw [Tryz.ce25] at h0
  have e0 : (cs.drop 0).take 1 = [.int .i64 v0] := h0
  obtain ⟨v1, h1, g1⟩ := reads_field Tryz.underlying29 (i := 1) rfl reads_t26 h hlt hw
  replace h1 : (sliceR byteR).rd _ _ ((cs.drop 1).take (Tryz.prog.cellsOf 26)) v1 := h1
  rw [Tryz.ce26] at h1
  obtain ⟨A1, c1, e1, k1⟩ := h1
  obtain ⟨v2, h2, g2⟩ := reads_field Tryz.underlying29 (i := 2) rfl (reads_int Tryz.underlying3) h hlt hw
  replace h2 : intR.rd _ _ ((cs.drop 2).take (Tryz.prog.cellsOf 3)) v2 := h2
  rw [Tryz.ce3] at h2
  have e2 : (cs.drop 2).take 1 = [.int .i64 v2] := h2
  obtain ⟨v3, h3, g3⟩ := reads_field Tryz.underlying29 (i := 3) rfl reads_t27 h hlt hw
  replace h3 : (sliceR intR).rd _ _ ((cs.drop 3).take (Tryz.prog.cellsOf 27)) v3 := h3
  rw [Tryz.ce27] at h3
  obtain ⟨A3, c3, e3, k3⟩ := h3
  have e := (List.drop_zero (l := cs)).symm
  rw [seg_cons (m := 1) rfl e0] at e
  rw [seg_cons (m := 2) rfl e1] at e
  rw [seg_cons (m := 3) rfl e2] at e
  rw [seg_cons (m := 4) rfl e3] at e
  rw [List.drop_eq_nil_of_le (by rw [hlen]; exact Nat.le_refl _)] at e
  refine ⟨{ err := v0, data := v1, epoch := v2, nodes := v3 }, ?_, g3⟩
  refine ⟨by unfold AnsI i64; dsimp only; omega, _, _, _, _, e.trans (by (try simp only [List.cons_append, List.nil_append, List.append_nil]); try rfl), k1, k3⟩
end Go.Proofs.YtkdoomglflikkaaGreat
namespace Go.Proofs.YtkdoomglflikkaaGreat
open Go.RowKit Go.Eng Go.Eng _root_.Go.Proofs.Tryz
set_option maxRecDepth 100000
variable {w0 w : World} {M0 Fz : Nat → Prop} {H : List It} {A : Option Addr} {c : Nat}
def chgN (node : Int) : Chn := ⟨node, 3, 4, [⟨4, dgt 9⟩, ⟨8, dgt 8⟩], stdP, stdQ⟩
theorem wish_body (x : Wsh) : wishE x = bodyW x ++ flatE numE x.next := by simp [wishE, bodyW, headE, listE]
end Go.Proofs.YtkdoomglflikkaaGreat
