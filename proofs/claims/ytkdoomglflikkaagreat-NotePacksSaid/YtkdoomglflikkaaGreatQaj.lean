/- What each of these functions computes, for every argument that its theorem names; a part of what the proof of NotePacks stands on. -/
import Derived.Test.YtkdoomglflikkaaGreatQac
import Derived.Test.YtkdoomglflikkaaGreatQad
import Derived.Test.YtkdoomglflikkaaGreatQae
import Derived.Test.YtkdoomglflikkaaGreatQag
import Derived.Test.YtkdoomglflikkaaGreatQah
namespace Go.Proofs.YtkdoomglflikkaaGreat
open Go.RowKit Go.Eng Go.Eng _root_.Go.Proofs.Tryz
set_option maxRecDepth 100000
variable {w0 w : World} {M0 Fz : Nat → Prop} {H : List It} {A : Option Addr} {c : Nat}
theorem wishR_el {S : Nat → Prop} {w : World} {A : Option Addr} {c : Nat} {l : List Wsh} (h : GS wishR S w A c l) (i : Nat) (hi : i < l.length) : ∃ a A0 c0 A1 c1, A = some a ∧ AtF S w (a.add (i * 10)) ([.int .i64 (l.getD i wish0).client, .int .i64 (l.getD i wish0).stamp, .int .i64 (l.getD i wish0).group, .int .i64 (l.getD i wish0).epoch, .int .i64 (l.getD i wish0).kind, .int .i64 (l.getD i wish0).block, .slice A0 (l.getD i wish0).data.length c0, .int .i64 (l.getD i wish0).old, .int .i64 (l.getD i wish0).new, .slice A1 (l.getD i wish0).next.length c1]) ∧ WshI (l.getD i wish0) ∧ GS byteR S w A0 c0 (l.getD i wish0).data ∧ GS intR S w A1 c1 (l.getD i wish0).next := by
 obtain ⟨a, cs, h1, h2, hI, A0, c0, A1, c1, rfl, k0, k1⟩ := GS.el h i hi
 have e : (l.getD i wish0) = l[i] := by rw [List.getD_eq_getElem?_getD, List.getElem?_eq_getElem hi]; rfl
 rw [e]
 exact ⟨a, _, _, _, _, h1, h2, hI, k0, k1⟩
theorem markR_el {S : Nat → Prop} {w : World} {A : Option Addr} {c : Nat} {l : List Mrk} (h : GS markR S w A c l) (i : Nat) (hi : i < l.length) : ∃ a, A = some a ∧ AtF S w (a.add (i * 33)) ([.int .i64 (l.getD i mark0).seq] ++ (digC (l.getD i mark0).dig)) ∧ MrkI (l.getD i mark0) := by
 obtain ⟨a, cs, h1, h2, hI, rfl⟩ := GS.el h i hi
 have e : (l.getD i mark0) = l[i] := by rw [List.getD_eq_getElem?_getD, List.getElem?_eq_getElem hi]; rfl
 rw [e]
 exact ⟨a, h1, h2, hI⟩
def changeR : Rep Chn where
 size := 6
 rd := fun S w cs x => ChnI x ∧ ∃ A0 c0 A1 c1 A2 c2, cs = [.int .i64 x.node, .int .i64 x.view, .int .i64 x.low, .slice A0 x.marks.length c0, .slice A1 x.p.length c1, .slice A2 x.q.length c2] ∧ GS markR S w A0 c0 x.marks ∧ GS standR S w A1 c1 x.p ∧ GS standR S w A2 c2 x.q
 len := by rintro _ _ _ _ ⟨hI, A0, c0, A1, c1, A2, c2, rfl, k0, k1, k2⟩; rfl
 one := by rintro _ _ _ _ ⟨hI, A0, c0, A1, c1, A2, c2, rfl, k0, k1, k2⟩; exact List.all_eq_true.1 rfl
 keep := by rintro _ _ _ _ _ _ ch hm ⟨hI, A0, c0, A1, c1, A2, c2, rfl, k0, k1, k2⟩; exact ⟨hI, _, _, _, _, _, _, rfl, k0.keep ch hm, k1.keep ch hm, k2.keep ch hm⟩
 mono := by rintro _ _ _ _ _ hs ⟨hI, A0, c0, A1, c1, A2, c2, rfl, k0, k1, k2⟩; exact ⟨hI, _, _, _, _, _, _, rfl, k0.mono hs, k1.mono hs, k2.mono hs⟩
theorem StnI.fit {x : Stn} (h : StnI x) : FitK (some .i64 :: (List.replicate 32 (some .u8) ++ [some .i64])) ([.int .i64 x.seq] ++ (digC x.dig ++ ([.int .i64 x.view]))) :=
 FitK.cons (fit_int h.1.1 h.1.2) ((digC_fit x.dig).append (FitK.cons (fit_int h.2.1 h.2.2) FitK.nil))
end Go.Proofs.YtkdoomglflikkaaGreat
namespace Go.Proofs.YtkdoomglflikkaaGreat
open Go.ChangeShapes Go.WideShapes Go.ChangeAt Go.RowKit Go.Eng Go.Eng _root_.Go.Proofs.Tryz
set_option maxRecDepth 100000
variable {w0 w : World} {M0 Fz : Nat → Prop} {H : List It} {A : Option Addr} {c : Nat}
theorem reads_Stn : ReadsR Tryz.prog 97 standR (fun _ => True) := by
 intro H enc w base sp held fuel cs x h hlt hw
 have hlen := trod_structLen Tryz.underlying97 h
 rw [Tryz.ce97] at hlen
 obtain ⟨v0, h0, g0⟩ := reads_field Tryz.underlying97 (i := 0) rfl (reads_int Tryz.underlying3) h hlt hw
 replace h0 : intR.rd _ _ ((cs.drop 0).take (Tryz.prog.cellsOf 3)) v0 := h0
 rw [Tryz.ce3] at h0
 have e0 : (cs.drop 0).take 1 = [.int .i64 v0] := h0
 obtain ⟨v1, h1, g1⟩ := reads_field Tryz.underlying97 (i := 1) rfl reads_t23 h hlt hw
 replace h1 : digR.rd _ _ ((cs.drop 1).take (Tryz.prog.cellsOf 23)) v1 := h1
 rw [Tryz.ce23] at h1
 have e1 : (cs.drop 1).take 32 = digC v1 := h1
 obtain ⟨v2, h2, g2⟩ := reads_field Tryz.underlying97 (i := 2) rfl (reads_int Tryz.underlying3) h hlt hw
 replace h2 : intR.rd _ _ ((cs.drop 33).take (Tryz.prog.cellsOf 3)) v2 := h2
 rw [Tryz.ce3] at h2
 have e2 : (cs.drop 33).take 1 = [.int .i64 v2] := h2
 have e := (List.drop_zero (l := cs)).symm
 rw [seg_cons (m := 1) rfl e0] at e
 rw [seg_cons (m := 33) rfl e1] at e
 rw [seg_cons (m := 34) rfl e2] at e
 rw [List.drop_eq_nil_of_le (by rw [hlen]; exact Nat.le_refl _)] at e
 refine ⟨{ seq := v0, dig := v1, view := v2 }, ?_, trivial⟩
 refine ⟨by unfold StnI i64; dsimp only; omega, e.trans (by (try simp only [List.cons_append, List.nil_append, List.append_nil]); try rfl)⟩
end Go.Proofs.YtkdoomglflikkaaGreat
namespace Go.Proofs.YtkdoomglflikkaaGreat
open Go.RowKit Go.Eng Go.Eng _root_.Go.Proofs.Tryz
set_option maxRecDepth 100000
variable {w0 w : World} {M0 Fz : Nat → Prop} {H : List It} {A : Option Addr} {c : Nat}
theorem takeStr_ok {b : List UInt8} {most : Int} {Sa : Nat → Prop} (h : BS Sa w A c b) : Ret prog 194 #[.slice A b.length c, .int .i64 most] w (fun v w' => ∃ A1 c1 A2 c2, v = .tuple #[.slice A1 (takeStrS b most).1.length c1, .slice A2 (takeStrS b most).2.1.length c2, .int .i64 (takeStrS b most).2.2] ∧ OwnB 5 w.heap.size w' A1 c1 (takeStrS b most).1 ∧ OwnB 5 w.heap.size w' A2 c2 (takeStrS b most).2.1 ∧ Ext w w') := by
 refine ret_of_wk func194 rfl ntmps194 leB_ ?_
 refine go ?_
 refine Ls_ rfl rfl (go ?_)
 refine Cd (fun h0 => ?_) fun h0 => ?_
 refine go ?_
 refine wk_post3 (.inl rfl) results194 rfl rfl rfl ?_
 have e : takeStrS b most = ([], [], 2) := by simp only [takeStrS]; rw [if_pos (by omega)]
 exact ⟨_, rfl, none, 0, none, 0, by rw [e]; try rfl, by rw [e]; exact OwnRow.nil _ _ _ _ _, by rw [e]; exact OwnRow.nil _ _ _ _ _, Chg.refl _ _⟩
 refine go ?_
 have htb:=takeS_lim b
 refine Cl_ cl193 rfl (takeNum_ok h) ?_
 rintro _ w1 ⟨A1, c1, rfl, ho1, hE1⟩
 refine go ?_
 refine Ne_ rfl rfl (go ?_)
 refine Cd (fun he => ?_) fun he => ?_
 refine go ?_
 refine wk_post3 (.inl rfl) results194 rfl rfl rfl ?_
 have e : takeStrS b most = ([], [], (takeS b).2.2) := by simp only [takeStrS]; rw [if_neg (by omega), if_pos he]
 exact ⟨_, rfl, none, 0, none, 0, by rw [e]; try rfl, by rw [e]; exact OwnRow.nil _ _ _ _ _, by rw [e]; exact OwnRow.nil _ _ _ _ _, hE1⟩
 refine go ?_
 refine wl_min (by decide) rfl rfl ?_
 refine Gt_ rfl rfl (go ?_)
 refine Cd (fun hl => ?_) fun hl => ?_
 refine go ?_
 refine wk_post3 (.inl rfl) results194 rfl rfl rfl ?_
 have e : takeStrS b most = ([], [], 5) := by simp only [takeStrS]; rw [if_neg (by omega), if_neg he, if_pos (by omega)]
 exact ⟨_, rfl, none, 0, none, 0, by rw [e]; try rfl, by rw [e]; exact OwnRow.nil _ _ _ _ _, by rw [e]; exact OwnRow.nil _ _ _ _ _, hE1⟩
 refine go ?_
 refine Cl_ cl191 rfl (takeFix_ok ho1.bs (by omega) (by omega)) ?_
 rintro _ w2 ⟨A3, c3, A4, c4, rfl, ho3, ho4, hE2⟩
 refine go ?_
 refine wk_post3 (.inl rfl) results194 rfl rfl rfl ?_
 have e : takeStrS b most = fixS (takeS b).2.1 (takeS b).1 := by simp only [takeStrS]; rw [if_neg (by omega), if_neg he, if_neg (by omega)]
 exact ⟨_, rfl, A3, c3, A4, c4, by rw [e], by rw [e]; exact ho3.lower hE1.size, by rw [e]; exact ho4.lower hE1.size, hE1.trans hE2⟩
set_option maxHeartbeats 40000000 in
theorem wsame1_ok {csw0 : List Value} {w0 : Wsh} {Sw0 : Nat → Prop} (hw0 : wishR.rd Sw0 w csw0 w0) : Ret prog 139 #[.agg csw0.toArray] w (fun v w' => v = .agg (P8C w0).toArray ∧ Ext w w') := by
 obtain ⟨hIw0, Aw00, cw00, Aw01, cw01, rfl, hw00, hw01⟩ := hw0
 refine ret_of_wk func139 rfl ntmps139 leB_ ?_
 have hp:=HP.begin_ w
 refine so ?_
 refine Bx hp (h := fun gs1 w1 hp hE1 => ?_)
 replace hp:=hp.ay (itB gs1 68 ([iv w0.client, iv w0.stamp, iv w0.group, iv w0.epoch, iv w0.kind, iv w0.block, .slice Aw00 w0.data.length cw00, iv w0.old, iv w0.new, .slice Aw01 w0.next.length cw01]) :: _)
 refine Alo hp (h := fun gs2 w2 hp hE2 => so ?_)
 refine wl_builtS (ps := [(0, .tmp 4), (1, .tmp 6), (2, .tmp 8), (3, .tmp 10), (4, .tmp 12), (5, .tmp 14), (6, .tmp 16), (7, .tmp 18)]) (by decide) bld175 rfl rfl ?_
 refine Hs 0 hp (h := fun w3 hp hC3 => so ?_)
 refine wk_postR (rs := [.cell 2 175]) (.inl rfl) results139 ⟨_, _, _, rfl, rfl, loadVar_agg ag175 (hp.blkAt (i := 0) rfl).at0 rfl, rfl⟩ ?_
 exact ⟨_, rfl, rfl, hp.chg⟩
theorem WQ_iff {w : Wsh} : WQ w ↔ 0 ≤ w.epoch ∧ w.epoch ≤ 1048576 ∧ w = ownW w ∧ (w.kind = 5 ∨ (31 ≤ w.client ∧ w.client ≤ 34 ∧ 1 ≤ w.stamp ∧ w.stamp ≤ 9007199254740991)) := Iff.rfl
set_option maxHeartbeats 4000000 in
theorem answerMay1_ok {n : Int} {w : World}  : Ret Tryz.prog 137 #[.int .i64 n] w (fun v w' => v = .bool (decide (¬ (1 ≤ n ∧ n ≤ 28))) ∧ w' = w) := by
 refine ret_of_wk Tryz.func137 rfl Tryz.ntmps137 (Nat.le_of_ble_eq_true rfl) ?_
 refine wc_seq ?_
 refine wc_region ?_
 refine wl_assign (by decide) rfl ?_
 refine wl_nil ?_
 refine wk_norm ?_
 refine wc_seq ?_
 refine wc_region ?_
 refine wl_move (by decide) rfl ?_
 refine wl_call (by decide) Tryz.cl63 rfl (n_isNode) ?_
 rintro _ _ ⟨rfl, rfl⟩
 first | refine wl_notd (by decide) rfl ?_ | refine wl_not (by decide) rfl ?_
 refine wl_assign (by decide) rfl ?_
 refine wl_nil ?_
 refine wk_norm ?_
 refine wc_ret ?_
 refine wk_post1 (.inl rfl) Tryz.results137 rfl ?_
 exact ⟨_, rfl, rfl, rfl⟩
set_option maxHeartbeats 40000000 in
theorem rAnswerMay_ok {csa : List Value} {a : Ans} {Sa : Nat → Prop} (ha : ansR.rd Sa w csa a) : Ret prog 88 #[.agg csa.toArray] w (fun v w' => v = .bool (decide (AnswerMay a)) ∧ Ext w w') := by
 obtain ⟨hIa, Aa0, ca0, Aa1, ca1, rfl, ha0, ha1⟩ := ha
 refine ret_of_wk func88 rfl ntmps88 leB_ ?_
 have hp:=HP.begin_ w
 refine so ?_
 refine Bx hp (h := fun gs1 w1 hp hE1 => so ?_)
 refine Cs (r12_within) ?_
 refine so ?_
 refine Gs 8 ?_ ?_<;>intro hg1<;>refine so ?_
 refine aT (so ?_)
 refine Pt ?_
 exact ⟨_, rfl, bool_f (by unfold AnswerMay; omega), hp.chg⟩
 refine Gs 14 ?_ ?_<;>intro hg2<;>refine so ?_
 refine aT (so ?_)
 refine Pt ?_
 exact ⟨_, rfl, bool_f (by unfold AnswerMay; omega), hp.chg⟩
 refine Cs (r12_within) ?_
 refine so ?_
 refine Gs 20 ?_ ?_<;>intro hg3<;>refine so ?_
 refine aT (so ?_)
 refine Pt ?_
 exact ⟨_, rfl, bool_f (by unfold AnswerMay; omega), hp.chg⟩
 refine Cd ?_ ?_<;>intro hc4<;>refine so ?_
 refine Pt ?_
 exact ⟨_, rfl, bool_f (by unfold AnswerMay; omega), hp.chg⟩
 refine Lp [1, 3] (fun L' w' mes => ∃ (k : Nat), L' = [(1, pt gs1 0), (3, iv (k : Int))] ∧ (k ≤ a.nodes.length) ∧ (∀ x ∈ a.nodes.take k, 1 ≤ x ∧ x ≤ 28) ∧ (0 ≤ a.err ∧ a.err ≤ 999 ∧ a.data.length ≤ 16 ∧ 0 ≤ a.epoch ∧ a.epoch ≤ 1048576 ∧ a.nodes.length ≤ 7) ∧ Ext w1 w' ∧ a.nodes.length - k = mes) (a.nodes.length - 0) (by
     refine ⟨0, rfl, ?_, ?_, ?_, me, rfl⟩
     omega
     simp
     omega) ?_
 rintro _ wr _ ⟨k, rfl, hk, hall, hf, hEq0, rfl⟩ KL1 hKL1
 replace hp:=hp.ext hEq0
 refine so ?_
 refine Cd ?_ ?_<;>intro hc5<;>refine so ?_
 obtain ⟨ae4, hAe4, hate4⟩ := GS.elI (ha1.tn (w' := wr)) k (by omega)
 refine so ?_
 refine Cs (r12_node) ?_
 refine so ?_
 refine Cd ?_ ?_<;>intro hc6<;>refine so ?_
 refine Pt ?_
 exact ⟨_, rfl, bool_f (fun h => by have := h.2.2.2.2.2.2 _ (getD_mem (z := 0) (by omega : k < a.nodes.length)); omega), hp.chg⟩
 exact Kl [1, 3] hKL1 (a.nodes.length - (k + 1)) ⟨(k + 1), rfl, by omega, forall_take (z := 0) hall (by omega) (by omega), hf, me, rfl⟩ (by omega)
 refine Pt ?_
 exact ⟨_, rfl, bool_t ⟨hf.1, hf.2.1, hf.2.2.1, hf.2.2.2.1, hf.2.2.2.2.1, hf.2.2.2.2.2, fun x hx => hall x (by rw [show k = a.nodes.length by omega, List.take_length]; exact hx)⟩, hp.chg⟩
set_option maxHeartbeats 40000000 in
theorem rRising_ok {Al : Option Addr} {cl : Nat} {l : List Int} {Sl : Nat → Prop} (hl : GS intR Sl w Al cl l) : Ret prog 92 #[.slice Al l.length cl] w (fun v w' => v = .bool (decide (NodesRise l ∧ 1 ≤ l.length ∧ l.length ≤ 7)) ∧ Ext w w') := by
 have mhl:=hl.mx
 refine ret_of_wk func92 rfl ntmps92 leB_ ?_
 refine so ?_
 refine Lp [0, 3] (fun L' w' mes => ∃ (k : Nat), L' = [(0, .slice Al l.length cl), (3, iv (k : Int))] ∧ (k ≤ l.length) ∧ (∀ i, i < k → 1 ≤ l.getD i 0 ∧ l.getD i 0 ≤ 28 ∧ (0 < i → l.getD (i - 1) 0 < l.getD i 0)) ∧ (GS intR Sl w' Al cl l) ∧ (Ext w w') ∧ l.length - k = mes) (l.length - 0) (by
     refine ⟨0, rfl, by omega, ?_, hl, me, rfl⟩
     intro i hi; omega) ?_
 rintro _ wr _ ⟨k, rfl, hk, hall, hl, hEc, rfl⟩ KL1 hKL1
 refine so ?_
 refine Cd ?_ ?_<;>intro hc1<;>refine so ?_
 by_cases hs2 : 1 ≤ (l.getD k 0) ∧ (l.getD k 0) ≤ 28
 by_cases hs3 : (k : Int) > 0
 obtain ⟨aw2, hAw2, hatw2⟩ := GS.elI hl k (by omega)
 obtain ⟨aw17, hAw17, hatw17⟩ := GS.elI hl (k - 1) (by omega)
 cases Option.some.inj (hAw2.symm.trans hAw17)
 refine wdE 22 (fun wD hED => by refine pm ?_; exact PLs (r12_node) (h := by refine pm ?_; exact .op rfl (aGy rfl rfl (by first | rfl | exact bt | exact bf) (wl_idx0 (by decide) sl27 rfl rfl hAw17 (k - 1) (by omega) (by omega) (wl_nil qp))) pl)) fun wD hED => ?_
 refine so ?_
 refine Cd ?_ ?_<;>intro hc4<;>refine so ?_
 refine Pt ?_
 exact ⟨_, rfl, bool_f (fun h => by have := h.1 k (by omega); omega), me⟩
 exact Kl [0, 3] hKL1 (l.length - (k + 1)) ⟨(k + 1), rfl, by omega, upto hall ⟨by omega, by omega, fun _ => by omega⟩, hl.to, me, rfl⟩ (by omega)
 obtain ⟨aw2, hAw2, hatw2⟩ := GS.elI hl k (by omega)
 refine wdE 22 (fun wD hED => by refine pm ?_; exact PLs (r12_node) (h := pl)) fun wD hED => ?_
 refine so ?_
 refine aF (so ?_)
 exact Kl [0, 3] hKL1 (l.length - (k + 1)) ⟨(k + 1), rfl, by omega, upto hall ⟨by omega, by omega, fun _ => by omega⟩, hl.to, me, rfl⟩ (by omega)
 obtain ⟨aw2, hAw2, hatw2⟩ := GS.elI hl k (by omega)
 refine wdE 22 (fun wD hED => by refine pm ?_; exact PLs (r12_node) (h := pl)) fun wD hED => ?_
 refine so ?_
 refine aT (so ?_)
 refine Pt ?_
 exact ⟨_, rfl, bool_f (fun h => by have := h.1 k (by omega); omega), me⟩
 refine Cs (r12_within) ?_
 refine so ?_
 refine Pt ?_
 exact ⟨_, rfl, congrArg Value.bool (decide_eq_decide.2 ⟨fun h => ⟨fun i hi => hall i (by omega), by omega, by omega⟩, fun h => by omega⟩), hEc⟩
theorem SeenF.step {f : Value → Option Value} {l : List Stn} (h : SeenF f l) (x : Stn) : SeenF (updF f (keyM x.seq x.dig) (.int .i64 ((cntM l x.seq x.dig : Nat) + 1))) (l ++ [x]) := by
 intro s g
 rw [cntM_snoc]
 by_cases e : x.seq = s ∧ x.dig = g
 ·obtain ⟨rfl, rfl⟩ := e; rw [updF_same]; simp
 ·rw [updF_other f (fun he => e (by have := keyM_inj.1 he; exact ⟨this.1.symm, this.2.symm⟩)), if_neg e, Nat.add_zero]; exact h s g
theorem ordS_neg {a b : Stn} : ordS a b < 0 ↔ OrdLt a b := by
 have h1 := cmpI_lt a.seq b.seq
 have h2 := cmpI_lt a.view b.view
 have h3 := cmpB_lt a.dig.l b.dig.l (by rw [a.dig.h, b.dig.h])
 unfold ordS OrdLt orI orI orI orI
 split
 ·split
  ·split
   ·rename_i e1 e2 e3
    have := h1.2.1 e1; have := h2.2.1 e2
    rw [e3] at h3
    constructor
    ·intro h; exact absurd h (by omega)
    ·rintro (h | ⟨_, h | ⟨_, h⟩⟩)
     ·omega
     ·omega
     ·exact absurd (h3.2 h) (by omega)
   ·rename_i e1 e2 e3
    have := h1.2.1 e1; have := h2.2.1 e2
    rw [h3]
    exact ⟨fun h => .inr ⟨by omega, .inr ⟨by omega, h⟩⟩, fun h => by rcases h with h | ⟨_, h | ⟨_, h⟩⟩; omega; omega; exact h⟩
  ·rename_i e1 e2
   have := h1.2.1 e1
   rw [h2.1]
   exact ⟨fun h => .inr ⟨by omega, .inl h⟩, fun h => by rcases h with h | ⟨_, h | ⟨h, _⟩⟩; omega; exact h; exact absurd (h2.2.2 h) e2⟩
 ·rename_i e1
  rw [h1.1]
  exact ⟨fun h => .inl h, fun h => by rcases h with h | ⟨h, _⟩; exact h; exact absurd (h1.2.2 h) e1⟩
theorem marks_back {cg : Chn} (h1 : RiseI (mseq cg cg.marks.length)) (h2 : (cg.marks.getD (cg.marks.length - 1) mark0).seq ≤ 9007199254740991) : MarksRise cg.marks := fun i hi h0 => by
 have hlen := mseq_len (cg := cg) (Nat.le_refl _)
 have h3 := h1 i (by omega) h0
 have h4 := rise_last h1 (cg.marks.length - 1 - i) i (by omega)
 rw [show i + (cg.marks.length - 1 - i) = cg.marks.length - 1 by omega] at h4
 rw [mseq_get (by omega), mseq_get (by omega)] at h3 h4
 exact ⟨h3, by omega⟩
set_option maxHeartbeats 40000000 in
theorem gNum_ok {gw : Nat} {out : List UInt8} {pa : Addr} {n : Int} (hp : HP w0 M0 Fz w (itB gw 89 [.slice A out.length c] :: itR 5 1 A out.length c (out.map bv) :: H)) (hat : AtF Fz w pa [.int .i64 n]) (hn : isNum n) (hlen : out.length + (numE n).length ≤ 1000000) : Ret prog 177 #[.pointer (some ⟨gw, 0, none⟩), .pointer (some pa)] w (WrP 5 89 gw w0 M0 Fz w H (out ++ numE n)) := by
 have hFr:=Frz.start Fz w
 have hns : numS n = (numE n, 0) := by unfold isNum at hn; rw [numS, if_neg (by omega)]; rfl
 have hn64 : -9223372036854775808 ≤ n ∧ n ≤ 9223372036854775807 := by unfold isNum at hn; omega
 refine ret_of_wk func177 rfl ntmps177 leB_ ?_
 refine go ?_
 refine Ld_ sc3 rfl hat.head ?_
 have hcl:=num_ok (n := n) (w := w) hn64.1 hn64.2
 refine Cl_ cl180 rfl hcl ?_
 clear hcl
 rintro _ w1 ⟨A1, c1, rfl, ho1, hE1⟩
 rw [hns] at ho1 ⊢
 replace hFr:=hFr.ext hE1
 replace hp:=hp.ext hE1
 refine go ?_
 refine Fd_ 0 fld89_0 rfl rfl ?_
 refine Hl_ 0 sc26 rfl hp rfl rfl (go ?_)
 refine wl_happendB (i := 1) (l2 := numE n) (by decide) sl26 rfl rfl hp rfl ho1.bs (by omega) ?_
 rintro A1 c1 w1 hp1 hC1
 replace hFr:=hFr.fz hC1
 replace hp:=(hp1.ay (_ :: itR 5 1 A1 (out ++ numE n).length c1 ((out ++ numE n).map bv) :: _))
 refine go ?_
 refine Fd_ 0 fld89_0 rfl rfl ?_
 refine wl_hstore1 (i := 0) rfl rfl hp rfl sz26 (Nat.succ_pos _) rfl ?_
 rintro w2 hp2 hC2
 replace hFr:=hFr.fz hC2
 replace hp:=(hp2.ay (itB gw 89 [.slice A1 (out ++ numE n).length c1] :: itR 5 1 A1 (out ++ numE n).length c1 ((out ++ numE n).map bv) :: _))
 replace hp:=hp.ay (itB gw 89 ([.slice A1 (out ++ numE n).length c1]) :: _)
 refine go ?_
 refine wk_post0 (.inr rfl) results177  ?_
 exact ⟨_, rfl, _, _, hp, hFr⟩
theorem flat_roomD {α : Type} (E : α → List UInt8) (l : List α) (k : Nat) (z : α) (hk : k < l.length) : (flatE E (l.take k)).length + (E (l.getD k z)).length ≤ (flatE E l).length := by
 have h1 := flat_take_le E l (k + 1)
 rw [flat_takeD E l k z hk, List.length_append] at h1
 exact h1
theorem step_witem {bad : Bool} {l l' s : List UInt8} {e eP : Int} {x : Wsh} (h : StepP (strP 256) (rst bad l) (rst (decide (e ≠ 0)) l') s) (he : ¬ e ≠ 0) (hp : ParseR s x eP) (heP : ¬ eP ≠ 0) : StepP witemP (rst bad l) (rst (decide (e ≠ 0)) l') x := by
 rw [show decide (e ≠ 0) = false from decide_eq_false he] at h ⊢
 rcases hp with ⟨_, hp⟩ | ⟨hp, _⟩
 ·cases bad with
  | true => cases h
  | false =>
   have h1 : strP 256 l = some (s, l') := h
   show witemP l = some (x, l')
   unfold witemP boxP
   rw [h1]
   unfold parseS at hp
   cases hw : wishP s with
   | none => rw [hw] at hp; cases hp
   | some v =>
    obtain ⟨y, u⟩ := v
    simp only [hw] at hp ⊢
    by_cases hc : u = [] ∧ WishMay y
    ·rw [if_pos hc] at hp ⊢; cases hp; rfl
    ·rw [if_neg hc] at hp; cases hp
 ·exact absurd hp heP
end Go.Proofs.YtkdoomglflikkaaGreat
namespace Go.Proofs.YtkdoomglflikkaaGreat
open Go.Eng Go.RowKit Go.Eng _root_.Go.Proofs.Tryz
set_option maxRecDepth 100000
variable {w0 w : World} {M0 Fz : Nat → Prop} {H : List It} {A : Option Addr} {c : Nat}
structure NteB (n : Nte) : Prop where
 b : n.batch.length * 112 ≤ 140737488355328
 bw : ∀ x ∈ n.batch, x.next.length * 8 ≤ 140737488355328
 an : n.ans.nodes.length * 8 ≤ 140737488355328
 c : ChnB n.change
 ch : n.changes.length * 96 ≤ 140737488355328
 cs : ∀ x ∈ n.changes, ChnB x
 d : n.digs.length * 32 ≤ 140737488355328
 k : n.nodes.length * 8 ≤ 140737488355328
 p : n.picks.length * 64 ≤ 140737488355328
 pb : ∀ x ∈ n.picks, x.batch.length * 112 ≤ 140737488355328
 pw : ∀ x ∈ n.picks, ∀ y ∈ x.batch, y.next.length * 8 ≤ 140737488355328
end Go.Proofs.YtkdoomglflikkaaGreat
namespace Go.Proofs.YtkdoomglflikkaaGreat
open Go.ChangeShapes Go.WideShapes Go.ChangeAt Go.RowKit Go.Eng Go.Eng _root_.Go.Proofs.Tryz
set_option maxRecDepth 100000
variable {w0 w : World} {M0 Fz : Nat → Prop} {H : List It} {A : Option Addr} {c : Nat}
theorem reads_WshB : ReadsR Tryz.prog 68 wishR (fun x => x.next.length * 8 ≤ 140737488355328) := by
  intro H enc w base sp held fuel cs x h hlt hw
  have hlen := trod_structLen Tryz.underlying68 h
  rw [Tryz.ce68] at hlen
  obtain ⟨v0, h0, g0⟩ := reads_field Tryz.underlying68 (i := 0) rfl (reads_int Tryz.underlying3) h hlt hw
  replace h0 : intR.rd _ _ ((cs.drop 0).take (Tryz.prog.cellsOf 3)) v0 := h0
  rw [Tryz.ce3] at h0
  have e0 : (cs.drop 0).take 1 = [.int .i64 v0] := h0
  obtain ⟨v1, h1, g1⟩ := reads_field Tryz.underlying68 (i := 1) rfl (reads_int Tryz.underlying3) h hlt hw
  replace h1 : intR.rd _ _ ((cs.drop 1).take (Tryz.prog.cellsOf 3)) v1 := h1
  rw [Tryz.ce3] at h1
  have e1 : (cs.drop 1).take 1 = [.int .i64 v1] := h1
  obtain ⟨v2, h2, g2⟩ := reads_field Tryz.underlying68 (i := 2) rfl (reads_int Tryz.underlying3) h hlt hw
  replace h2 : intR.rd _ _ ((cs.drop 2).take (Tryz.prog.cellsOf 3)) v2 := h2
  rw [Tryz.ce3] at h2
  have e2 : (cs.drop 2).take 1 = [.int .i64 v2] := h2
  obtain ⟨v3, h3, g3⟩ := reads_field Tryz.underlying68 (i := 3) rfl (reads_int Tryz.underlying3) h hlt hw
  replace h3 : intR.rd _ _ ((cs.drop 3).take (Tryz.prog.cellsOf 3)) v3 := h3
  rw [Tryz.ce3] at h3
  have e3 : (cs.drop 3).take 1 = [.int .i64 v3] := h3
  obtain ⟨v4, h4, g4⟩ := reads_field Tryz.underlying68 (i := 4) rfl (reads_int Tryz.underlying3) h hlt hw
  replace h4 : intR.rd _ _ ((cs.drop 4).take (Tryz.prog.cellsOf 3)) v4 := h4
  rw [Tryz.ce3] at h4
  have e4 : (cs.drop 4).take 1 = [.int .i64 v4] := h4
  obtain ⟨v5, h5, g5⟩ := reads_field Tryz.underlying68 (i := 5) rfl (reads_int Tryz.underlying3) h hlt hw
  replace h5 : intR.rd _ _ ((cs.drop 5).take (Tryz.prog.cellsOf 3)) v5 := h5
  rw [Tryz.ce3] at h5
  have e5 : (cs.drop 5).take 1 = [.int .i64 v5] := h5
  obtain ⟨v6, h6, g6⟩ := reads_field Tryz.underlying68 (i := 6) rfl reads_t26 h hlt hw
  replace h6 : (sliceR byteR).rd _ _ ((cs.drop 6).take (Tryz.prog.cellsOf 26)) v6 := h6
  rw [Tryz.ce26] at h6
  obtain ⟨A6, c6, e6, k6⟩ := h6
  obtain ⟨v7, h7, g7⟩ := reads_field Tryz.underlying68 (i := 7) rfl (reads_int Tryz.underlying3) h hlt hw
  replace h7 : intR.rd _ _ ((cs.drop 7).take (Tryz.prog.cellsOf 3)) v7 := h7
  rw [Tryz.ce3] at h7
  have e7 : (cs.drop 7).take 1 = [.int .i64 v7] := h7
  obtain ⟨v8, h8, g8⟩ := reads_field Tryz.underlying68 (i := 8) rfl (reads_int Tryz.underlying3) h hlt hw
  replace h8 : intR.rd _ _ ((cs.drop 8).take (Tryz.prog.cellsOf 3)) v8 := h8
  rw [Tryz.ce3] at h8
  have e8 : (cs.drop 8).take 1 = [.int .i64 v8] := h8
  obtain ⟨v9, h9, g9⟩ := reads_field Tryz.underlying68 (i := 9) rfl reads_t27 h hlt hw
  replace h9 : (sliceR intR).rd _ _ ((cs.drop 9).take (Tryz.prog.cellsOf 27)) v9 := h9
  rw [Tryz.ce27] at h9
  obtain ⟨A9, c9, e9, k9⟩ := h9
  have e := (List.drop_zero (l := cs)).symm
  rw [seg_cons (m := 1) rfl e0] at e
  rw [seg_cons (m := 2) rfl e1] at e
  rw [seg_cons (m := 3) rfl e2] at e
  rw [seg_cons (m := 4) rfl e3] at e
  rw [seg_cons (m := 5) rfl e4] at e
  rw [seg_cons (m := 6) rfl e5] at e
  rw [seg_cons (m := 7) rfl e6] at e
  rw [seg_cons (m := 8) rfl e7] at e
  rw [seg_cons (m := 9) rfl e8] at e
  rw [seg_cons (m := 10) rfl e9] at e
  rw [List.drop_eq_nil_of_le (by rw [hlen]; exact Nat.le_refl _)] at e
  refine ⟨{ client := v0, stamp := v1, group := v2, epoch := v3, kind := v4, block := v5, data := v6, old := v7, new := v8, next := v9 }, ?_, g9⟩
  refine ⟨by unfold WshI i64; dsimp only; omega, _, _, _, _, e.trans (by (try simp only [List.cons_append, List.nil_append, List.append_nil]); try rfl), k6, k9⟩
end Go.Proofs.YtkdoomglflikkaaGreat
namespace Go.Proofs.YtkdoomglflikkaaGreat
open Go.RowKit Go.Eng Go.Eng _root_.Go.Proofs.Tryz
set_option maxRecDepth 100000
variable {w0 w : World} {M0 Fz : Nat → Prop} {H : List It} {A : Option Addr} {c : Nat}
set_option maxHeartbeats 40000000 in
theorem lWishes_ok (hp : HP w0 M0 Fz w H) : Ret prog 28 #[] w (fun v w2 => ∃ F2 A c, v = .slice A ([wshA, wshB]).length c ∧ HP w0 M0 F2 w2 H ∧ Frz Fz F2 w w2 ∧ GS wishR F2 w2 A c ([wshA, wshB])) := by
 refine ret_of_wk func28 rfl ntmps28 leB_ ?_
 refine so ?_
 refine wl_builtS (ps := [(0, .const (iv 31)), (1, .const (iv 5)), (2, .const (iv 1)), (3, .const (iv 2)), (4, .const (iv 1)), (5, .const (iv 3))]) (by decide) bld68 rfl rfl ?_
 apply wl_make (k := 16) (z := .int .u8 0) (hT := sl26) (hd := by decide)
 case hz => kernel_rfl
 case hx => rfl
 case hy => rfl
 case hb => decide
 case hlo => exact Nat.le_refl _
 rintro gz1 wz1 hgz1 hoz1 hEz1
 replace hoz1:=OwnRow.bs (l := (List.replicate 16 (0 : UInt8))) hoz1.zeros
 obtain ⟨Fz1, hp1, hsub1, hnew1, _⟩ := hp.frz hEz1
 replace hp:=hp1
 have hs1:=hoz1.frz hnew1
 refine wl_builtS (ps := [(0, .const (iv 32)), (1, .const (iv 1)), (2, .const (iv 1)), (3, .const (iv 2)), (4, .const (iv 2)), (5, .const (iv 7)), (6, .tmp 2)]) (by decide) bld68 rfl rfl ?_
 refine wl_bsliceR (r := wishR) (css := [[iv 31, iv 5, iv 1, iv 2, iv 1, iv 3, s0, iv wish0.old, iv wish0.new, s0], [iv 32, iv 1, iv 1, iv 2, iv 2, iv 7, .slice (some ⟨gz1, 0, none⟩) (List.replicate 16 (0 : UInt8)).length 16, iv wish0.old, iv wish0.new, s0]]) (l := [({ wish0 with client := 31, stamp := 5, group := 1, epoch := 2, kind := 1, block := 3 } : Wsh), ({ wish0 with client := 32, stamp := 1, group := 1, epoch := 2, kind := 2, block := 7, data := (List.replicate 16 (0 : UInt8)) } : Wsh)]) (xs := [.tmp 1, .tmp 3]) (by decide) sl24 rfl rfl (((RF.one (r := wishR) (Fz := Fz1) (cs := [iv 31, iv 5, iv 1, iv 2, iv 1, iv 3, s0, iv wish0.old, iv wish0.new, s0]) (v := ({ wish0 with client := 31, stamp := 5, group := 1, epoch := 2, kind := 1, block := 3 } : Wsh)) (⟨(show WshI ({ wish0 with client := 31, stamp := 5, group := 1, epoch := 2, kind := 1, block := 3 } : Wsh) by unfold WshI i64; (try unfold wish0); (try dsimp only); omega), _, _, _, _, rfl, gsn, gsn⟩)).append (RF.one (r := wishR) (Fz := Fz1) (cs := [iv 32, iv 1, iv 1, iv 2, iv 2, iv 7, .slice (some ⟨gz1, 0, none⟩) (List.replicate 16 (0 : UInt8)).length 16, iv wish0.old, iv wish0.new, s0]) (v := ({ wish0 with client := 32, stamp := 1, group := 1, epoch := 2, kind := 2, block := 7, data := (List.replicate 16 (0 : UInt8)) } : Wsh)) (⟨(show WshI ({ wish0 with client := 32, stamp := 1, group := 1, epoch := 2, kind := 2, block := 7, data := (List.replicate 16 (0 : UInt8)) } : Wsh) by unfold WshI i64; (try unfold wish0); (try dsimp only); omega), _, _, _, _, rfl, hs1, gsn⟩))) : RF wishR Fz1 _ [[iv 31, iv 5, iv 1, iv 2, iv 1, iv 3, s0, iv wish0.old, iv wish0.new, s0], [iv 32, iv 1, iv 1, iv 2, iv 2, iv 7, .slice (some ⟨gz1, 0, none⟩) (List.replicate 16 (0 : UInt8)).length 16, iv wish0.old, iv wish0.new, s0]] [({ wish0 with client := 31, stamp := 5, group := 1, epoch := 2, kind := 1, block := 3 } : Wsh), ({ wish0 with client := 32, stamp := 1, group := 1, epoch := 2, kind := 2, block := 7, data := (List.replicate 16 (0 : UInt8)) } : Wsh)]) rfl (by simp) leB_ ?_
 rintro gb2 wb2 hgb2 hs2 hE2
 obtain ⟨Fz2, hp2, hsub2, hnew2, _⟩ := hp.frz hE2
 replace hp:=hp2
 replace hs2:=hs2.mono (fun b hb h => h.elim (fun x => hsub2 b x.1) (fun e => hnew2 b (by rw [e, hgb2]; exact Nat.le_refl _) hb))
 refine so ?_
 refine Pt ?_
 exact ⟨_, rfl, _, _, _, rfl, hp, mv, hs2⟩
theorem body_flat (x : Wsh) : ([headE x, strE x.data, numE x.old, numE x.new, numE (x.next.length : Int)] : List (List UInt8)).flatten = bodyW x := by simp [bodyW]
end Go.Proofs.YtkdoomglflikkaaGreat
