/- What each of these functions computes, for every argument that its theorem names; a part of what the proof of NotePacks stands on. -/
import Derived.Test.YtkdoomglflikkaaGreatQac
namespace Go.Proofs.YtkdoomglflikkaaGreat
open Go.RowKit Go.Eng Go.Eng _root_.Go.Proofs.Tryz
set_option maxRecDepth 100000
variable {w0 w : World} {M0 Fz : Nat → Prop} {H : List It} {A : Option Addr} {c : Nat}
def WshI (x : Wsh) : Prop := i64 x.client ∧ i64 x.stamp ∧ i64 x.group ∧ i64 x.epoch ∧ i64 x.kind ∧ i64 x.block ∧ i64 x.old ∧ i64 x.new
def StnI (x : Stn) : Prop := i64 x.seq ∧ i64 x.view
def AnsI (x : Ans) : Prop := i64 x.err ∧ i64 x.epoch
def NteI (x : Nte) : Prop := i64 x.kind ∧ i64 x.from_ ∧ i64 x.group ∧ i64 x.epoch ∧ i64 x.view ∧ i64 x.seq ∧ i64 x.ans.err ∧ i64 x.ans.epoch ∧ i64 x.stamp ∧ i64 x.node ∧ i64 x.change.node ∧ i64 x.change.view ∧ i64 x.change.low ∧ i64 x.level ∧ i64 x.place
theorem stand_inj {x y : Stn} : x = y ↔ ([.int .i64 x.seq] ++ (digC x.dig ++ ([.int .i64 x.view])) : List Value) = [.int .i64 y.seq] ++ (digC y.dig ++ ([.int .i64 y.view])) := by
 constructor
 ·rintro rfl; rfl
 ·intro h
  simp only [List.cons_append, List.nil_append, List.cons.injEq, Value.int.injEq, true_and] at h
  have h2 := List.append_inj h.2 (by simp [digC_len])
  cases x; cases y
  simp only [Stn.mk.injEq]
  exact ⟨h.1, digC_inj.2 h2.1, by simpa using h2.2⟩
end Go.Proofs.YtkdoomglflikkaaGreat
namespace Go.Proofs.YtkdoomglflikkaaGreat
open Go.ChangeShapes Go.WideShapes Go.ChangeAt Go.RowKit Go.Eng Go.Eng _root_.Go.Proofs.Tryz
set_option maxRecDepth 100000
variable {w0 w : World} {M0 Fz : Nat → Prop} {H : List It} {A : Option Addr} {c : Nat}
theorem Tryz.laidOut : laidOutB Tryz.prog = true := by kernel_rfl
theorem Tryz.ce5 : Tryz.prog.cellsOf 5 = 1 := by kernel_rfl
theorem Tryz.by5 : Tryz.prog.bytesOf 5 = 1 := by kernel_rfl
theorem Tryz.by3 : Tryz.prog.bytesOf 3 = 8 := by kernel_rfl
theorem Tryz.ce68 : Tryz.prog.cellsOf 68 = 10 := by kernel_rfl
theorem Tryz.ce24 : Tryz.prog.cellsOf 24 = 1 := by kernel_rfl
theorem Tryz.ce29 : Tryz.prog.cellsOf 29 = 4 := by kernel_rfl
theorem Tryz.by95 : Tryz.prog.bytesOf 95 = 40 := by kernel_rfl
theorem Tryz.ce97 : Tryz.prog.cellsOf 97 = 34 := by kernel_rfl
theorem Tryz.ce31 : Tryz.prog.cellsOf 31 = 1 := by kernel_rfl
theorem Tryz.by33 : Tryz.prog.bytesOf 33 = 96 := by kernel_rfl
theorem Tryz.ce66 : Tryz.prog.cellsOf 66 = 34 := by kernel_rfl
theorem Tryz.ce35 : Tryz.prog.cellsOf 35 = 1 := by kernel_rfl
theorem Tryz.ce36 : Tryz.prog.cellsOf 36 = 1 := by kernel_rfl
end Go.Proofs.YtkdoomglflikkaaGreat
namespace Go.Proofs.YtkdoomglflikkaaGreat
open Go.RowKit Go.Eng Go.Eng _root_.Go.Proofs.Tryz
set_option maxRecDepth 100000
variable {w0 w : World} {M0 Fz : Nat → Prop} {H : List It} {A : Option Addr} {c : Nat}
theorem eqBytes_ok {A B : Option Addr} {c d : Nat} {la lb : List UInt8} {Sa Sb : Nat → Prop} (ha : BS Sa w A c la) (hb : BS Sb w B d lb) : Ret prog 16 #[.slice A la.length c, .slice B lb.length d] w (fun v w' => v = .bool (decide (la = lb)) ∧ Ext w w') := by
 refine ret_of_wk func16 rfl ntmps16 leB_ ?_
 refine so ?_
 refine Cd ?_ ?_<;>intro hne
 refine so ?_
 refine Pt ?_
 exact ⟨_, rfl, bool_f (fun e => hne (by rw [e])), Chg.refl _ _⟩
 have hll : la.length = lb.length := by omega
 refine so ?_
 refine Lp [0, 1, 5] (fun L' w' mes => ∃ (k : Nat), L' = [(0, .slice A la.length c), (1, .slice B lb.length d), (5, iv (k : Int))] ∧ (k ≤ la.length) ∧ (la.take k = lb.take k) ∧ (Ext w w') ∧ la.length - k = mes) (la.length - 0) ⟨0, rfl, by omega, by simp, Chg.refl _ _, rfl⟩ ?_
 rintro _ wr _ ⟨k, rfl, hk, htk, hE, rfl⟩ KL1 hKL1
 have hmx:=ha.mx
 refine so ?_
 refine Cd ?_ ?_<;>intro hlt
 refine so ?_
 refine wc_drawL [SP.eq (.slice A la.length c), SP.eq (iv (k : Int)), SP.ptr (fun _ => True) [bv (la[k]'(by omega))], SP.eq (bv (la[k]'(by omega))), SP.eq (.slice B lb.length d), SP.eq (iv (k : Int)), SP.ptr (fun _ => True) [bv (lb[k]'(by omega))], SP.eq (bv (lb[k]'(by omega))), SP.eq (.bool (decide (((la[k]'(by omega)).toNat : Int) ≠ ((lb[k]'(by omega)).toNat : Int))))] (by kernel_rfl) (by kernel_rfl) ⟨?_, ?_, ?_, ?_, ?_, ?_, ?_, ?_, ?_, trivial⟩ ?_
 intro F wF hER hk
 have e0:=hk.init 0 _ rfl (by kernel_rfl)
 refine Mv_ e0 ?_
 exact qz ⟨Chg.refl _ _, rfl⟩
 intro F wF hER hk
 have e5:=hk.init 5 _ rfl (by kernel_rfl)
 refine Mv_ e5 ?_
 exact qz ⟨Chg.refl _ _, rfl⟩
 intro F wF hER hk
 obtain ⟨u17, e17, h17⟩ := hk.pred 0 (by kernel_rfl) 17 rfl
 obtain rfl := h17
 obtain ⟨u18, e18, h18⟩ := hk.pred 1 (by kernel_rfl) 18 rfl
 obtain rfl := h18
 refine wl_idx (r := byteR) (by decide) sl26 e17 e18 ((ha.ext hE).ext hER) k rfl (by omega) ?_
 rintro a cs hb1 _ hat rfl
 exact qz ⟨Chg.refl _ _, a, rfl, hb1, trivial, hat⟩
 intro F wF hER hk
 obtain ⟨u19, e19, h19⟩ := hk.pred 2 (by kernel_rfl) 19 rfl
 obtain ⟨a19, rfl, _, _, hat19⟩ := h19
 refine Ld_ sc5 e19 hat19.head ?_
 exact qz ⟨Chg.refl _ _, rfl⟩
 intro F wF hER hk
 have e1:=hk.init 1 _ rfl (by kernel_rfl)
 refine Mv_ e1 ?_
 exact qz ⟨Chg.refl _ _, rfl⟩
 intro F wF hER hk
 have e5:=hk.init 5 _ rfl (by kernel_rfl)
 refine Mv_ e5 ?_
 exact qz ⟨Chg.refl _ _, rfl⟩
 intro F wF hER hk
 obtain ⟨u21, e21, h21⟩ := hk.pred 4 (by kernel_rfl) 21 rfl
 obtain rfl := h21
 obtain ⟨u22, e22, h22⟩ := hk.pred 5 (by kernel_rfl) 22 rfl
 obtain rfl := h22
 refine wl_idx (r := byteR) (by decide) sl26 e21 e22 ((hb.ext hE).ext hER) k rfl (by omega) ?_
 rintro a cs hb1 _ hat rfl
 exact qz ⟨Chg.refl _ _, a, rfl, hb1, trivial, hat⟩
 intro F wF hER hk
 obtain ⟨u23, e23, h23⟩ := hk.pred 6 (by kernel_rfl) 23 rfl
 obtain ⟨a23, rfl, _, _, hat23⟩ := h23
 refine Ld_ sc5 e23 hat23.head ?_
 exact qz ⟨Chg.refl _ _, rfl⟩
 intro F wF hER hk
 obtain ⟨u20, e20, h20⟩ := hk.pred 3 (by kernel_rfl) 20 rfl
 obtain rfl := h20
 obtain ⟨u24, e24, h24⟩ := hk.pred 7 (by kernel_rfl) 24 rfl
 obtain rfl := h24
 refine Ne_ e20 e24 ?_
 exact qz ⟨Chg.refl _ _, rfl⟩
 intro F wD hED hini hdo
 refine wk_drop [(0, _), (1, _), (5, _), (25, _)] ⟨di hini 0, di hini 1, di hini 5, dq hdo 8, trivial⟩ ?_
 clear hini hdo
 refine so ?_
 refine Cd ?_ ?_<;>intro hne2<;>refine so ?_
 refine Pt ?_
 exact ⟨_, rfl, bool_f (fun e => hne2 (by subst e; rfl)), hE.trans hED⟩
 refine Kl [0, 1, 5] hKL1 (la.length - (k + 1)) ⟨(k + 1), rfl, by omega, ?_, hE.trans hED, rfl⟩ (by omega)
 rw [← List.take_append_getElem (by omega : k < la.length), ← List.take_append_getElem (by omega : k < lb.length), htk, UInt8.toNat_inj.1 (by omega : la[k].toNat = lb[k].toNat)]
 have hkl : k = la.length := by omega
 refine so ?_
 refine Pt ?_
 exact ⟨_, rfl, bool_t (by rw [hkl, List.take_length, hll, List.take_length] at htk; exact htk), hE⟩
theorem cloneB_ok {l : List UInt8} {Sa : Nat → Prop} (h : BS Sa w A c l) : Ret prog 199 #[.slice A l.length c] w (fun v w' => ∃ A' c', v = .slice A' l.length c' ∧ OwnB 5 w.heap.size w' A' c' l ∧ Ext w w') := by
 refine ret_of_wk func199 rfl ntmps199 leB_ ?_
 refine so ?_
 refine wl_nilq (by decide) underlying26 rfl rfl ?_
 refine so ?_
 refine Cd ?_ ?_<;>intro hnil
 have hl : l = [] := h.empty (by cases A <;> simp_all)
 refine so ?_
 refine Pt ?_
 exact ⟨_, rfl, none, 0, by rw [hl]; rfl, by rw [hl]; exact OwnRow.nil _ _ _ _ _, Chg.refl _ _⟩
 refine so ?_
 refine wl_bsliceB (xs := []) (bs := []) (by decide) sl26 rfl rfl rfl (by simp) w.heap.size (Nat.le_refl _) ?_
 rintro g w1 hg ho1 hE1
 refine so ?_
 refine wl_appendB (l := []) (by decide) sl26 rfl rfl ho1 (h.ext hE1) (by have := h.mx; simp; omega) hE1.size ?_
 rintro A2 c2 w2 ho ch _
 refine so ?_
 refine Pt ?_
 exact ⟨_, rfl, A2, c2, rfl, ho, hE1.trans (ch.off (fun _ _ x => absurd rfl x.1))⟩
set_option maxHeartbeats 40000000 in
theorem r12_within {n : Int} {least : Int} {most : Int}  : Ret prog 52 #[.int .i64 n, .int .i64 least, .int .i64 most] w (fun v w' => v = .bool (decide (least ≤ n ∧ n ≤ most)) ∧ w' = w) := by
 refine ret_of_wk func52 rfl ntmps52 leB_ ?_
 refine so ?_
 refine Gs 10 ?_ ?_<;>intro hg1<;>refine so ?_
 refine Pt ?_
 exact ⟨_, rfl, congrArg Value.bool (decide_eq_decide.2 (by omega)), rfl⟩
 refine Pt ?_
 exact ⟨_, rfl, bool_f (by omega), rfl⟩
set_option maxHeartbeats 40000000 in
theorem n_within {n : Int} {least : Int} {most : Int}  : Ret prog 62 #[.int .i64 n, .int .i64 least, .int .i64 most] w (fun v w' => v = .bool (decide (least ≤ n ∧ n ≤ most)) ∧ w' = w) := by
 refine ret_of_wk func62 rfl ntmps62 leB_ ?_
 refine so ?_
 refine Gs 10 ?_ ?_<;>intro hg1<;>refine so ?_
 refine Pt ?_
 exact ⟨_, rfl, congrArg Value.bool (decide_eq_decide.2 (by omega)), rfl⟩
 refine Pt ?_
 exact ⟨_, rfl, bool_f (by omega), rfl⟩
set_option maxHeartbeats 40000000 in
theorem w_within {n : Int} {least : Int} {most : Int}  : Ret prog 156 #[.int .i64 n, .int .i64 least, .int .i64 most] w (fun v w' => v = .bool (decide (least ≤ n ∧ n ≤ most)) ∧ w' = w) := by
 refine ret_of_wk func156 rfl ntmps156 leB_ ?_
 refine so ?_
 refine Gs 10 ?_ ?_<;>intro hg1<;>refine so ?_
 refine Pt ?_
 exact ⟨_, rfl, congrArg Value.bool (decide_eq_decide.2 (by omega)), rfl⟩
 refine Pt ?_
 exact ⟨_, rfl, bool_f (by omega), rfl⟩
set_option maxHeartbeats 40000000 in
theorem r11_within {n : Int} {least : Int} {most : Int}  : Ret prog 145 #[.int .i64 n, .int .i64 least, .int .i64 most] w (fun v w' => v = .bool (decide (least ≤ n ∧ n ≤ most)) ∧ w' = w) := by
 refine ret_of_wk func145 rfl ntmps145 leB_ ?_
 refine so ?_
 refine Gs 10 ?_ ?_<;>intro hg1<;>refine so ?_
 refine Pt ?_
 exact ⟨_, rfl, congrArg Value.bool (decide_eq_decide.2 (by omega)), rfl⟩
 refine Pt ?_
 exact ⟨_, rfl, bool_f (by omega), rfl⟩
set_option maxHeartbeats 40000000 in
theorem less_ok {a : Dig} {b : Dig}  : Ret prog 133 #[.agg (digC a).toArray, .agg (digC b).toArray] w (fun v w' => v = .bool (ltD a.l b.l) ∧ Ext w w') := by
 refine ret_of_wk func133 rfl ntmps133 leB_ ?_
 have hp:=HP.begin_ w
 refine so ?_
 refine Bx hp (h := fun gs2 w1 hp hE1 => ?_)
 refine Bx hp (h := fun gs3 w2 hp hE2 => so ?_)
 refine Lp [2, 3, 5] (fun L' w' mes => ∃ (k : Nat), L' = [(2, pt gs2 0), (3, pt gs3 0), (5, iv (k : Int))] ∧ (k ≤ 32) ∧ (ltD a.l b.l = ltD (a.l.drop k) (b.l.drop k)) ∧ Ext w2 w' ∧ 32 - k = mes) (32 - 0) (by
     refine ⟨0, rfl, ?_, ?_, me, rfl⟩
     omega
     rfl) ?_
 rintro _ wr _ ⟨k, rfl, hk, hlt, hEq0, rfl⟩ KL1 hKL1
 replace hp:=hp.ext hEq0
 refine so ?_
 refine Cd ?_ ?_<;>intro hk2<;>refine so ?_
 refine wdP 7 hp (fun wD hp hED => by refine pm ?_; exact .op rfl (wl_idxA (by decide) ar23 rfl rfl k rfl (by omega) (wl_nil qp)) (by refine pm ?_; exact .op rfl (Ld_ sc5 rfl ((((hp.blkAt (i := 1) rfl).at_ 0).take 32).dig rfl (by omega)) (wl_nil qp)) (by refine pm ?_; exact .op rfl (wl_idxA (by decide) ar23 rfl rfl k rfl (by omega) (wl_nil qp)) (by refine pm ?_; exact .op rfl (Ld_ sc5 rfl ((((hp.blkAt (i := 0) rfl).at_ 0).take 32).dig rfl (by omega)) (wl_nil qp)) pl)))) fun wD hp hED => ?_
 refine so ?_
 refine Cd ?_ ?_<;>intro hne<;>refine so ?_
 refine wdP 8 hp (fun wD hp hED => by refine pm ?_; exact .op rfl (wl_idxA (by decide) ar23 rfl rfl k rfl (by omega) (wl_nil qp)) (by refine pm ?_; exact .op rfl (Ld_ sc5 rfl ((((hp.blkAt (i := 1) rfl).at_ 0).take 32).dig rfl (by omega)) (wl_nil qp)) (by refine pm ?_; exact .op rfl (wl_idxA (by decide) ar23 rfl rfl k rfl (by omega) (wl_nil qp)) (by refine pm ?_; exact .op rfl (Ld_ sc5 rfl ((((hp.blkAt (i := 0) rfl).at_ 0).take 32).dig rfl (by omega)) (wl_nil qp)) pl)))) fun wD hp hED => ?_
 refine so ?_
 refine Pt ?_
 exact ⟨_, rfl, congrArg Value.bool (by rw [hlt, ltD_step a.h b.h (by omega : k < 32), if_neg (fun e => hne (by rw [e]))]; exact decide_eq_decide.2 (by omega)), hp.chg⟩
 refine Kl [2, 3, 5] hKL1 (32 - (k + 1)) ⟨(k + 1), rfl, by omega, ?_, me, rfl⟩ (by omega)
 rw [hlt, ltD_step a.h b.h (by omega), if_pos (UInt8.toNat_inj.1 (by omega))]
 refine Pt ?_
 exact ⟨_, rfl, congrArg Value.bool (by rw [hlt, ltD_end a.h (by omega)]), hp.chg⟩
set_option maxHeartbeats 40000000 in
theorem seqD_ok {Aa : Option Addr} {ca : Nat} {a : List Dig} {Sa : Nat → Prop} {Ab : Option Addr} {cb : Nat} {b : List Dig} {Sb : Nat → Prop} (ha : GS digR Sa w Aa ca a) (hb : GS digR Sb w Ab cb b) : Ret prog 73 #[.slice Aa a.length ca, .slice Ab b.length cb] w (fun v w' => v = .bool (decide (a = b)) ∧ Ext w w') := by
 have mha:=ha.mx
 have mhb:=hb.mx
 refine ret_of_wk func73 rfl ntmps73 leB_ ?_
 refine so ?_
 refine Cd ?_ ?_<;>intro hne
 refine so ?_
 refine Pt ?_
 exact ⟨_, rfl, bool_f (fun e => hne (by rw [e])), me⟩
 have hll : a.length = b.length := by omega
 refine so ?_
 refine Lp [0, 1, 12, 13] (fun L' w' mes => ∃ (k : Nat), L' = [(0, .slice Aa a.length ca), (1, .slice Ab b.length cb), (12, iv (a.length : Int)), (13, iv (k : Int))] ∧ (k ≤ a.length) ∧ (a.take k = b.take k) ∧ Ext w w' ∧ a.length - k = mes) (a.length - 0) (by
     refine ⟨0, rfl, ?_, ?_, me, rfl⟩
     omega
     simp) ?_
 rintro _ wr _ ⟨k, rfl, hk, htk, hEq0, rfl⟩ KL1 hKL1
 refine so ?_
 refine Cd ?_ ?_<;>intro hlt
 refine so ?_
 obtain ⟨aw2, hAw2, hatw2⟩ := GS.elD (ha.to (w' := wr)) k (by omega)
 obtain ⟨aw6, hAw6, hatw6⟩ := GS.elD (hb.to (w' := wr)) k (by omega)
 refine wdE 9 (fun wD hED => by refine pm ?_; exact .op rfl (wl_neqK (m := 6) ((a.getD k dig0) = (b.getD k dig0)) (by decide) key23 eg23 rfl rfl (digC_fit _) (digC_fit _) digC_inj (wl_nil qp)) pl) fun wD hED => ?_
 refine so ?_
 refine Cd ?_ ?_<;>intro hne2<;>refine so ?_
 refine Pt ?_
 exact ⟨_, rfl, bool_f (fun e => hne2 (by rw [e])), me⟩
 refine Kl [0, 1, 12, 13] hKL1 (a.length - (k + 1)) ⟨(k + 1), rfl, by omega, ?_, me, rfl⟩ (by omega)
 rw [take_snoc dig0 (by omega : k < a.length), take_snoc dig0 (by omega : k < b.length), htk, Decidable.not_not.1 hne2]
 have hkl : k = a.length := by omega
 refine so ?_
 refine Pt ?_
 exact ⟨_, rfl, bool_t (by rw [hkl, List.take_length, hll, List.take_length] at htk; exact htk), me⟩
set_option maxHeartbeats 4000000 in
theorem bequal_ok {Aa : Option Addr} {ca : Nat} {a : List UInt8} {Sa : Nat → Prop} {Ab : Option Addr} {cb : Nat} {b : List UInt8} {Sb : Nat → Prop} {w : World} (ha : GS byteR Sa w Aa ca a) (hb : GS byteR Sb w Ab cb b) : Ret Tryz.prog 66 #[.slice Aa a.length ca, .slice Ab b.length cb] w (fun v w' => v = .bool (decide (a = b)) ∧ Ext w w') := by
 have mha := ha.mx
 have mhb := hb.mx
 refine ret_of_wk Tryz.func66 rfl Tryz.ntmps66 (Nat.le_of_ble_eq_true rfl) ?_
 have hEc : Ext w w := Chg.refl _ _
 refine wc_seq ?_
 refine wc_region ?_
 refine wl_assign (by decide) rfl ?_
 refine wl_nil ?_
 refine wk_norm ?_
 refine wc_seq ?_
 refine wc_region ?_
 refine wl_move (by decide) rfl ?_
 refine wl_b2s (by decide) Tryz.underlying26 Tryz.underlying5 Tryz.underlying9 rfl ha ?_
 refine wl_move (by decide) rfl ?_
 refine wl_b2s (by decide) Tryz.underlying26 Tryz.underlying5 Tryz.underlying9 rfl hb ?_
 refine wl_eqls (by decide) rfl rfl ?_
 refine wl_assign (by decide) rfl ?_
 refine wl_nil ?_
 refine wk_norm ?_
 refine wc_ret ?_
 refine wk_post1 (.inl rfl) Tryz.results66 rfl ?_
 exact ⟨_, rfl, rfl, hEc⟩
def P8C (w : Wsh) : List Value := [.int .i64 w.client, .int .i64 w.stamp, .int .i64 w.group, .int .i64 w.epoch, .int .i64 w.kind, .int .i64 w.block, .int .i64 w.old, .int .i64 w.new]
theorem take_all {α : Type} {l m : List α} {k : Nat} (h : l.take k = m.take k) (h1 : k = l.length) (h2 : l.length = m.length) : l = m := by rw [h1, List.take_length, h2, List.take_length] at h; exact h
def WKd (w : Wsh) : Prop := (w.kind = 1 ∧ 1 ≤ w.group ∧ w.group ≤ 2 ∧ 0 ≤ w.block ∧ w.block ≤ 7) ∨ (w.kind = 2 ∧ 1 ≤ w.group ∧ w.group ≤ 2 ∧ 0 ≤ w.block ∧ w.block ≤ 7 ∧ w.data.length = 16) ∨ (w.kind = 3 ∧ w.group = 0 ∧ w.epoch = 0 ∧ 1 ≤ w.block ∧ w.block ≤ 2) ∨
 (w.kind = 4 ∧ w.group = 0 ∧ w.epoch = 0 ∧ 1 ≤ w.block ∧ w.block ≤ 2 ∧ 1 ≤ w.old ∧ w.old ≤ 28 ∧ 1 ≤ w.new ∧ w.new ≤ 28 ∧ w.old ≠ w.new) ∨ (w.kind = 5 ∧ 1 ≤ w.group ∧ w.group ≤ 2 ∧ nextMay w.next)
def cmpI (x y : Int) : Int := if x < y then -1 else if y < x then 1 else 0
set_option maxHeartbeats 4000000 in
theorem isNaN_ok {x : Int} {w : World}  : Ret Tryz.prog 154 #[.int .i64 x] w (fun v w' => v = .bool (decide (False)) ∧ w' = w) := by
 refine ret_of_wk Tryz.func154 rfl Tryz.ntmps154 (Nat.le_of_ble_eq_true rfl) ?_
 refine wc_seq ?_
 refine wc_region ?_
 refine wl_assign (by decide) rfl ?_
 refine wl_nil ?_
 refine wk_norm ?_
 refine wc_seq ?_
 refine wc_region ?_
 refine wl_move (by decide) rfl ?_
 refine wl_move (by decide) rfl ?_
 refine wl_neq (by decide) rfl rfl ?_
 refine wl_assign (by decide) rfl ?_
 refine wl_nil ?_
 refine wk_norm ?_
 refine wc_ret ?_
 refine wk_post1 (.inl rfl) Tryz.results154 rfl ?_
 exact ⟨_, rfl, congrArg Value.bool (decide_eq_decide.2 (by simp)), rfl⟩
def keyM (s : Int) (g : Dig) : Value := .agg ([Value.int .i64 s] ++ digC g).toArray
theorem wf64 {a : Int} (h : i64 a) : (Lit.int .i64 a).wf = true := by have := fit_int h.1 h.2; simpa [fitC] using this
theorem cntM_le (l : List Stn) (s : Int) (g : Dig) (k : Nat) (h : k ≤ l.length) : cntM (l.take k) s g ≤ k := by
 unfold cntM
 have := List.length_filter_le (fun x : Stn => decide (x.seq = s ∧ x.dig = g)) (l.take k)
 rw [List.length_take] at this
 omega
theorem cntQ_next {l : List Stn} {k : Nat} (h : k < l.length) : cntQ (l.take (k + 1)) (l.getD k stand0).seq = cntQ (l.take k) (l.getD k stand0).seq + 1 := by
 rw [take_snoc stand0 h, cntQ_snoc]; simp
def mnode (n : Nte) (k : Nat) : List Int := (n.changes.take k).map (·.node)
theorem WishNote_iff {n : Nte} : WishNote n ↔ (n.batch.length : Int) = 1 ∧ BatchMay n.batch n.group n.epoch ∧ (31 ≤ n.from_ ∧ n.from_ ≤ 34) ∧ (n.batch.getD 0 wish0).client = n.from_ ∧ (n.kind = 1 ∨ (n.batch.getD 0 wish0).kind = 1) := by
 unfold WishNote
 constructor
 ·rintro ⟨a1, a2, a3, a4, a5, a6⟩; exact ⟨by omega, a2, ⟨a3, a4⟩, a5, a6⟩
 ·rintro ⟨a1, a2, ⟨a3, a4⟩, a5, a6⟩; exact ⟨by omega, a2, a3, a4, a5, a6⟩
set_option maxHeartbeats 4000000 in
theorem gDig_ok {w0 w : World} {M0 Fz : Nat → Prop} {H : List It} {gw : Nat} {A : Option Addr} {c : Nat} {out : List UInt8} {pa : Addr} {d : Dig} (hp : HP w0 M0 Fz w (itB gw 89 [.slice A out.length c] :: itR 5 1 A out.length c (out.map bv) :: H)) (hat : AtF Fz w pa (digC d)) (hlen : out.length + d.l.length ≤ 1000000) : Ret Tryz.prog 175 #[.pointer (some ⟨gw, 0, none⟩), .pointer (some pa)] w (WrP 5 89 gw w0 M0 Fz w H (out ++ d.l)) := by
  have hFr := Frz.start Fz w
  refine ret_of_wk Tryz.func175 rfl Tryz.ntmps175 (Nat.le_of_ble_eq_true rfl) ?_
  obtain ⟨KM, ⟨hRo, hRk⟩, hKF, hKlt, hpo, hup⟩ := hp.apart (i := 1) rfl
  apply wc_drawTM 9 8 KM [SP.eq _, SP.eq _, SP.eq _, SP.eq _, SP.eq _, SP.eq _, SP.eq _, SP.eq (.slice (some pa) 32 32), SP.turn KM _ 5 1 (out.length + 32) (out.map bv ++ digC d)] (by kernel_rfl) (by kernel_rfl) ⟨.inr (fun _ _ _ _ h => h), .inr (fun _ _ _ _ h => h), .inr (fun _ _ _ _ h => h), .inr (fun _ _ _ _ h => h), .inr (fun _ _ _ _ h => h), .inr (fun _ _ _ _ h => h), .inr (fun _ _ _ _ h => h), .inr (fun _ _ _ _ h => h), .inl rfl, trivial⟩
  · refine ⟨?_, ?_, ?_, ?_, ?_, ?_, ?_, ?_, ?_, trivial⟩
    ·
      intro F wF hER hEE hk
      have e0 := hk.init 0 _ rfl (by kernel_rfl)
      refine wl_move (by decide) e0 ?_
      exact wl_nil (qr_some ⟨Chg.refl _ _, rfl⟩)
    ·
      intro F wF hER hEE hk
      have e0 := hk.init 0 _ rfl (by kernel_rfl)
      refine wl_move (by decide) e0 ?_
      exact wl_nil (qr_some ⟨Chg.refl _ _, rfl⟩)
    ·
      intro F wF hER hEE hk
      obtain ⟨u5, e5, h5⟩ := hk.pred 1 (by kernel_rfl) 5 rfl
      obtain rfl := h5
      refine wl_nilCheck (by decide) e5 ?_
      exact wl_nil (qr_some ⟨Chg.refl _ _, rfl⟩)
    ·
      intro F wF hER hEE hk
      obtain ⟨u6, e6, h6⟩ := hk.pred 2 (by kernel_rfl) 6 rfl
      obtain rfl := h6
      refine wl_fld' (o' := 0) (by decide) Tryz.fld89_0 e6 rfl ?_
      exact wl_nil (qr_some ⟨Chg.refl _ _, rfl⟩)
    ·
      intro F wF hER hEE hk
      obtain ⟨u7, e7, h7⟩ := hk.pred 3 (by kernel_rfl) 7 rfl
      obtain rfl := h7
      refine wl_hload (i := 0) (by decide) Tryz.sc26 e7 (hpo _ hER) rfl rfl ?_
      exact wl_nil (qr_some ⟨Chg.refl _ _, rfl⟩)
    ·
      intro F wF hER hEE hk
      have e1 := hk.init 1 _ rfl (by kernel_rfl)
      refine wl_move (by decide) e1 ?_
      exact wl_nil (qr_some ⟨Chg.refl _ _, rfl⟩)
    ·
      intro F wF hER hEE hk
      obtain ⟨u9, e9, h9⟩ := hk.pred 5 (by kernel_rfl) 9 rfl
      obtain rfl := h9
      refine wl_nilCheck (by decide) e9 ?_
      exact wl_nil (qr_some ⟨Chg.refl _ _, rfl⟩)
    ·
      intro F wF hER hEE hk
      obtain ⟨u10, e10, h10⟩ := hk.pred 6 (by kernel_rfl) 10 rfl
      obtain rfl := h10
      refine wl_sliceA (by decide) Tryz.ar23 e10 ?_
      exact wl_nil (qr_some ⟨Chg.refl _ _, rfl⟩)
    ·
      intro F wF hER hEE hk
      have hEx := hEE rfl
      obtain ⟨u8, e8, h8⟩ := hk.pred 4 (by kernel_rfl) 8 rfl
      obtain rfl := h8
      obtain ⟨u11, e11, h11⟩ := hk.pred 7 (by kernel_rfl) 11 rfl
      obtain rfl := h11
      refine wl_append (size := 1) (m := 32) (news := digC d) (by decide) Tryz.sl26 e8 e11 (hRo.ext hEx) rfl (fun b hb => by cases hb; exact (hat.ext hEx).at_) (by simp) (List.all_eq_true.1 rfl) (by omega) (Nat.zero_le _) ?_
      rintro A3 c3 w3 ho3 hch3 h43
      exact wl_nil (qr_some ⟨hch3.weak (fun b _ x => (hRk b).2 ⟨x.1, x.2.2⟩), A3, c3, rfl, ho3, fun b hb => (by
          rcases h43 with ⟨rfl, rfl⟩ | rfl
          · exact .inl ((hRk b).2 hb)
          · obtain ⟨_, a, ha, rfl⟩ := hb
            cases ha
            exact .inr hEx.size)⟩)
  ·
    intro F wD hED hini hdo
    obtain ⟨u4, e4, h4⟩ := hdo 0 4 (Nat.lt_of_lt_of_eq (by decide) rfl) rfl
    obtain rfl := h4
    obtain ⟨u12, e12, h12⟩ := hdo 8 12 (Nat.lt_of_lt_of_eq (by decide) rfl) rfl
    obtain ⟨A3, c3, rfl, ho3, hK3⟩ := h12
    refine wl_drop [(4, _), (12, _)] ⟨e4, e12, trivial⟩ ?_
    clear e4 e12 hini hdo
    replace hFr := hFr.fz (hED.weak (fun b _ hb => hKF b hb))
    replace hat := hat.fz (hED.weak (fun b _ hb => hKF b hb))
    replace hp := hup _ (itR 5 1 A3 (out.length + 32) c3 (out.map bv ++ digC d)) (fun b => c3 ≠ 0 ∧ blk A3 b) hED ⟨ho3, fun _ => Iff.rfl⟩ hK3
    refine wl_nilCheck (by decide) rfl ?_
    refine wl_fld' (o' := 0) (by decide) Tryz.fld89_0 rfl rfl ?_
    refine wl_hstore1 (i := 0) rfl rfl hp rfl Tryz.sz26 (Nat.succ_pos _) rfl ?_
    rintro w9 hp9 hC9
    replace hFr := (hFr.fz hC9).wid (fun b hb => hb)
    replace hat := (hat.fz hC9).wid (fun b hb => hb)
    replace hp := (hp9.as_ (H' := _ :: _ :: _) rfl)
    refine wl_nil ?_
    refine wk_post0 (.inr rfl) Tryz.results175  ?_
    have e1 : out.map bv ++ digC d = (out ++ d.l).map bv := by rw [digC_map, List.map_append]
    have e2 : out.length + 32 = (out ++ d.l).length := by rw [List.length_append, d.2]
    rw [e1, e2] at hp
    exact ⟨_, rfl, _, _, hp, hFr⟩
theorem many_fin {bad b1 bad' : Bool} {l l1 : List UInt8} {x1 x' most : Int} (h : StepP numP (rst bad l) (rst b1 l1) x1) (hb : bad' = (b1 || decide (most < x1))) (hx : x' = if bad' = true then 0 else x1) : StepP (manyP most) (rst bad l) (rst bad' l1) x' := by
 subst hb hx
 exact step_many h
theorem flat_take {α : Type} (E : α → List UInt8) (l : List α) (k : Nat) (hk : k < l.length) : flatE E (l.take (k + 1)) = flatE E (l.take k) ++ E l[k] := by
 rw [List.take_succ_eq_append_getElem hk, flatE_snoc]
theorem num_good {n : Int} (h : isNum n) : numS n = (numE n, 0) := by unfold isNum at h; rw [numS, if_neg (by omega)]; rfl
theorem nums_len {l : List Int} (h : ∀ x ∈ l, isNum x) (k : Nat) : (flatE numE (l.take k)).length ≤ l.length * 8 := by
 have := flatE_len numE (l.take k) 8 (fun x hx => numE_len (h x (List.mem_of_mem_take hx)))
 rw [List.length_take] at this
 omega
theorem witem_len {x : Wsh} (h : WishMay x) : (witemE x).length ≤ 164 := by
 have h1 := (wish_fine h).2
 have h2 := strE_len (wishE x) (by omega)
 unfold witemE
 omega
def RwP (te : Nat) (w0 : World) (M0 Fz : Nat → Prop) (w : World) (H : List It) (out : List UInt8) (v : Value) (w2 : World) : Prop := ∃ A' c', v = .slice A' out.length c' ∧ HP w0 M0 Fz w2 (itR te 1 A' out.length c' (out.map bv) :: H) ∧ Frz Fz Fz w w2
theorem getD_ok {α : Type} {P : α → Prop} {l : List α} (h : ∀ x ∈ l, P x) {k : Nat} (z : α) (hk : k < l.length) : P (l.getD k z) := by
 rw [List.getD_eq_getElem?_getD, List.getElem?_eq_getElem hk]
 exact h _ (List.getElem_mem hk)
def parseS (l : List UInt8) : Option Wsh := match wishP l with
 | some (x, u) => if u = [] ∧ WishMay x then some x else none
 | none => none
def ReadR (l : List UInt8) (x : Nte) (ok : Bool) : Prop := (ok = true → noteP l = some (x, [])) ∧ (ok = false → ∀ y, noteP l ≠ some (y, []))
theorem OwnRow.frz {e size lo n c : Nat} {A : Option Addr} {xs : List Value} {w w' : World} {F8 : Nat → Prop} (h : OwnRow e size lo w A n c xs) (hf : ∀ b, c ≠ 0 → blk A b → F8 b) (ch : Chg (fun b => ¬ F8 b) w w') : OwnRow e size lo w' A n c xs := by
 by_cases hc : c = 0
 ·exact ⟨h.len, h.le, h.mx, .inl ⟨hc, by have := h.le; omega⟩⟩
 ·exact h.keep ch (fun b _ _ hb hn => hn (hf b hc hb))
theorem len_is {α : Type} {l : List α} {m : Int} (h : (l.length : Int) ≤ m) (hm : m ≤ 40) : isNum (l.length : Int) := by unfold isNum; omega
end Go.Proofs.YtkdoomglflikkaaGreat
namespace Go.Proofs.YtkdoomglflikkaaGreat
open Go.Eng Go.RowKit Go.Eng _root_.Go.Proofs.Tryz
set_option maxRecDepth 100000
variable {w0 w : World} {M0 Fz : Nat → Prop} {H : List It} {A : Option Addr} {c : Nat}
structure SpN (S : Nat → Prop) (w : World) (cs : List Value) (n : Nte) : Prop where
 b : ∀ A c, cs[38]? = some (.slice A n.batch.length c) → WshAt S w A n.batch.length
 d : ∀ A c, cs[56]? = some (.slice A n.data.length c) → IntsAt S w .u8 A n.data.length 1 0
 k : ∀ A c, cs[57]? = some (.slice A n.nodes.length c) → IntsAt S w .i64 A n.nodes.length 1 0
 g : ∀ A c, cs[51]? = some (.slice A n.changes.length c) → IntsAt S w .i64 A n.changes.length 6 2
theorem WshAt.mono {S S' : Nat → Prop} {w : World} {A : Option Addr} {n : Nat} (h : WshAt S w A n) (hm : ∀ b, b < w.heap.size → S b → S' b) : WshAt S' w A n := fun i hi => by
 obtain ⟨a, hA, h1, B, m, d, h2, h3, h4⟩ := h i hi
 exact ⟨a, hA, ⟨hm _ h1.lt h1.inS, h1.ex, h1.nf⟩, B, m, d, h2, h3, h4.mono hm⟩
end Go.Proofs.YtkdoomglflikkaaGreat
namespace Go.Proofs.YtkdoomglflikkaaGreat
open Go.RowKit Go.Eng Go.Eng _root_.Go.Proofs.Tryz
set_option maxRecDepth 100000
variable {w0 w : World} {M0 Fz : Nat → Prop} {H : List It} {A : Option Addr} {c : Nat}
theorem read_own {x : Nte} (h : noteOk x) : noteP (noteE x) = some (ownN x, []) := by
 have := note_rd x [] h
 rwa [List.append_nil] at this
def wshA : Wsh := ⟨31, 5, 1, 2, 1, 3, [], 0, 0, []⟩
def headN (k : Int) : Nte := { note0 with kind := k, from_ := 3, group := 1, epoch := 2 }
def awN : Nte := { note0 with kind := 12, from_ := 2, group := 1, epoch := 5, nodes := [5, 6, 7, 9] }
def listsE (x : Nte) : List UInt8 := listE changeE x.changes ++ listE pickE x.picks
def PieceOk (x : Nte) : Prop := isNum x.seq ∧ isNum x.level ∧ isNum x.place ∧ (x.kind ≠ 10 → isNum (x.digs.length : Int) ∧ x.data.length ≤ 65536)
end Go.Proofs.YtkdoomglflikkaaGreat
