/- What each of these functions computes, for every argument that its theorem names; a part of what the proof of NoteChecks stands on. -/
import Derived.Test.YtkdoomglflikkaaGreatCac
import Derived.Test.YtkdoomglflikkaaGreatCad
import Derived.Test.YtkdoomglflikkaaGreatCae
namespace Go.Proofs.YtkdoomglflikkaaGreat
open Go.RowKit Go.Eng Go.Eng _root_.Go.Proofs.Tryz
set_option maxRecDepth 100000
variable {w0 w : World} {M0 Fz : Nat → Prop} {H : List It} {A : Option Addr} {c : Nat}
theorem WshI0 : WshI wish0 := by unfold WshI i64; decide
def wishR : Rep Wsh where
 size := 10
 rd := fun S w cs x => WshI x ∧ ∃ A0 c0 A1 c1, cs = [.int .i64 x.client, .int .i64 x.stamp, .int .i64 x.group, .int .i64 x.epoch, .int .i64 x.kind, .int .i64 x.block, .slice A0 x.data.length c0, .int .i64 x.old, .int .i64 x.new, .slice A1 x.next.length c1] ∧ GS byteR S w A0 c0 x.data ∧ GS intR S w A1 c1 x.next
 len := by rintro _ _ _ _ ⟨hI, A0, c0, A1, c1, rfl, k0, k1⟩; rfl
 one := by rintro _ _ _ _ ⟨hI, A0, c0, A1, c1, rfl, k0, k1⟩; exact List.all_eq_true.1 rfl
 keep := by rintro _ _ _ _ _ _ ch hm ⟨hI, A0, c0, A1, c1, rfl, k0, k1⟩; exact ⟨hI, _, _, _, _, rfl, k0.keep ch hm, k1.keep ch hm⟩
 mono := by rintro _ _ _ _ _ hs ⟨hI, A0, c0, A1, c1, rfl, k0, k1⟩; exact ⟨hI, _, _, _, _, rfl, k0.mono hs, k1.mono hs⟩
def markR : Rep Mrk where
 size := 33
 rd := fun S w cs x => MrkI x ∧ cs = [.int .i64 x.seq] ++ (digC x.dig)
 len := by rintro _ _ _ _ ⟨hI, rfl⟩; rfl
 one := by rintro _ _ _ _ ⟨hI, rfl⟩; exact List.all_eq_true.1 rfl
 keep := by rintro _ _ _ _ _ _ ch hm ⟨hI, rfl⟩; exact ⟨hI, rfl⟩
 mono := by rintro _ _ _ _ _ hs ⟨hI, rfl⟩; exact ⟨hI, rfl⟩
def standR : Rep Stn where
 size := 34
 rd := fun S w cs x => StnI x ∧ cs = [.int .i64 x.seq] ++ (digC x.dig ++ ([.int .i64 x.view]))
 len := by rintro _ _ _ _ ⟨hI, rfl⟩; rfl
 one := by rintro _ _ _ _ ⟨hI, rfl⟩; exact List.all_eq_true.1 rfl
 keep := by rintro _ _ _ _ _ _ ch hm ⟨hI, rfl⟩; exact ⟨hI, rfl⟩
 mono := by rintro _ _ _ _ _ hs ⟨hI, rfl⟩; exact ⟨hI, rfl⟩
theorem NteI.ans {n : Nte} (h : NteI n) : AnsI n.ans := by unfold NteI i64 at h; unfold AnsI i64; omega
theorem MrkI.fit {x : Mrk} (h : MrkI x) : FitK (some .i64 :: List.replicate 32 (some .u8)) ([.int .i64 x.seq] ++ (digC x.dig)) := FitK.cons (fit_int h.1 h.2) (digC_fit x.dig)
end Go.Proofs.YtkdoomglflikkaaGreat
namespace Go.Proofs.YtkdoomglflikkaaGreat
open Go.ChangeShapes Go.WideShapes Go.ChangeAt Go.RowKit Go.Eng Go.Eng _root_.Go.Proofs.Tryz
set_option maxRecDepth 100000
variable {w0 w : World} {M0 Fz : Nat → Prop} {H : List It} {A : Option Addr} {c : Nat}
theorem reads_t26 : ReadsR Tryz.prog 26 (sliceR byteR) (fun l => l.length * 1 ≤ 140737488355328) := fun H enc w base sp held fuel cs x h hl hw => by
 obtain ⟨v, h1, h2⟩ := reads_slice (size := 1) (bytes := 1) Tryz.underlying26 rfl (by decide) Tryz.ce5 Tryz.by5 (by decide) (reads_byte Tryz.underlying5) H enc w base sp held fuel cs x h hl hw
 exact ⟨v, h1, h2.2⟩
end Go.Proofs.YtkdoomglflikkaaGreat
namespace Go.Proofs.YtkdoomglflikkaaGreat
open Go.RowKit Go.Eng Go.Eng _root_.Go.Proofs.Tryz
set_option maxRecDepth 100000
variable {w0 w : World} {M0 Fz : Nat → Prop} {H : List It} {A : Option Addr} {c : Nat}
theorem num_ok {n : Int} (h1 : -9223372036854775808 ≤ n) (h2 : n ≤ 9223372036854775807) : Ret prog 180 #[.int .i64 n] w (fun v w' => ∃ A c, v = .tuple #[.slice A (numS n).1.length c, .int .i64 (numS n).2] ∧ OwnB 5 w.heap.size w' A c (numS n).1 ∧ Ext w w') := by
 refine ret_of_wk func180 rfl ntmps180 leB_ ?_
 refine so ?_
 refine Gs 9 ?_ ?_<;>intro hg<;>refine so ?_
 refine aT (so ?_)
 refine P2 results180 ?_
 exact ⟨_, rfl, none, 0, by rw [numS, if_pos (by omega)]; rfl, by rw [numS, if_pos (by omega)]; exact OwnRow.nil _ _ _ _ _, Chg.refl _ _⟩
 refine Cd ?_ ?_<;>intro hc
 refine so ?_
 refine P2 results180 ?_
 exact ⟨_, rfl, none, 0, by rw [numS, if_pos (by omega)]; rfl, by rw [numS, if_pos (by omega)]; exact OwnRow.nil _ _ _ _ _, Chg.refl _ _⟩
 obtain ⟨N, rfl⟩ : ∃ N : Nat, n = N := ⟨n.toNat, by omega⟩
 have hs : numS (N : Int) = (numL N, 0) := by rw [numS, if_neg (by omega)]; simp
 have hN : N ≤ 9007199254740991 := by omega
 have h7:=digs_len N hN
 refine so ?_
 refine Lp [0, 4] (fun L' w' mes => ∃ (m : Nat), L' = [(0, iv (N : Int)), (4, iv (m : Int))] ∧ (m ≤ (digs N).length) ∧ (w = w') ∧ (digs N).length - m = mes) ((digs N).length - 0) (by
     refine ⟨0, rfl, by omega, ?_, rfl⟩
     rfl) ?_
 rintro _ wr _ ⟨m, rfl, hm, hw, rfl⟩ KL1 hKL1
 subst hw
 refine so ?_
 refine wl_mul (by decide) rfl rfl (w64 (by omega) (by omega)) ?_
 refine wl_shr (by decide) rfl rfl (by omega) (shr256 N m _ rfl (by omega)) ?_
 refine so ?_
 refine Cd ?_ ?_<;>intro hlt
 have hml : m < (digs N).length := (digs_lt N m hN (by omega)).1 (by omega)
 refine so ?_
 refine Kl [0, 4] hKL1 ((digs N).length - (m + 1)) ⟨(m + 1), rfl, by omega, ?_, rfl⟩ (by omega)
 rfl
 have hme : (digs N).length = m := by
   have := mt (digs_lt N m hN (by omega)).2 (by omega)
   omega
 refine so ?_
 refine wl_conv (by decide) it3 it5 rfl (wrap_u8 _) ?_
 refine wl_bsliceB (xs := [.tmp 21]) (bs := [u8Of m]) (by decide) sl26 rfl rfl rfl (by simp) w.heap.size (Nat.le_refl _) ?_
 rintro g w1 hg1 ho1 hE1
 refine so ?_
 refine Lp [0, 4, 5, 23, 24] (fun L' w' mes => ∃ (i : Nat), ∃ (A : Option Addr), ∃ (c : Nat), L' = [(0, iv (N : Int)), (4, iv (m : Int)), (5, .slice A (UInt8.ofNat m :: (digs N).take i).length c), (23, iv (m : Int)), (24, iv (i : Int))] ∧ (i ≤ m) ∧ (OwnB 5 w.heap.size w' A c (UInt8.ofNat m :: (digs N).take i)) ∧ (Ext w w') ∧ m - i = mes) (m - 0) (by
     refine ⟨0, _, _, rfl, by omega, ?_, hE1, rfl⟩
     rw [u8Of_nat] at ho1; exact ho1) ?_
 rintro _ wr _ ⟨i, A, c, rfl, hi, ho, hE, rfl⟩ KL2 hKL2
 refine so ?_
 refine Cd ?_ ?_<;>intro hlt2<;>refine so ?_
 have hsucc:=digs_succ N i (by omega)
 rw [hme, ← u8Of_nat (N / _)] at hsucc
 refine so ?_
 refine wl_mul (by decide) rfl rfl (w64 (by omega) (by omega)) ?_
 refine wl_shr (by decide) rfl rfl (by omega) (shr256 N (m - 1 - i) _ (by omega) (by omega)) ?_
 refine wl_conv (by decide) it3 it5 rfl (wrap_u8 _) ?_
 refine wl_bsliceB (xs := [.tmp 35]) (bs := [u8Of ((N / 256 ^ (m - 1 - i) : Nat) : Int)]) (by decide) sl26 rfl rfl rfl (by simp) wr.heap.size (Nat.le_refl _) ?_
 rintro g2 w2 hg2 ho2 hE2
 refine wl_appendB (l2 := [u8Of ((N / 256 ^ (m - 1 - i) : Nat) : Int)]) (by decide) sl26 rfl rfl (ho.ext hE2) ho2.bs (by have := ho.mx; have := digs_len N hN; simp; omega) (Nat.le_trans hE.size hE2.size) ?_
 rintro A3 c3 w3 ho3 ch3 _
 refine sl ?_
 refine wc_region ?_
 refine sl ?_
 refine wk_drop [(0, iv (N : Int)), (4, iv (m : Int)), (5, .slice A3 (UInt8.ofNat m :: (digs N).take (i + 1)).length c3), (23, iv (m : Int)), (24, iv ((i + 1) : Int))] ⟨rfl, rfl, (by rw [hsucc]; rfl), rfl, rfl, trivial⟩ (hKL2 _ _ (m2 := m - (i + 1)) ?_ ?_)
 refine ⟨(i + 1), A3, c3, rfl, by omega, ?_, (hE.trans hE2).own ch3 (Nat.le_refl _), rfl⟩
 rw [hsucc]; exact ho3
 omega
 refine P2 results180 ?_
 have hfin : UInt8.ofNat m :: (digs N).take i = numL N := by rw [List.take_of_length_le (by omega), ← hme]; rfl
 rw [hfin] at ho ⊢
 exact ⟨_, rfl, A, c, by rw [hs], by rw [hs]; exact ho, hE⟩
theorem join_ok {ls : List (List UInt8)} {Sa : Nat → Prop} (h : GS (sliceR byteR) Sa w A c ls) (hb : ls.flatten.length ≤ 140737488355328) : Ret prog 184 #[.slice A ls.length c] w (fun v w' => ∃ A' c', v = .slice A' ls.flatten.length c' ∧ OwnB 5 w.heap.size w' A' c' ls.flatten ∧ Ext w w') := by
 refine ret_of_wk func184 rfl ntmps184 leB_ ?_
 refine so ?_
 refine Lp [3, 6, 7, 8] (fun L' w' mes => ∃ (k : Nat), ∃ (A2 : Option Addr), ∃ (c2 : Nat), L' = [(3, .slice A2 (ls.take k).flatten.length c2), (6, .slice A ls.length c), (7, iv (ls.length : Int)), (8, iv (k : Int))] ∧ (k ≤ ls.length) ∧ (OwnB 5 w.heap.size w' A2 c2 (ls.take k).flatten) ∧ (Ext w w') ∧ ls.length - k = mes) (ls.length - 0) ⟨0, _, _, rfl, by omega, OwnRow.nil _ _ _ _ _, Chg.refl _ _, rfl⟩ ?_
 rintro _ wr _ ⟨k, A2, c2, rfl, hk, ho, hE, rfl⟩ KL1 hKL1
 have hmx:=h.mx
 refine so ?_
 refine Cd ?_ ?_<;>intro hlt
 refine so ?_
 refine wl_idx (r := sliceR byteR) (by decide) sl187 rfl rfl (h.ext hE) k rfl (by omega) ?_
 rintro a cs hb1 _ hat ⟨Ak, ck, rfl, hgk⟩
 refine Ld_ sc26 rfl hat.head (so ?_)
 have hsucc : (ls.take (k + 1)).flatten = (ls.take k).flatten ++ ls[k] := by rw [← List.take_append_getElem (by omega : k < ls.length), List.flatten_append]; simp only [List.flatten_cons, List.flatten_nil, List.append_nil]
 have hlen : (ls.take (k + 1)).flatten.length ≤ ls.flatten.length := by
   have e : ls.flatten = (ls.take (k + 1)).flatten ++ (ls.drop (k + 1)).flatten := by rw [← List.flatten_append, List.take_append_drop]
   rw [e, List.length_append]; omega
 rw [hsucc, List.length_append] at hlen
 refine wl_appendB (by decide) sl26 rfl rfl ho hgk (by omega) hE.size ?_
 rintro A3 c3 w3 ho3 ch3 _
 refine sl ?_
 refine wc_region ?_
 refine sl ?_
 refine wk_drop [(3, .slice A3 (ls.take (k + 1)).flatten.length c3), (6, .slice A ls.length c), (7, iv (ls.length : Int)), (8, iv ((k + 1) : Int))] ⟨(by rw [hsucc]; rfl), rfl, rfl, rfl, trivial⟩ (hKL1 _ _ (m2 := ls.length - (k + 1)) ?_ ?_)
 refine ⟨(k + 1), A3, c3, rfl, by omega, ?_, hE.own ch3 (Nat.le_refl _), rfl⟩
 rw [hsucc]; exact ho3
 omega
 have hkl : k = ls.length := by omega
 refine so ?_
 refine Pt ?_
 subst hkl
 rw [List.take_length] at ho ⊢
 exact ⟨_, rfl, A2, c2, rfl, ho, hE⟩
set_option maxHeartbeats 4000000 in
theorem r12_node {n : Int} {w : World}  : Ret Tryz.prog 53 #[.int .i64 n] w (fun v w' => v = .bool (decide (1 ≤ n ∧ n ≤ 28)) ∧ w' = w) := by
 refine ret_of_wk Tryz.func53 rfl Tryz.ntmps53 (Nat.le_of_ble_eq_true rfl) ?_
 refine wc_seq ?_
 refine wc_region ?_
 refine wl_assign (by decide) rfl ?_
 refine wl_nil ?_
 refine wk_norm ?_
 refine wc_seq ?_
 refine wc_region ?_
 refine wl_move (by decide) rfl ?_
 refine wl_call (by decide) Tryz.cl52 rfl (r12_within) ?_
 rintro _ _ ⟨rfl, rfl⟩
 refine wl_assign (by decide) rfl ?_
 refine wl_nil ?_
 refine wk_norm ?_
 refine wc_ret ?_
 refine wk_post1 (.inl rfl) Tryz.results53 rfl ?_
 exact ⟨_, rfl, congrArg Value.bool (decide_eq_decide.2 (by omega)), rfl⟩
set_option maxHeartbeats 4000000 in
theorem n_isNode {n : Int} {w : World}  : Ret Tryz.prog 63 #[.int .i64 n] w (fun v w' => v = .bool (decide (1 ≤ n ∧ n ≤ 28)) ∧ w' = w) := by
 refine ret_of_wk Tryz.func63 rfl Tryz.ntmps63 (Nat.le_of_ble_eq_true rfl) ?_
 refine wc_seq ?_
 refine wc_region ?_
 refine wl_assign (by decide) rfl ?_
 refine wl_nil ?_
 refine wk_norm ?_
 refine wc_seq ?_
 refine wc_region ?_
 refine wl_move (by decide) rfl ?_
 refine wl_call (by decide) Tryz.cl62 rfl (n_within) ?_
 rintro _ _ ⟨rfl, rfl⟩
 refine wl_assign (by decide) rfl ?_
 refine wl_nil ?_
 refine wk_norm ?_
 refine wc_ret ?_
 refine wk_post1 (.inl rfl) Tryz.results63 rfl ?_
 exact ⟨_, rfl, congrArg Value.bool (decide_eq_decide.2 (by omega)), rfl⟩
set_option maxHeartbeats 4000000 in
theorem n_isView {n : Int} {w : World}  : Ret Tryz.prog 103 #[.int .i64 n] w (fun v w' => v = .bool (decide (isView n)) ∧ w' = w) := by
 refine ret_of_wk Tryz.func103 rfl Tryz.ntmps103 (Nat.le_of_ble_eq_true rfl) ?_
 refine wc_seq ?_
 refine wc_region ?_
 refine wl_assign (by decide) rfl ?_
 refine wl_nil ?_
 refine wk_norm ?_
 refine wc_seq ?_
 refine wc_region ?_
 refine wl_move (by decide) rfl ?_
 refine wl_call (by decide) Tryz.cl62 rfl (n_within) ?_
 rintro _ _ ⟨rfl, rfl⟩
 refine wl_assign (by decide) rfl ?_
 refine wl_nil ?_
 refine wk_norm ?_
 refine wc_ret ?_
 refine wk_post1 (.inl rfl) Tryz.results103 rfl ?_
 exact ⟨_, rfl, congrArg Value.bool (decide_eq_decide.2 (by unfold isView; omega)), rfl⟩
theorem plain8_inj {a b : Wsh} : plain8 a = plain8 b ↔ P8C a = P8C b := by simp [plain8, P8C]
instance (a b : Nte) : Decidable (SameL a b) := by unfold SameL; infer_instance
theorem ownW_iff {w : Wsh} : w = ownW w ↔ (w.kind = 5 ∧ w.client = 0 ∧ w.stamp = 0 ∧ w.block = 0 ∧ w.data.length = 0 ∧ w.old = 0 ∧ w.new = 0) ∨ (w.kind ≠ 5 ∧ (w.kind = 2 ∨ w.data.length = 0) ∧ (w.kind = 4 ∨ (w.old = 0 ∧ w.new = 0)) ∧ w.next.length = 0) := by
 unfold ownW
 by_cases h : w.kind = 5
 ·rw [if_pos h, Wsh_eq]
  simp [wish0, h]
 ·rw [if_neg h, Wsh_eq]
  by_cases h2 : w.kind = 2 <;> by_cases h4 : w.kind = 4 <;> simp [wish0, h, h2, h4, and_assoc]
set_option maxHeartbeats 4000000 in
theorem fICon_ok {Al : Option Addr} {cl : Nat} {l : List Int} {Sl : Nat → Prop} {fid : Nat} {first cap : List Value} {p0 : Int → Prop} [DecidablePred p0] {w : World} (hl : GS intR Sl w Al cl l) (hcl0 : callable Tryz.prog fid = true) (hf : ∀ w1 x, Ext w w1 → Ret Tryz.prog fid (first ++ [Value.int .i64 x] ++ cap).toArray w1 fun v w2 => v = Value.bool (decide (p0 x)) ∧ Ext w1 w2) : Ret Tryz.prog 106 #[.slice Al l.length cl, .func (.func fid) first.toArray cap.toArray] w (fun v w' => v = .bool (decide (∃ x ∈ l, p0 x)) ∧ Ext w w') := by
 have mhl := hl.mx
 refine ret_of_wk Tryz.func106 rfl Tryz.ntmps106 (Nat.le_of_ble_eq_true rfl) ?_
 have hEc : Ext w w := Chg.refl _ _
 refine wc_seq ?_
 refine wc_region ?_
 refine wl_assign (by decide) rfl ?_
 refine wl_nil ?_
 refine wk_norm ?_
 refine wc_seq ?_
 refine wc_region ?_
 refine wl_move (by decide) rfl ?_
 refine wl_move (by decide) rfl ?_
 have hcl := fIIdx_ok hl hcl0 hf
 refine wl_call (by decide) Tryz.cl138 rfl hcl ?_
 clear hcl
 rintro _ w7 ⟨r, rfl, hr, hE7⟩
 replace hl := hl.ext hE7
 replace hEc := hEc.trans hE7
 refine wl_geq (by decide) rfl rfl ?_
 refine wl_assign (by decide) rfl ?_
 refine wl_nil ?_
 refine wk_norm ?_
 refine wc_ret ?_
 refine wk_post1 (.inl rfl) Tryz.results106 rfl ?_
 exact ⟨_, rfl, congrArg Value.bool (decide_eq_decide.2 hr), hEc⟩
theorem orI_step {l : List Int} {k : Nat} (hk : k < l.length) : orI (l.drop k) = if l.getD k 0 = 0 then orI (l.drop (k + 1)) else l.getD k 0 := by
 rw [List.drop_eq_getElem_cons hk, orI, List.getD_eq_getElem?_getD, List.getElem?_eq_getElem hk]; rfl
theorem keyM_inj {s t : Int} {g h : Dig} : keyM s g = keyM t h ↔ s = t ∧ g = h := by
 unfold keyM
 constructor
 ·intro e
  injection e with e
  have e2 := congrArg Array.toList e
  simp only [List.cons_append, List.nil_append, List.cons.injEq, Value.int.injEq, true_and] at e2
  exact ⟨e2.1, digC_inj.2 e2.2⟩
 ·rintro ⟨rfl, rfl⟩; rfl
theorem CntF.val {f : Value → Option Value} {l : List Stn} (h : CntF f l) (s : Int) : (f (.int .i64 s)).getD (.int .i64 0) = .int .i64 (cntQ l s : Nat) := by
 rw [h s]; by_cases e : cntQ l s = 0 <;> simp [e]
theorem CntF.nil : CntF (fun _ => none) [] := fun s => by simp [cntQ]
theorem mseq_succ {cg : Chn} {k : Nat} (h : k < cg.marks.length) : mseq cg (k + 1) = mseq cg k ++ [(cg.marks.getD k mark0).seq] := by unfold mseq; rw [take_snoc mark0 h, List.map_append]; rfl
theorem mseq_get {cg : Chn} {k i : Nat} (h : i < k) : (mseq cg k).getD i 0 = (cg.marks.getD i mark0).seq := by
 unfold mseq
 simp only [List.getD_eq_getElem?_getD, List.getElem?_map, List.getElem?_take, h, if_true]
 cases cg.marks[i]? <;> rfl
theorem mnode_succ {n : Nte} {k : Nat} (h : k < n.changes.length) : mnode n (k + 1) = mnode n k ++ [(n.changes.getD k change0).node] := by unfold mnode; rw [take_snoc change0 h, List.map_append]; rfl
theorem mnode_get {n : Nte} {k i : Nat} (h : i < k) : (mnode n k).getD i 0 = (n.changes.getD i change0).node := by
 unfold mnode
 simp only [List.getD_eq_getElem?_getD, List.getElem?_map, List.getElem?_take, h, if_true]
 cases n.changes[i]? <;> rfl
theorem flat_room {α : Type} {E : α → List UInt8} {l _out : List α} {o : List UInt8} {k : Nat} (hk : k < l.length) (h : o.length + (listE E l).length ≤ 1000000) : (o ++ numE (l.length : Int) ++ flatE E (l.take k)).length + (E l[k]).length ≤ 1000000 := by
 have h1 := flat_take_le E l (k + 1)
 rw [flat_take E l k hk] at h1
 simp only [listE, List.length_append] at h h1 ⊢
 omega
theorem parse_no {l lR : List UInt8} {eR e2 : Int} {x : Wsh} (h : StepP wishP (some l) (rst (decide (eR ≠ 0)) lR) x) (hen : e2 = if eR = 0 ∧ 0 < lR.length then 4 else eR) (h2 : e2 ≠ 0) : parseS l = none := by
 have h0 := (not_congr (end_E hen)).1 h2
 unfold parseS
 cases hs : rst (decide (eR ≠ 0)) lR with
 | none =>
  rw [hs] at h
  have h1 : wishP l = none := h
  rw [h1]
 | some u =>
  rw [hs] at h h0
  have h1 : wishP l = some (x, u) := h
  rw [h1]
  exact if_neg (fun hh => h0 (by rw [hh.1]))
def ParseR (l : List UInt8) (x : Wsh) (e : Int) : Prop := (e = 0 ∧ parseS l = some x) ∨ (e ≠ 0 ∧ parseS l = none ∧ x = wish0)
theorem unb_fail {l : List UInt8} {x : List Wsh} (h : StepP blistP (some l) none x) : unbS l = none := by
 have h1 : blistP l = none := h
 unfold unbS
 rw [h1]
theorem read_bad {l lR : List UInt8} {b ok : Bool} {x : Nte} (h : StepP noteP (some l) (rst b lR) x) (hb : b = true) (ho : ok = false) : ReadR l x ok := by
 subst hb ho
 have h1 : noteP l = none := h
 exact ⟨fun hh => absurd hh (by decide), fun _ y => by rw [h1]; simp⟩
theorem pack_ok {x y : Nte} {e : Bool} (hm : MayN x) (h : ReadR (noteE x) y e) (he : e = true) (hs : x = y) : packS x = (noteE x, 0) := by
 have h1 := h.1 he
 rw [read_own (may_fine hm).1] at h1
 simp only [Option.some.injEq, Prod.mk.injEq, and_true] at h1
 unfold packS
 rw [if_pos ⟨hm, h1.trans hs.symm⟩]
def stdP : List Stn := [⟨5, dgt 1, 2⟩, ⟨9, dgt 2, 0⟩]
set_option maxHeartbeats 40000000 in
theorem lDigest_ok {b : UInt8}  : Ret prog 27 #[bv b] w (fun v w' => v = .agg (digC (dgt b)).toArray ∧ Ext w w') := by
 refine ret_of_wk func27 rfl ntmps27 leB_ ?_
 have hp:=HP.begin_ w
 refine so ?_
 refine Alo hp (h := fun gs2 w1 hp hE1 => ?_)
 replace hp:=hp.ay (itB gs2 23 (digC dig0) :: _)
 refine so ?_
 refine wl_builtS (cells := digC (dgt b)) (ps := [(0, .tmp 3), (1, .const (.int .u8 1)), (2, .const (.int .u8 2))]) (by decide) bld23 rfl rfl ?_
 refine Hs 0 hp (h := fun w2 hp hC2 => ?_)
 replace hp:=hp.ay (itB gs2 23 (digC (dgt b)) :: _)
 refine so ?_
 refine wk_postR (rs := [.cell 2 23]) (.inl rfl) results27 ⟨_, _, _, rfl, rfl, loadVar_agg ag23 (hp.blkAt (i := 0) rfl).at0 rfl, rfl⟩ ?_
 exact ⟨_, rfl, rfl, hp.chg⟩
theorem unpack_pm {n : Nte} (h : PackMay n) : unpackS (packS n).1 = (n, 0) := by
 rw [packS_pm h]
 exact unpack_pack h
theorem aw_c : (packS awN).1 = [1, 12, 1, 2, 1, 1, 1, 5, 1, 4, 1, 5, 1, 6, 1, 7, 1, 9] := by decide +kernel
end Go.Proofs.YtkdoomglflikkaaGreat
