/- What each of these functions computes, for every argument that its theorem names; a part of what the proof of JudgeFinds stands on. -/
import Derived.Test.YtgheaedligkhoaaAab
import Derived.Test.YtgheaedligkhoaaAad
import Derived.Test.YtgheaedligkhoaaAae
import Derived.Test.YtgheaedligkhoaaAag
import Derived.Test.YtgheaedligkhoaaAah
namespace Go.Proofs.Ytgheaedligkhoaa
open Go.RowKit Go.Eng Go.Eng _root_.Go.Proofs.Try
set_option maxRecDepth 100000
variable {w0 w : World} {M0 Fz : Nat → Prop} {H : List It} {A : Option Addr} {c : Nat}
set_option maxHeartbeats 40000000 in
theorem sixth_ok {pk : Addr} {csk : List Value} {k : Lok} {Sk Pk : Nat → Prop} {i : Nat} (hatk : AtF Pk w pk csk) (hk : lokR.rd Sk w csk k)(hi : i < k.l.length) : Ret prog 69 #[.pointer (some pk), .int .i64 (i : Int)] w (fun v w' => v = .bool (decide (R6 (k.l.take i) (k.l.getD i evt0))) ∧ Ext w w') := by
 obtain ⟨hIk, Ak0, ck0, rfl, hk0⟩ := hk
 have mhk0:=hk0.mx
 refine ret_of_wk func69 rfl ntmps69 leB_ ?_
 have hp:=HP.begin_ w
 replace hk0:=hk0.now
 replace hatk:=hatk.now
 refine go ?_
 refine Fe_ fld74_1 rfl ?_
 refine Ld_ sc24 rfl (hatk.get rfl) (go ?_)
 obtain ⟨ae1, pe1_0, qe1_0, pe1_1, qe1_1, pe1_2, qe1_2, pe1_3, qe1_3, hAe1, hate1, hIe1, he1_0, he1_1, he1_2, he1_3⟩ := evtR_el hk0 i (by omega)
 refine wl_idx0 (by decide) sl24 rfl rfl hAe1 i rfl (by omega) ?_
 refine wl_loadA (by decide) ag46 rfl hate1.at_ rfl ?_
 refine wl_halloc (e := 46) (z := .agg #[iv 0, iv 0, iv 0, iv 0, iv 0, iv 0, iv 0, .int .u8 0, .int .u8 0, .int .u8 0, .int .u8 0, .int .u8 0, .int .u8 0, .int .u8 0, .int .u8 0, .int .u8 0, .int .u8 0, .int .u8 0, .int .u8 0, .int .u8 0, .int .u8 0, .int .u8 0, .int .u8 0, .int .u8 0, .int .u8 0, .int .u8 0, .int .u8 0, .int .u8 0, .int .u8 0, .int .u8 0, .int .u8 0, .int .u8 0, .int .u8 0, .int .u8 0, .int .u8 0, .int .u8 0, .int .u8 0, .int .u8 0, .int .u8 0, iv 0, iv 0, iv 0, iv 0, iv 0, iv 0, s0, iv 0, iv 0, s0, iv 0, s0, iv 0, s0]) (by decide) (by kernel_rfl) hp ?_
 rintro gs5 w2 hp2 hE2
 have q0:=hE2
 replace hp:=hp2
 refine wl_hstore (i := 0) rfl rfl hp rfl sz46 leB_ (List.all_eq_true.1 rfl) ?_
 rintro w3 hp3 hC3
 have q1:=hk0.tk.ext q0
 replace q1:=q1.fz hC3
 replace hp:=hp3
 refine go ?_
 refine wc_loop (fun L' w' mes => ∃ (j : Nat), L' = [(0, .pointer (some pk)), (1, iv (i : Int)), (5, pt gs5 0), (6, iv (j : Int))] ∧ (j ≤ i) ∧ ((k.l.take j).any (q6 (k.l.getD i evt0)) = false) ∧ (GS evtR (fun b => b < w.heap.size) w' Ak0 ck0 k.l) ∧ (AtF (fun b => b < w.heap.size) w' pk ([iv k.p.faults, iv k.p.chunks, iv k.p.spares, iv k.p.clients, iv k.p.bad, .slice Ak0 k.l.length ck0])) ∧ (GS byteR (fun b => b < w.heap.size) w' pe1_0 qe1_0 (k.l.getD i evt0).wish.data) ∧ (GS intR (fun b => b < w.heap.size) w' pe1_1 qe1_1 (k.l.getD i evt0).wish.next) ∧ (GS byteR (fun b => b < w.heap.size) w' pe1_2 qe1_2 (k.l.getD i evt0).ans.data) ∧ (GS intR (fun b => b < w.heap.size) w' pe1_3 qe1_3 (k.l.getD i evt0).ans.nodes) ∧ (HP w (fun _ => False) (fun b => b < w.heap.size) w' (itB gs5 46 ([iv ((k.l.getD i evt0).time), iv ((k.l.getD i evt0).kind), iv ((k.l.getD i evt0).a), iv ((k.l.getD i evt0).b), iv ((k.l.getD i evt0).group), iv ((k.l.getD i evt0).epoch), iv ((k.l.getD i evt0).seq)] ++ (digC ((k.l.getD i evt0).dig) ++ ([iv ((k.l.getD i evt0).wish.client), iv ((k.l.getD i evt0).wish.stamp), iv ((k.l.getD i evt0).wish.group), iv ((k.l.getD i evt0).wish.epoch), iv ((k.l.getD i evt0).wish.kind), iv ((k.l.getD i evt0).wish.block), .slice pe1_0 ((k.l.getD i evt0).wish.data).length qe1_0, iv ((k.l.getD i evt0).wish.old), iv ((k.l.getD i evt0).wish.new), .slice pe1_1 ((k.l.getD i evt0).wish.next).length qe1_1, iv ((k.l.getD i evt0).ans.err), .slice pe1_2 ((k.l.getD i evt0).ans.data).length qe1_2, iv ((k.l.getD i evt0).ans.epoch), .slice pe1_3 ((k.l.getD i evt0).ans.nodes).length qe1_3]))) :: [])) ∧ i - j = mes) [(0, .pointer (some pk)), (1, iv (i : Int)), (5, pt gs5 0), (6, iv (0 : Int))] (i - 0) (by
     refine ⟨0, rfl, ?_, ?_, ?_, ?_, ?_, ?_, ?_, ?_, ?_, rfl⟩
     · omega
     · rfl
     · exact (hk0.fr q1)
     · exact (hatk.fr q1)
     · exact (he1_0.fr q1)
     · exact (he1_1.fr q1)
     · exact (he1_2.fr q1)
     · exact (he1_3.fr q1)
     · exact hp) ⟨rfl, rfl, rfl, rfl, trivial⟩ ?_
 rintro _ wr _ ⟨j, rfl, hj, hno, hk0, hatk, he1_0, he1_1, he1_2, he1_3, hp, rfl⟩ KL1 hKL1
 refine go ?_
 refine Ls_ rfl rfl (go ?_)
 refine Cd (fun hc1 => ?_) fun hc1 => ?_
 refine go ?_
 refine Fe_ fld74_1 rfl ?_
 refine Ld_ sc24 rfl (hatk.get rfl) (go ?_)
 obtain ⟨ae4, pe4_0, qe4_0, pe4_1, qe4_1, pe4_2, qe4_2, pe4_3, qe4_3, hAe4, hate4, hIe4, he4_0, he4_1, he4_2, he4_3⟩ := evtR_el hk0 j (by omega)
 refine wl_idx0 (by decide) sl24 rfl rfl hAe4 j rfl (by omega) ?_
 refine wl_loadA (by decide) ag46 rfl hate4.at_ rfl ?_
 refine wl_halloc (e := 46) (z := .agg #[iv 0, iv 0, iv 0, iv 0, iv 0, iv 0, iv 0, .int .u8 0, .int .u8 0, .int .u8 0, .int .u8 0, .int .u8 0, .int .u8 0, .int .u8 0, .int .u8 0, .int .u8 0, .int .u8 0, .int .u8 0, .int .u8 0, .int .u8 0, .int .u8 0, .int .u8 0, .int .u8 0, .int .u8 0, .int .u8 0, .int .u8 0, .int .u8 0, .int .u8 0, .int .u8 0, .int .u8 0, .int .u8 0, .int .u8 0, .int .u8 0, .int .u8 0, .int .u8 0, .int .u8 0, .int .u8 0, .int .u8 0, .int .u8 0, iv 0, iv 0, iv 0, iv 0, iv 0, iv 0, s0, iv 0, iv 0, s0, iv 0, s0, iv 0, s0]) (by decide) (by kernel_rfl) hp ?_
 rintro gs7 w5 hp5 hE5
 have q2:=hE5
 replace hp:=hp5
 refine wl_hstore (i := 0) rfl rfl hp rfl sz46 leB_ (List.all_eq_true.1 rfl) ?_
 rintro w6 hp6 hC6
 have q3:=hk0.tk.ext q2
 replace q3:=q3.fz hC6
 replace hp:=hp6
 refine go ?_
 refine Fd_ 1 fld46_1 rfl rfl ?_
 refine Hl_ 0 sc3 rfl hp rfl rfl ?_
 refine Ne_ rfl rfl (go ?_)
 refine Gs 30 (fun hg2 => ?_) fun hg2 => ?_
 refine go ?_
 refine wc_cond_t rfl (go ?_)
 refine wl_add (by decide) rfl rfl (w64 (by omega) (by omega)) (gl ?_)
 refine wk_drop [(0, .pointer (some pk)), (1, iv (i : Int)), (5, pt gs5 0), (6, iv ((j + 1) : Int))] ⟨rfl, rfl, rfl, rfl, trivial⟩ (hKL1 _ _ (m2 := i - (j + 1)) ?_ ?_)
 refine ⟨(j + 1), rfl, ?_, ?_, ?_, ?_, ?_, ?_, ?_, ?_, ?_, rfl⟩
 omega
 exact any_upto hno (by omega) rfl (decide_eq_false (by unfold thereE at *; simp_all <;> omega))
 exact (hk0.fr q3)
 exact (hatk.fr q3)
 exact (he1_0.fr q3)
 exact (he1_1.fr q3)
 exact (he1_2.fr q3)
 exact (he1_3.fr q3)
 exact hp.tail
 omega
 refine go ?_
 refine Hx_ ([iv ((k.l.getD j evt0).time), iv ((k.l.getD j evt0).kind), iv ((k.l.getD j evt0).a), iv ((k.l.getD j evt0).b), iv ((k.l.getD j evt0).group), iv ((k.l.getD j evt0).epoch), iv ((k.l.getD j evt0).seq)] ++ (digC ((k.l.getD j evt0).dig) ++ ([iv ((k.l.getD j evt0).wish.client), iv ((k.l.getD j evt0).wish.stamp), iv ((k.l.getD j evt0).wish.group), iv ((k.l.getD j evt0).wish.epoch), iv ((k.l.getD j evt0).wish.kind), iv ((k.l.getD j evt0).wish.block), .slice pe4_0 ((k.l.getD j evt0).wish.data).length qe4_0, iv ((k.l.getD j evt0).wish.old), iv ((k.l.getD j evt0).wish.new), .slice pe4_1 ((k.l.getD j evt0).wish.next).length qe4_1, iv ((k.l.getD j evt0).ans.err), .slice pe4_2 ((k.l.getD j evt0).ans.data).length qe4_2, iv ((k.l.getD j evt0).ans.epoch), .slice pe4_3 ((k.l.getD j evt0).ans.nodes).length qe4_3]))) 0 ag46 rfl hp rfl rfl rfl (go ?_)
 refine Hx_ ([iv ((k.l.getD i evt0).time), iv ((k.l.getD i evt0).kind), iv ((k.l.getD i evt0).a), iv ((k.l.getD i evt0).b), iv ((k.l.getD i evt0).group), iv ((k.l.getD i evt0).epoch), iv ((k.l.getD i evt0).seq)] ++ (digC ((k.l.getD i evt0).dig) ++ ([iv ((k.l.getD i evt0).wish.client), iv ((k.l.getD i evt0).wish.stamp), iv ((k.l.getD i evt0).wish.group), iv ((k.l.getD i evt0).wish.epoch), iv ((k.l.getD i evt0).wish.kind), iv ((k.l.getD i evt0).wish.block), .slice pe1_0 ((k.l.getD i evt0).wish.data).length qe1_0, iv ((k.l.getD i evt0).wish.old), iv ((k.l.getD i evt0).wish.new), .slice pe1_1 ((k.l.getD i evt0).wish.next).length qe1_1, iv ((k.l.getD i evt0).ans.err), .slice pe1_2 ((k.l.getD i evt0).ans.data).length qe1_2, iv ((k.l.getD i evt0).ans.epoch), .slice pe1_3 ((k.l.getD i evt0).ans.nodes).length qe1_3]))) 1 ag46 rfl hp rfl rfl rfl (go ?_)
 have hcl:=there_ok ⟨hIe4, _, _, _, _, _, _, _, _, rfl, (he4_0.fr q3), (he4_1.fr q3), (he4_2.fr q3), (he4_3.fr q3)⟩ ⟨hIe1, _, _, _, _, _, _, _, _, rfl, (he1_0.fr q3), (he1_1.fr q3), (he1_2.fr q3), (he1_3.fr q3)⟩
 refine Cl_ cl85 rfl hcl ?_
 clear hcl
 rintro _ w7 ⟨rfl, hE7⟩
 replace q3:=q3.ext hE7
 replace hp:=hp.ext hE7
 refine go ?_
 first | refine Nd_ rfl ?_ | refine Nn_ rfl ?_
 refine go ?_
 refine Cd (fun hc3 => ?_) fun hc3 => ?_
 refine go ?_
 refine wl_add (by decide) rfl rfl (w64 (by omega) (by omega)) (gl ?_)
 refine wk_drop [(0, .pointer (some pk)), (1, iv (i : Int)), (5, pt gs5 0), (6, iv ((j + 1) : Int))] ⟨rfl, rfl, rfl, rfl, trivial⟩ (hKL1 _ _ (m2 := i - (j + 1)) ?_ ?_)
 refine ⟨(j + 1), rfl, ?_, ?_, ?_, ?_, ?_, ?_, ?_, ?_, ?_, rfl⟩
 omega
 exact any_upto hno (by omega) rfl (decide_eq_false (by unfold thereE at *; simp_all <;> omega))
 exact (hk0.fr q3)
 exact (hatk.fr q3)
 exact (he1_0.fr q3)
 exact (he1_1.fr q3)
 exact (he1_2.fr q3)
 exact (he1_3.fr q3)
 exact hp.tail
 omega
 refine go ?_
 refine Fd_ 1 fld46_1 rfl rfl ?_
 refine Hl_ 1 sc3 rfl hp rfl rfl ?_
 refine Eq_ rfl rfl (go ?_)
 refine Gs 39 (fun hg4 => ?_) fun hg4 => ?_
 refine go ?_
 refine Fd_ 6 fld46_6 rfl rfl (go ?_)
 refine Hl_ 0 sc3 rfl hp rfl rfl (go ?_)
 refine Fd_ 6 fld46_6 rfl rfl (go ?_)
 refine Hl_ 1 sc3 rfl hp rfl rfl (go ?_)
 refine Ls_ rfl rfl (go ?_)
 refine Cd (fun hc5 => ?_) fun hc5 => ?_
 refine go ?_
 refine P1 results69 ?_
 exact ⟨_, rfl, bool_t (any_found (j := j) (by omega) (by omega) (decide_eq_true (by unfold thereE at *; simp_all <;> omega))), hp.chg⟩
 refine go ?_
 refine Fd_ 1 fld46_1 rfl rfl ?_
 refine Hl_ 1 sc3 rfl hp rfl rfl ?_
 refine Eq_ rfl rfl (go ?_)
 refine Gs 54 (fun hg6 => ?_) fun hg6 => ?_
 refine go ?_
 refine Fd_ 6 fld46_6 rfl rfl (go ?_)
 refine Hl_ 0 sc3 rfl hp rfl rfl (go ?_)
 refine Fd_ 6 fld46_6 rfl rfl (go ?_)
 refine Hl_ 1 sc3 rfl hp rfl rfl (go ?_)
 refine Ne_ rfl rfl (go ?_)
 refine Gs 60 (fun hg7 => ?_) fun hg7 => ?_
 refine go ?_
 refine wc_cond_t rfl (go ?_)
 refine P1 results69 ?_
 exact ⟨_, rfl, bool_t (any_found (j := j) (by omega) (by omega) (decide_eq_true (by unfold thereE at *; simp_all <;> omega))), hp.chg⟩
 refine go ?_
 refine Fd_ 7 fld46_7 rfl rfl (go ?_)
 refine Hx_ (digC ((k.l.getD j evt0).dig)) 0 ag39 rfl hp rfl rfl rfl (go ?_)
 refine Fd_ 7 fld46_7 rfl rfl (go ?_)
 refine Hx_ (digC ((k.l.getD i evt0).dig)) 1 ag39 rfl hp rfl rfl rfl (go ?_)
 refine wl_neqK (m := 6) ((k.l.getD j evt0).dig = (k.l.getD i evt0).dig) (by decide) key39 eg39 rfl rfl (digC_fit _) (digC_fit _) digC_inj ?_
 refine go ?_
 refine Cd (fun hc8 => ?_) fun hc8 => ?_
 refine go ?_
 refine P1 results69 ?_
 exact ⟨_, rfl, bool_t (any_found (j := j) (by omega) (by omega) (decide_eq_true (by unfold thereE at *; simp_all <;> omega))), hp.chg⟩
 refine go ?_
 refine wl_add (by decide) rfl rfl (w64 (by omega) (by omega)) (gl ?_)
 refine wk_drop [(0, .pointer (some pk)), (1, iv (i : Int)), (5, pt gs5 0), (6, iv ((j + 1) : Int))] ⟨rfl, rfl, rfl, rfl, trivial⟩ (hKL1 _ _ (m2 := i - (j + 1)) ?_ ?_)
 refine ⟨(j + 1), rfl, ?_, ?_, ?_, ?_, ?_, ?_, ?_, ?_, ?_, rfl⟩
 omega
 exact any_upto hno (by omega) rfl (decide_eq_false (by unfold thereE at *; simp_all <;> omega))
 exact (hk0.fr q3)
 exact (hatk.fr q3)
 exact (he1_0.fr q3)
 exact (he1_1.fr q3)
 exact (he1_2.fr q3)
 exact (he1_3.fr q3)
 exact hp.tail
 omega
 refine go ?_
 refine wc_cond_f rfl ?_
 refine go ?_
 refine wl_add (by decide) rfl rfl (w64 (by omega) (by omega)) (gl ?_)
 refine wk_drop [(0, .pointer (some pk)), (1, iv (i : Int)), (5, pt gs5 0), (6, iv ((j + 1) : Int))] ⟨rfl, rfl, rfl, rfl, trivial⟩ (hKL1 _ _ (m2 := i - (j + 1)) ?_ ?_)
 refine ⟨(j + 1), rfl, ?_, ?_, ?_, ?_, ?_, ?_, ?_, ?_, ?_, rfl⟩
 omega
 exact any_upto hno (by omega) rfl (decide_eq_false (by unfold thereE at *; simp_all <;> omega))
 exact (hk0.fr q3)
 exact (hatk.fr q3)
 exact (he1_0.fr q3)
 exact (he1_1.fr q3)
 exact (he1_2.fr q3)
 exact (he1_3.fr q3)
 exact hp.tail
 omega
 refine go ?_
 refine Fd_ 1 fld46_1 rfl rfl (go ?_)
 refine Hl_ 1 sc3 rfl hp rfl rfl (go ?_)
 refine Eq_ rfl rfl (go ?_)
 refine Gs 44 (fun hg9 => ?_) fun hg9 => ?_
 refine go ?_
 refine Fd_ 6 fld46_6 rfl rfl (go ?_)
 refine Hl_ 0 sc3 rfl hp rfl rfl (go ?_)
 refine Fd_ 6 fld46_6 rfl rfl (go ?_)
 refine Hl_ 1 sc3 rfl hp rfl rfl (go ?_)
 refine Ls_ rfl rfl (go ?_)
 refine Cd (fun hc10 => ?_) fun hc10 => ?_
 refine go ?_
 refine P1 results69 ?_
 exact ⟨_, rfl, bool_t (any_found (j := j) (by omega) (by omega) (decide_eq_true (by unfold thereE at *; simp_all <;> omega))), hp.chg⟩
 refine go ?_
 refine Fd_ 1 fld46_1 rfl rfl ?_
 refine Hl_ 1 sc3 rfl hp rfl rfl ?_
 refine Eq_ rfl rfl (go ?_)
 refine Gs 54 (fun hg11 => ?_) fun hg11 => ?_
 refine go ?_
 refine Fd_ 6 fld46_6 rfl rfl (go ?_)
 refine Hl_ 0 sc3 rfl hp rfl rfl (go ?_)
 refine Fd_ 6 fld46_6 rfl rfl (go ?_)
 refine Hl_ 1 sc3 rfl hp rfl rfl (go ?_)
 refine Ne_ rfl rfl (go ?_)
 refine Gs 60 (fun hg12 => ?_) fun hg12 => ?_
 refine go ?_
 refine wc_cond_t rfl (go ?_)
 refine P1 results69 ?_
 exact ⟨_, rfl, bool_t (any_found (j := j) (by omega) (by omega) (decide_eq_true (by unfold thereE at *; simp_all <;> omega))), hp.chg⟩
 refine go ?_
 refine Fd_ 7 fld46_7 rfl rfl (go ?_)
 refine Hx_ (digC ((k.l.getD j evt0).dig)) 0 ag39 rfl hp rfl rfl rfl (go ?_)
 refine Fd_ 7 fld46_7 rfl rfl (go ?_)
 refine Hx_ (digC ((k.l.getD i evt0).dig)) 1 ag39 rfl hp rfl rfl rfl (go ?_)
 refine wl_neqK (m := 6) ((k.l.getD j evt0).dig = (k.l.getD i evt0).dig) (by decide) key39 eg39 rfl rfl (digC_fit _) (digC_fit _) digC_inj ?_
 refine go ?_
 refine Cd (fun hc13 => ?_) fun hc13 => ?_
 refine go ?_
 refine P1 results69 ?_
 exact ⟨_, rfl, bool_t (any_found (j := j) (by omega) (by omega) (decide_eq_true (by unfold thereE at *; simp_all <;> omega))), hp.chg⟩
 refine go ?_
 refine wl_add (by decide) rfl rfl (w64 (by omega) (by omega)) (gl ?_)
 refine wk_drop [(0, .pointer (some pk)), (1, iv (i : Int)), (5, pt gs5 0), (6, iv ((j + 1) : Int))] ⟨rfl, rfl, rfl, rfl, trivial⟩ (hKL1 _ _ (m2 := i - (j + 1)) ?_ ?_)
 refine ⟨(j + 1), rfl, ?_, ?_, ?_, ?_, ?_, ?_, ?_, ?_, ?_, rfl⟩
 omega
 exact any_upto hno (by omega) rfl (decide_eq_false (by unfold thereE at *; simp_all <;> omega))
 exact (hk0.fr q3)
 exact (hatk.fr q3)
 exact (he1_0.fr q3)
 exact (he1_1.fr q3)
 exact (he1_2.fr q3)
 exact (he1_3.fr q3)
 exact hp.tail
 omega
 refine go ?_
 refine wc_cond_f rfl ?_
 refine go ?_
 refine wl_add (by decide) rfl rfl (w64 (by omega) (by omega)) (gl ?_)
 refine wk_drop [(0, .pointer (some pk)), (1, iv (i : Int)), (5, pt gs5 0), (6, iv ((j + 1) : Int))] ⟨rfl, rfl, rfl, rfl, trivial⟩ (hKL1 _ _ (m2 := i - (j + 1)) ?_ ?_)
 refine ⟨(j + 1), rfl, ?_, ?_, ?_, ?_, ?_, ?_, ?_, ?_, ?_, rfl⟩
 omega
 exact any_upto hno (by omega) rfl (decide_eq_false (by unfold thereE at *; simp_all <;> omega))
 exact (hk0.fr q3)
 exact (hatk.fr q3)
 exact (he1_0.fr q3)
 exact (he1_1.fr q3)
 exact (he1_2.fr q3)
 exact (he1_3.fr q3)
 exact hp.tail
 omega
 refine go ?_
 refine wc_cond_f rfl ?_
 refine go ?_
 refine Fd_ 1 fld46_1 rfl rfl ?_
 refine Hl_ 1 sc3 rfl hp rfl rfl ?_
 refine Eq_ rfl rfl (go ?_)
 refine Gs 54 (fun hg14 => ?_) fun hg14 => ?_
 refine go ?_
 refine Fd_ 6 fld46_6 rfl rfl (go ?_)
 refine Hl_ 0 sc3 rfl hp rfl rfl (go ?_)
 refine Fd_ 6 fld46_6 rfl rfl (go ?_)
 refine Hl_ 1 sc3 rfl hp rfl rfl (go ?_)
 refine Ne_ rfl rfl (go ?_)
 refine Gs 60 (fun hg15 => ?_) fun hg15 => ?_
 refine go ?_
 refine wc_cond_t rfl (go ?_)
 refine P1 results69 ?_
 exact ⟨_, rfl, bool_t (any_found (j := j) (by omega) (by omega) (decide_eq_true (by unfold thereE at *; simp_all <;> omega))), hp.chg⟩
 refine go ?_
 refine Fd_ 7 fld46_7 rfl rfl (go ?_)
 refine Hx_ (digC ((k.l.getD j evt0).dig)) 0 ag39 rfl hp rfl rfl rfl (go ?_)
 refine Fd_ 7 fld46_7 rfl rfl (go ?_)
 refine Hx_ (digC ((k.l.getD i evt0).dig)) 1 ag39 rfl hp rfl rfl rfl (go ?_)
 refine wl_neqK (m := 6) ((k.l.getD j evt0).dig = (k.l.getD i evt0).dig) (by decide) key39 eg39 rfl rfl (digC_fit _) (digC_fit _) digC_inj ?_
 refine go ?_
 refine Cd (fun hc16 => ?_) fun hc16 => ?_
 refine go ?_
 refine P1 results69 ?_
 exact ⟨_, rfl, bool_t (any_found (j := j) (by omega) (by omega) (decide_eq_true (by unfold thereE at *; simp_all <;> omega))), hp.chg⟩
 refine go ?_
 refine wl_add (by decide) rfl rfl (w64 (by omega) (by omega)) (gl ?_)
 refine wk_drop [(0, .pointer (some pk)), (1, iv (i : Int)), (5, pt gs5 0), (6, iv ((j + 1) : Int))] ⟨rfl, rfl, rfl, rfl, trivial⟩ (hKL1 _ _ (m2 := i - (j + 1)) ?_ ?_)
 refine ⟨(j + 1), rfl, ?_, ?_, ?_, ?_, ?_, ?_, ?_, ?_, ?_, rfl⟩
 omega
 exact any_upto hno (by omega) rfl (decide_eq_false (by unfold thereE at *; simp_all <;> omega))
 exact (hk0.fr q3)
 exact (hatk.fr q3)
 exact (he1_0.fr q3)
 exact (he1_1.fr q3)
 exact (he1_2.fr q3)
 exact (he1_3.fr q3)
 exact hp.tail
 omega
 refine go ?_
 refine wc_cond_f rfl ?_
 refine go ?_
 refine wl_add (by decide) rfl rfl (w64 (by omega) (by omega)) (gl ?_)
 refine wk_drop [(0, .pointer (some pk)), (1, iv (i : Int)), (5, pt gs5 0), (6, iv ((j + 1) : Int))] ⟨rfl, rfl, rfl, rfl, trivial⟩ (hKL1 _ _ (m2 := i - (j + 1)) ?_ ?_)
 refine ⟨(j + 1), rfl, ?_, ?_, ?_, ?_, ?_, ?_, ?_, ?_, ?_, rfl⟩
 omega
 exact any_upto hno (by omega) rfl (decide_eq_false (by unfold thereE at *; simp_all <;> omega))
 exact (hk0.fr q3)
 exact (hatk.fr q3)
 exact (he1_0.fr q3)
 exact (he1_1.fr q3)
 exact (he1_2.fr q3)
 exact (he1_3.fr q3)
 exact hp.tail
 omega
 refine go ?_
 refine P1 results69 ?_
 obtain rfl : j = i := by omega
 exact ⟨_, rfl, bool_f (fun h => by unfold R6 at h; rw [hno] at h; cases h), hp.chg⟩
end Go.Proofs.Ytgheaedligkhoaa
namespace Go.Proofs.Ytgheaedligkhoaa
open Go.RowKit Go.Eng _root_.Go.Proofs.Try Go.Eng _root_.Go.Proofs.Try
set_option maxRecDepth 100000
variable {w0 w : World} {M0 Fz : Nat → Prop} {H : List It} {A : Option Addr} {c : Nat}
instance (l : List Evt) (o : Wsh) (j : Nat) : Decidable (ourC l o j) := by unfold ourC; infer_instance
end Go.Proofs.Ytgheaedligkhoaa
