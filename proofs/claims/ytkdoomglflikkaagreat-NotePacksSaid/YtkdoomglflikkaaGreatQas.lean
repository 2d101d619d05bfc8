/- What each of these functions computes, for every argument that its theorem names; a part of what the proof of NotePacks stands on. -/
import Derived.Test.YtkdoomglflikkaaGreatQac
import Derived.Test.YtkdoomglflikkaaGreatQad
import Derived.Test.YtkdoomglflikkaaGreatQah
import Derived.Test.YtkdoomglflikkaaGreatQaj
import Derived.Test.YtkdoomglflikkaaGreatQak
import Derived.Test.YtkdoomglflikkaaGreatQam
import Derived.Test.YtkdoomglflikkaaGreatQao
namespace Go.Proofs.YtkdoomglflikkaaGreat
open Go.RowKit Go.Eng Go.Eng _root_.Go.Proofs.Tryz
set_option maxRecDepth 100000
variable {w0 w : World} {M0 Fz : Nat → Prop} {H : List It} {A : Option Addr} {c : Nat}
set_option maxHeartbeats 40000000 in
theorem rChangeMay_ok {cscg : List Value} {cg : Chn} {Scg : Nat → Prop} (hcg : changeR.rd Scg w cscg cg) : Ret prog 58 #[.agg cscg.toArray] w (fun v w' => v = .bool (decide (ChangeMay cg)) ∧ Ext w w') := by
 have qhcg:=hcg
 obtain ⟨hIcg, Acg0, ccg0, Acg1, ccg1, Acg2, ccg2, rfl, hcg0, hcg1, hcg2⟩ := hcg
 refine ret_of_wk func58 rfl ntmps58 leB_ ?_
 have hp:=HP.begin_ w
 refine so ?_
 refine Bx hp (h := fun gs1 w1 hp hE1 => so ?_)
 by_cases hs1 : 1 ≤ cg.node ∧ cg.node ≤ 28
 by_cases hs2 : 1 ≤ cg.view ∧ cg.view ≤ 1048576
 by_cases hs3 : 0 ≤ cg.low ∧ cg.low ≤ 9007199254740983
 by_cases hs4 : 1 ≤ (cg.marks.length : Int) ∧ (cg.marks.length : Int) ≤ 5
 obtain ⟨aw26, hAw26, hatw26, hIw26⟩ := markR_el (hcg0.tn (w' := w1)) 0 (by omega)
 refine wdP 33 hp (fun wD hp hED => by refine pm ?_; exact PLs (r12_node) (h := by refine pm ?_; exact PLsg (r12_within) (h := by refine pm ?_; exact PLsg (r12_within) (h := by refine pm ?_; exact PLsg (r12_within) (h := pl))))) fun wD hp hED => ?_
 refine so ?_
 refine Cd ?_ ?_<;>intro hc5<;>refine so ?_
 refine Pt ?_
 exact ⟨_, rfl, bool_f (by unfold ChangeMay; omega), hp.chg⟩
 refine Lp [1, 3] (fun L' w' mes => ∃ (k : Nat), L' = [(1, pt gs1 0), (3, iv (k : Int))] ∧ (1 ≤ k) ∧ (∀ i, i < k → 0 < i → (cg.marks.getD (i - 1) mark0).seq < (cg.marks.getD i mark0).seq ∧ (cg.marks.getD i mark0).seq ≤ 9007199254740991) ∧ (1 ≤ cg.node ∧ cg.node ≤ 28 ∧ 1 ≤ cg.view ∧ cg.view ≤ 1048576 ∧ 0 ≤ cg.low ∧ cg.low ≤ 9007199254740983 ∧ 1 ≤ cg.marks.length ∧ cg.marks.length ≤ 5 ∧ (cg.marks.getD 0 mark0).seq = cg.low) ∧ Ext wD w' ∧ cg.marks.length - k = mes) (cg.marks.length - 1) (by
     refine ⟨1, rfl, ?_, ?_, ?_, me, rfl⟩
     omega
     intro i h1 h2; omega
     refine ⟨by omega, by omega, by omega, by omega, by omega, by omega, by omega, by omega, by omega⟩) ?_
 rintro _ wr _ ⟨k, rfl, h1, hmr, hpre, hEq0, rfl⟩ KL1 hKL1
 replace hp:=hp.ext hEq0
 refine so ?_
 refine Cd ?_ ?_<;>intro hc6
 refine so ?_
 by_cases hs7 : (cg.marks.getD k mark0).seq ≤ (cg.marks.getD (k - 1) mark0).seq
 obtain ⟨aw3, hAw3, hatw3, hIw3⟩ := markR_el (hcg0.tn (w' := wr)) k (by omega)
 obtain ⟨aw10, hAw10, hatw10, hIw10⟩ := markR_el (hcg0.tn (w' := wr)) (k - 1) (by omega)
 cases Option.some.inj (hAw3.symm.trans hAw10)
 refine wdP 23 hp (fun wD hp hED => by refine pm ?_; exact .op rfl (wl_idx0 (by decide) sl30 rfl rfl hAw10 (k - 1) (by omega) (by omega) (wl_nil qp)) pl) fun wD hp hED => ?_
 refine so ?_
 refine aT (so ?_)
 refine Pt ?_
 exact ⟨_, rfl, bool_f (fun h => by have := h.2.2.2.2.2.2.2.2.2.1 k (by omega) (by omega); omega), hp.chg⟩
 obtain ⟨aw3, hAw3, hatw3, hIw3⟩ := markR_el (hcg0.tn (w' := wr)) k (by omega)
 obtain ⟨aw10, hAw10, hatw10, hIw10⟩ := markR_el (hcg0.tn (w' := wr)) (k - 1) (by omega)
 cases Option.some.inj (hAw3.symm.trans hAw10)
 refine wdP 23 hp (fun wD hp hED => by refine pm ?_; exact .op rfl (wl_idx0 (by decide) sl30 rfl rfl hAw10 (k - 1) (by omega) (by omega) (wl_nil qp)) pl) fun wD hp hED => ?_
 refine so ?_
 refine Cd ?_ ?_<;>intro hc8<;>refine so ?_
 refine Pt ?_
 exact ⟨_, rfl, bool_f (fun h => by have := h.2.2.2.2.2.2.2.2.2.1 k (by omega) (by omega); omega), hp.chg⟩
 exact Kl [1, 3] hKL1 (cg.marks.length - (k + 1)) ⟨(k + 1), rfl, by omega, upto hmr (fun _ => ⟨by omega, by omega⟩), hpre, me, rfl⟩ (by omega)
 have hmr2 : MarksRise cg.marks := fun i hi h0 => hmr i (by omega) h0
 refine so ?_
 refine Cx hp (rStandsMay_ok (many := 1) hcg1.tn (rdTn qhcg) (by omega) (by omega)) fun w2 hp hE2 => so ?_
 refine Gs 71 ?_ ?_<;>intro hg9<;>refine so ?_
 refine Cx hp (rStandsMay_ok (many := 4) hcg2.tn (rdTn qhcg) (by omega) (by omega)) fun w3 hp hE3 => so ?_
 refine Pt ?_
 exact ⟨_, rfl, congrArg Value.bool (decide_eq_decide.2 (by unfold ChangeMay; simp_all)), hp.chg⟩
 refine Pt ?_
 exact ⟨_, rfl, bool_f (by unfold ChangeMay; simp_all), hp.chg⟩
 refine wdP 33 hp (fun wD hp hED => by refine pm ?_; exact PLs (r12_node) (h := by refine pm ?_; exact PLsg (r12_within) (h := by refine pm ?_; exact PLsg (r12_within) (h := by refine pm ?_; exact PLsg (r12_within) (h := pl))))) fun wD hp hED => ?_
 refine so ?_
 refine aT (so ?_)
 refine Pt ?_
 exact ⟨_, rfl, bool_f (by unfold ChangeMay; omega), hp.chg⟩
 refine wdP 33 hp (fun wD hp hED => by refine pm ?_; exact PLs (r12_node) (h := by refine pm ?_; exact PLsg (r12_within) (h := by refine pm ?_; exact PLsg (r12_within) (h := pl)))) fun wD hp hED => ?_
 refine so ?_
 refine aT (so ?_)
 refine Pt ?_
 exact ⟨_, rfl, bool_f (by unfold ChangeMay; omega), hp.chg⟩
 refine wdP 33 hp (fun wD hp hED => by refine pm ?_; exact PLs (r12_node) (h := by refine pm ?_; exact PLsg (r12_within) (h := pl))) fun wD hp hED => ?_
 refine so ?_
 refine aT (so ?_)
 refine Pt ?_
 exact ⟨_, rfl, bool_f (by unfold ChangeMay; omega), hp.chg⟩
 refine wdP 33 hp (fun wD hp hED => by refine pm ?_; exact PLs (r12_node) (h := pl)) fun wD hp hED => ?_
 refine so ?_
 refine aT (so ?_)
 refine Pt ?_
 exact ⟨_, rfl, bool_f (by unfold ChangeMay; omega), hp.chg⟩
set_option maxHeartbeats 40000000 in
theorem gListI_ok {gw : Nat} {out : List UInt8} {pa : Addr} {B : Option Addr} {d : Nat} {l : List Int} {E : Int → List UInt8} {ok : Int → Prop} {FV : Value} {most : Int} (hp : HP w0 M0 Fz w (itB gw 89 [.slice A out.length c] :: itR 5 1 A out.length c (out.map bv) :: H)) (hat : AtF Fz w pa [.slice B l.length d]) (hl : GS intR Fz w B d l) (hok : ∀ x ∈ l, ok x) (hE : EachW prog 5 89 gw w0 M0 Fz w intR E ok FV) (hnl : isNum (l.length : Int)) (hlen : out.length + (listE E l).length ≤ 1000000) : Ret prog 114 #[.iface 87 (.pointer (some ⟨gw, 0, none⟩)), .pointer (some pa), .int .i64 most, FV] w (WrP 5 89 gw w0 M0 Fz w H (out ++ listE E l)) := by
 have hnl2:=hnl
 unfold isNum at hnl2
 refine ret_of_wk func114 rfl ntmps114 leB_ ?_
 refine so ?_
 refine wP 9 hp (h := fun wD hp hED => ?_)
 refine Ci rfl (gMany_ok (v9 := iv most) hp hnl (by simp only [listE, List.length_append] at hlen ⊢; omega)) ?_
 rintro _ w1 ⟨rfl, A1, c1, hp, hF1⟩
 refine so ?_
 refine Lp [1, 3, 21, 22] (fun L' w' mes => ∃ (k : Nat), ∃ (A2 : Option Addr), ∃ (c2 : Nat), L' = [(1, .pointer (some pa)), (3, FV), (21, iv (l.length : Int)), (22, iv (k : Int))] ∧ (k ≤ l.length) ∧ (Frz Fz Fz w w') ∧ (AtF Fz w' pa [.slice B l.length d]) ∧ (GS intR Fz w' B d l) ∧ (HP w0 M0 Fz w' (itB gw 89 [.slice A2 (out ++ numE (l.length : Int) ++ flatE E (l.take k)).length c2] :: itR 5 1 A2 (out ++ numE (l.length : Int) ++ flatE E (l.take k)).length c2 ((out ++ numE (l.length : Int) ++ flatE E (l.take k)).map bv) :: H)) ∧ l.length - k = mes) (l.length - 0) (by
     refine ⟨0, A1, c1, rfl, Nat.zero_le _, mv, hat.to, hl.to, ?_, rfl⟩
     simp only [List.take_zero, flatE_nil, List.append_nil]; exact hp) ?_
 rintro _ wr _ ⟨k, A2, c2, rfl, hk, hFr, hat, hl, hp, rfl⟩ KL1 hKL1
 refine so ?_
 refine Cd ?_ ?_<;>intro hc1
 have hk9 : k < l.length := by omega
 refine so ?_
 refine aF (so ?_)
 obtain ⟨ax, csx, hax, hatx, hrdx⟩ := hl.el k hk9
 refine wl_idx0 (size := 1) (by decide) sl27 rfl rfl hax k rfl hk9 ?_
 have hcl:=hE _ _ _ _ _ _ _ _ hFr hp hatx hrdx (hok _ (List.getElem_mem hk9)) (flat_room (_out := l) hk9 hlen)
 refine wl_callF (vs := [.pointer (some (ax.add (k * 1)))]) (by decide) rfl rfl (fun _ h => by cases h) hcl ?_
 clear hcl
 rintro _ w9 ⟨A9, c9, hp, hF9⟩
 refine so ?_
 refine Kl [1, 3, 21, 22] hKL1 (l.length - (k + 1)) ⟨(k + 1), A9, c9, rfl, by omega, mv, hat.to, hl.to, ?_, rfl⟩ (by omega)
 rw [flat_take E l k hk9, ← List.append_assoc]; exact hp
 refine so ?_
 refine wk_post0 (.inr rfl) results114  ?_
 have hkl : k = l.length := by omega
 rw [hkl, List.take_length, List.append_assoc] at hp
 exact ⟨_, rfl, _, _, hp, hFr⟩
set_option maxHeartbeats 40000000 in
theorem gListP_ok {gw : Nat} {out : List UInt8} {pa : Addr} {B : Option Addr} {d : Nat} {l : List Pck} {E : Pck → List UInt8} {ok : Pck → Prop} {FV : Value} {most : Int} (hp : HP w0 M0 Fz w (itB gw 89 [.slice A out.length c] :: itR 5 1 A out.length c (out.map bv) :: H)) (hat : AtF Fz w pa [.slice B l.length d]) (hl : GS pickR Fz w B d l) (hok : ∀ x ∈ l, ok x) (hE : EachW prog 5 89 gw w0 M0 Fz w pickR E ok FV) (hnl : isNum (l.length : Int)) (hlen : out.length + (listE E l).length ≤ 1000000) : Ret prog 111 #[.iface 87 (.pointer (some ⟨gw, 0, none⟩)), .pointer (some pa), .int .i64 most, FV] w (WrP 5 89 gw w0 M0 Fz w H (out ++ listE E l)) := by
 have hnl2:=hnl
 unfold isNum at hnl2
 refine ret_of_wk func111 rfl ntmps111 leB_ ?_
 refine so ?_
 refine wP 9 hp (h := fun wD hp hED => ?_)
 refine Ci rfl (gMany_ok (v9 := iv most) hp hnl (by simp only [listE, List.length_append] at hlen ⊢; omega)) ?_
 rintro _ w1 ⟨rfl, A1, c1, hp, hF1⟩
 refine so ?_
 refine Lp [1, 3, 21, 22] (fun L' w' mes => ∃ (k : Nat), ∃ (A2 : Option Addr), ∃ (c2 : Nat), L' = [(1, .pointer (some pa)), (3, FV), (21, iv (l.length : Int)), (22, iv (k : Int))] ∧ (k ≤ l.length) ∧ (Frz Fz Fz w w') ∧ (AtF Fz w' pa [.slice B l.length d]) ∧ (GS pickR Fz w' B d l) ∧ (HP w0 M0 Fz w' (itB gw 89 [.slice A2 (out ++ numE (l.length : Int) ++ flatE E (l.take k)).length c2] :: itR 5 1 A2 (out ++ numE (l.length : Int) ++ flatE E (l.take k)).length c2 ((out ++ numE (l.length : Int) ++ flatE E (l.take k)).map bv) :: H)) ∧ l.length - k = mes) (l.length - 0) (by
     refine ⟨0, A1, c1, rfl, Nat.zero_le _, mv, hat.to, hl.to, ?_, rfl⟩
     simp only [List.take_zero, flatE_nil, List.append_nil]; exact hp) ?_
 rintro _ wr _ ⟨k, A2, c2, rfl, hk, hFr, hat, hl, hp, rfl⟩ KL1 hKL1
 refine so ?_
 refine Cd ?_ ?_<;>intro hc1
 have hk9 : k < l.length := by omega
 refine so ?_
 refine aF (so ?_)
 obtain ⟨ax, csx, hax, hatx, hrdx⟩ := hl.el k hk9
 refine wl_idx0 (size := 34) (by decide) sl35 rfl rfl hax k rfl hk9 ?_
 have hcl:=hE _ _ _ _ _ _ _ _ hFr hp hatx hrdx (hok _ (List.getElem_mem hk9)) (flat_room (_out := l) hk9 hlen)
 refine wl_callF (vs := [.pointer (some (ax.add (k * 34)))]) (by decide) rfl rfl (fun _ h => by cases h) hcl ?_
 clear hcl
 rintro _ w9 ⟨A9, c9, hp, hF9⟩
 refine so ?_
 refine Kl [1, 3, 21, 22] hKL1 (l.length - (k + 1)) ⟨(k + 1), A9, c9, rfl, by omega, mv, hat.to, hl.to, ?_, rfl⟩ (by omega)
 rw [flat_take E l k hk9, ← List.append_assoc]; exact hp
 refine so ?_
 refine wk_post0 (.inr rfl) results111  ?_
 have hkl : k = l.length := by omega
 rw [hkl, List.take_length, List.append_assoc] at hp
 exact ⟨_, rfl, _, _, hp, hFr⟩
end Go.Proofs.YtkdoomglflikkaaGreat
