/- What each of these functions computes, for every argument that its theorem names; a part of what the proof of NotePacks stands on. -/
import Derived.Test.YtkdoomglflikkaaGreatQac
import Derived.Test.YtkdoomglflikkaaGreatQak
import Derived.Test.YtkdoomglflikkaaGreatQap
import Derived.Test.YtkdoomglflikkaaGreatQbi
namespace Go.Proofs.YtkdoomglflikkaaGreat
open Go.RowKit Go.Eng Go.Eng _root_.Go.Proofs.Tryz
set_option maxRecDepth 100000
variable {w0 w : World} {M0 Fz : Nat → Prop} {H : List It} {A : Option Addr} {c : Nat}
set_option maxHeartbeats 40000000 in
theorem efP_ok {Aa : Option Addr} {ca : Nat} {a : List Pck} {Sa : Nat → Prop} {Ab : Option Addr} {cb : Nat} {b : List Pck} {Sb : Nat → Prop} (ha : GS pickR Sa w Aa ca a) (hb : GS pickR Sb w Ab cb b) : Ret prog 72 #[.slice Aa a.length ca, .slice Ab b.length cb, .func (.func 68) #[] #[]] w (fun v w' => v = .bool (decide (a = b)) ∧ Ext w w') := by
 have mha:=ha.mx
 have mhb:=hb.mx
 refine ret_of_wk func72 rfl ntmps72 leB_ ?_
 have hp:=HP.begin_ w
 refine so ?_
 refine Cd ?_ ?_<;>intro hne
 refine so ?_
 refine Pt ?_
 exact ⟨_, rfl, bool_f (fun e => hne (by rw [e])), hp.chg⟩
 have hll : a.length = b.length := by omega
 refine so ?_
 refine Lp [1, 2, 15, 16, 17] (fun L' w' mes => ∃ (k : Nat), L' = [(1, .slice Ab b.length cb), (2, .func (.func 68) #[] #[]), (15, .slice Aa a.length ca), (16, iv (a.length : Int)), (17, iv (k : Int))] ∧ (k ≤ a.length) ∧ (a.take k = b.take k) ∧ (GS pickR (fun b => b < w.heap.size) w' Aa ca a) ∧ (GS pickR (fun b => b < w.heap.size) w' Ab cb b) ∧ (HP w (fun _ => False) (fun b => b < w.heap.size) w' ([])) ∧ a.length - k = mes) (a.length - 0) ⟨0, rfl, by omega, by simp, ha.tn, hb.tn, hp, rfl⟩ ?_
 rintro _ wr _ ⟨k, rfl, hk, htk, ha, hb, hp, rfl⟩ KL1 hKL1
 refine so ?_
 refine Cd ?_ ?_<;>intro hlt
 refine so ?_
 obtain ⟨ae1, pe1_0, qe1_0, hAe1, hate1, hIe1, he1_0⟩ := pickR_el ha k (by omega)
 refine so ?_
 refine Alo hp (h := fun gs8 w2 hp hE2 => so ?_)
 refine Hs 0 hp (h := fun w3 hp hC3 => so ?_)
 obtain ⟨ae4, pe4_0, qe4_0, hAe4, hate4, hIe4, he4_0⟩ := pickR_el (hb.to (w' := w3)) k (by omega)
 refine so ?_
 refine Alo hp (h := fun gs9 w5 hp hE5 => ?_)
 refine Hs 0 hp (h := fun w6 hp hC6 => so ?_)
 have hcl:=same1_ok ⟨hIe1, _, _, rfl, (he1_0.to (w' := w6))⟩ ⟨hIe4, _, _, rfl, (he4_0.to (w' := w6))⟩
 refine wl_callv (f := 68) (first := []) (cap := []) (by decide) cl68 rfl rfl hcl ?_
 clear hcl
 rintro _ w7 ⟨rfl, hE7⟩
 replace hp:=hp.ext hE7
 refine so ?_
 refine Cd ?_ ?_<;>intro hne2
 refine so ?_
 refine Pt ?_
 exact ⟨_, rfl, bool_f (fun e => hne2 (by rw [e])), hp.chg⟩
 replace hne2:=Decidable.not_not.1 hne2
 refine so ?_
 refine Kl [1, 2, 15, 16, 17] hKL1 (a.length - (k + 1)) ⟨(k + 1), rfl, by omega, ?_, ha.to, hb.to, hp.tail.tail, rfl⟩ (by omega)
 rw [take_snoc pick0 (by omega : k < a.length), take_snoc pick0 (by omega : k < b.length), htk, hne2]
 have hkl : k = a.length := by omega
 refine so ?_
 refine Pt ?_
 exact ⟨_, rfl, bool_t (by rw [hkl, List.take_length, hll, List.take_length] at htk; exact htk), hp.chg⟩
end Go.Proofs.YtkdoomglflikkaaGreat
