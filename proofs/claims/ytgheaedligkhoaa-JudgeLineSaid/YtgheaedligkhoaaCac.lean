/- What each of these functions computes, for every argument that its theorem names; a part of what the proof of JudgeLine stands on. -/
import Derived.Test.YtgheaedligkhoaaCaa
import Derived.Test.YtgheaedligkhoaaAaa
import Derived.Test.YtgheaedligkhoaaAab
import Derived.Test.YtgheaedligkhoaaAac
import Derived.Test.YtgheaedligkhoaaAad
import Derived.Test.YtgheaedligkhoaaAaf
import Derived.Test.YtgheaedligkhoaaAag
import Derived.Test.YtgheaedligkhoaaAaw
import Derived.Test.YtgheaedligkhoaaCab
namespace Go.Proofs.Ytgheaedligkhoaa
open Go.RowKit Go.Eng _root_.Go.Proofs.Try Go.Eng _root_.Go.Proofs.Try
set_option maxRecDepth 100000
variable {w0 w : World} {M0 Fz : Nat → Prop} {H : List It} {A : Option Addr} {c : Nat}
theorem pfind_ok {w : World} {S S2 : Nat → Prop} {p : Pln} {cs : List Value} {l : List Evt} {A : Option Addr} {c : Nat} (hpl : plnR.rd S2 w cs p) (hl : GS evtR S w A c l) : Ret prog 9 #[.agg cs.toArray, .slice A l.length c] w (fun x w' => x = find3 (findS p l) ∧ Ext w w') := jfind_ok hpl hl (fun _ hi h => plain_ok hi h)
theorem lfinds_ok {w : World} {S : Nat → Prop} {l : List Evt} {A : Option Addr} {c : Nat} {r a : Int} (hl : GS evtR S w A c l) : Ret prog 15 #[iv r, iv a, .slice A l.length c] w (fun v w' => v = .bool (decide (findS planP l = (r, a, 0))) ∧ Ext w w') := by
 refine ret_of_wk func15 rfl ntmps15 leB_ ?_
 refine so ?_
 refine Ce lplan_ok ?_
 rintro _ w1 ⟨rfl, E1⟩
 refine so ?_
 refine Ce (pfind_ok (planP_rd (S := fun _ => True)) (hl.ext E1)) ?_
 rintro _ w2 ⟨rfl, E2⟩
 obtain ⟨x, y, e⟩ := findS planP l
 refine so ?_
 refine Gs 19 ?_ ?_ <;> intro k1 <;> refine so ?_
 ·refine Gs 24 ?_ ?_ <;> intro k2 <;> refine so ?_
  ·refine Pt ⟨_, rfl, congrArg Value.bool (decide_eq_decide.2 ⟨fun h => ?_, fun h => ?_⟩), E1.trans E2⟩
   ·dsimp only at k1 k2 h
    rw [k1, k2, h]
   ·exact (Prod.mk.inj (Prod.mk.inj h).2).1
  ·exact Pt ⟨_, rfl, bool_f (fun h => k2 (Prod.mk.inj h).1), E1.trans E2⟩
 ·exact Pt ⟨_, rfl, bool_f (fun h => k1 (Prod.mk.inj (Prod.mk.inj h).2).2), E1.trans E2⟩
theorem lfind_yes {w : World} {S : Nat → Prop} {l : List Evt} {A : Option Addr} {c : Nat} {r a : Int} (hl : GS evtR S w A c l) (h : findS planP l = (r, a, 0)) : Ret prog 15 #[iv r, iv a, .slice A l.length c] w (fun v w' => v = .bool true ∧ Ext w w') :=
 Ret.mono (lfinds_ok hl) (fun _ _ hv => ⟨by rw [hv.1, decide_eq_true h], hv.2⟩)
theorem lnT {n : Nat} (h : ((bitsL n).all fun bs => decide (findS planP (lnAll bs) = lnE bs)) = true) {bs : List Bool} (hb : bs.length = n) : findS planP (lnAll bs) = lnE bs :=
 of_decide_eq_true (List.all_eq_true.1 h bs (mem_bits n bs hb))
theorem ln0 : ((bitsL 0).all fun bs => decide (findS planP (lnAll bs) = lnE bs)) = true := by kernel_rfl
theorem ln1 : ((bitsL 1).all fun bs => decide (findS planP (lnAll bs) = lnE bs)) = true := by kernel_rfl
theorem ln2 : ((bitsL 2).all fun bs => decide (findS planP (lnAll bs) = lnE bs)) = true := by kernel_rfl
theorem ln3 : ((bitsL 3).all fun bs => decide (findS planP (lnAll bs) = lnE bs)) = true := by kernel_rfl
theorem ln4 : ((bitsL 4).all fun bs => decide (findS planP (lnAll bs) = lnE bs)) = true := by kernel_rfl
theorem ln5 : ((bitsL 5).all fun bs => decide (findS planP (lnAll bs) = lnE bs)) = true := by kernel_rfl
theorem ln6 : ((bitsL 6).all fun bs => decide (findS planP (lnAll bs) = lnE bs)) = true := by kernel_rfl
theorem ln7 : ((bitsL 7).all fun bs => decide (findS planP (lnAll bs) = lnE bs)) = true := by kernel_rfl
theorem ln8 : ((bitsL 8).all fun bs => decide (findS planP (lnAll bs) = lnE bs)) = true := by kernel_rfl
theorem ln_all {bs : List Bool} (h : bs.length ≤ 8) : findS planP (lnAll bs) = lnE bs := by
 have : bs.length = 0 ∨ bs.length = 1 ∨ bs.length = 2 ∨ bs.length = 3 ∨ bs.length = 4 ∨ bs.length = 5 ∨ bs.length = 6 ∨ bs.length = 7 ∨ bs.length = 8 := by omega
 rcases this with h | h | h | h | h | h | h | h | h
 ·exact lnT ln0 h
 ·exact lnT ln1 h
 ·exact lnT ln2 h
 ·exact lnT ln3 h
 ·exact lnT ln4 h
 ·exact lnT ln5 h
 ·exact lnT ln6 h
 ·exact lnT ln7 h
 ·exact lnT ln8 h
end Go.Proofs.Ytgheaedligkhoaa
