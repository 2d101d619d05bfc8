/- What each of these functions computes, for every argument that its theorem names; a part of what the proof of ImageOnce stands on. -/
import Derived.Test.YtmbpneaibmldfaaGreatAac
import Derived.Test.YtmbpneaibmldfaaGreatAad
namespace Go.Proofs.YtmbpneaibmldfaaGreat
open Go.RowKit Go.Eng Go.Eng _root_.Go.Proofs.Tryz
set_option maxRecDepth 100000
variable {w0 w:World} {M0 Fz:Nat→Prop} {H:List It} {A:Option Addr} {c:Nat}
theorem t0_r11next_ok {p:Prop} (h:p:=by exact Kl [0,3] hKL1 (l.length-(k+1)) ⟨(k+1),rfl,by omega,upto hall ⟨by omega,by omega,fun _=>by omega⟩,hln,hl.to,me,rfl⟩ (by omega)):p:=h
set_option maxHeartbeats 40000000 in
theorem r11next_ok {Al:Option Addr} {cl:Nat} {l:List Int} {Sl:Nat→Prop} (hl:GS intR Sl w Al cl l):Ret prog 162 #[.slice Al l.length cl] w (fun v w'=>v= .bool (decide (nextMay l))∧Ext w w'):=by
 have mhl:=hl.mx
 refine ret_of_wk func162 rfl ntmps162 leB_ ?_
 refine so ?_
 refine Gs 7 ?_ ?_<;>intro hg1<;>refine so ?_
 refine Gs 12 ?_ ?_<;>intro hg2<;>refine so ?_
 refine Cd ?_ ?_<;>intro hc3<;>refine so ?_
 refine Pt ?_
 exact ⟨_,rfl,bool_f (fun h=>by have:=h.1;omega),me⟩
 refine Lp [0, 3] (fun L' w' mes => ∃ (k : Nat), L' = [(0, .slice Al l.length cl), (3, iv (k : Int))] ∧ (k ≤ l.length) ∧ (∀ i, i < k → 1 ≤ l.getD i 0 ∧ l.getD i 0 ≤ 28 ∧ (0 < i → l.getD (i - 1) 0 < l.getD i 0)) ∧ (l.length = 1 ∨ l.length = 4 ∨ l.length = 7) ∧ (GS intR Sl w' Al cl l) ∧ (Ext w w') ∧ l.length - k = mes) (l.length - 0) (by
     refine ⟨0,rfl,by omega, ?_,by omega,hl,me,rfl⟩
     intro i hi;omega) ?_
 rintro _ wr _ ⟨k,rfl,hk,hall,hln,hl,hEc,rfl⟩ KL1 hKL1
 refine so ?_
 refine Cd ?_ ?_<;>intro hc4<;>refine so ?_
 by_cases hs5:1≤(l.getD k 0)∧(l.getD k 0)≤28
 by_cases hs6:(k:Int)>0
 obtain ⟨aw2,hAw2,hatw2⟩:=GS.elI hl k (by omega)
 obtain ⟨aw17,hAw17,hatw17⟩:=GS.elI hl (k-1) (by omega)
 cases Option.some.inj (hAw2.symm.trans hAw17)
 refine wdE 22 (fun wD hED=>by refine pm ?_;exact PLs (r11_within) (h:=by refine pm ?_;exact .op rfl (aGy rfl rfl (by first|rfl|exact bt|exact bf) (wl_idx0 (by decide) sl22 rfl rfl hAw17 (k-1) (by omega) (by omega) (wl_nil qp))) pl)) fun wD hED=> ?_
 refine so ?_
 refine Cd ?_ ?_<;>intro hc7<;>refine so ?_
 refine Pt ?_
 exact ⟨_,rfl,bool_f (fun h=>by have:=h.2 k (by omega);omega),me⟩
 exact t0_r11next_ok
 obtain ⟨aw2,hAw2,hatw2⟩:=GS.elI hl k (by omega)
 refine wdE 22 (fun wD hED=>by refine pm ?_;exact PLs (r11_within) (h:=pl)) fun wD hED=> ?_
 refine so ?_
 refine aF (so ?_)
 exact t0_r11next_ok
 obtain ⟨aw2,hAw2,hatw2⟩:=GS.elI hl k (by omega)
 refine wdE 22 (fun wD hED=>by refine pm ?_;exact PLs (r11_within) (h:=pl)) fun wD hED=> ?_
 refine so ?_
 refine aT (so ?_)
 refine Pt ?_
 exact ⟨_,rfl,bool_f (fun h=>by have:=h.2 k (by omega);omega),me⟩
 refine Pt ?_
 exact ⟨_,rfl,bool_t ⟨hln,fun i hi=>hall i (by omega)⟩,hEc⟩
 refine aF (so ?_)
 refine Lp [0, 3] (fun L' w' mes => ∃ (k : Nat), L' = [(0, .slice Al l.length cl), (3, iv (k : Int))] ∧ (k ≤ l.length) ∧ (∀ i, i < k → 1 ≤ l.getD i 0 ∧ l.getD i 0 ≤ 28 ∧ (0 < i → l.getD (i - 1) 0 < l.getD i 0)) ∧ (l.length = 1 ∨ l.length = 4 ∨ l.length = 7) ∧ (GS intR Sl w' Al cl l) ∧ (Ext w w') ∧ l.length - k = mes) (l.length - 0) (by
     refine ⟨0,rfl,by omega, ?_,by omega,hl,me,rfl⟩
     intro i hi;omega) ?_
 rintro _ wr _ ⟨k,rfl,hk,hall,hln,hl,hEc,rfl⟩ KL1 hKL1
 refine so ?_
 refine Cd ?_ ?_<;>intro hc8<;>refine so ?_
 by_cases hs9:1≤(l.getD k 0)∧(l.getD k 0)≤28
 by_cases hs10:(k:Int)>0
 obtain ⟨aw2,hAw2,hatw2⟩:=GS.elI hl k (by omega)
 obtain ⟨aw17,hAw17,hatw17⟩:=GS.elI hl (k-1) (by omega)
 cases Option.some.inj (hAw2.symm.trans hAw17)
 refine wdE 22 (fun wD hED=>by refine pm ?_;exact PLs (r11_within) (h:=by refine pm ?_;exact .op rfl (aGy rfl rfl (by first|rfl|exact bt|exact bf) (wl_idx0 (by decide) sl22 rfl rfl hAw17 (k-1) (by omega) (by omega) (wl_nil qp))) pl)) fun wD hED=> ?_
 refine so ?_
 refine Cd ?_ ?_<;>intro hc11<;>refine so ?_
 refine Pt ?_
 exact ⟨_,rfl,bool_f (fun h=>by have:=h.2 k (by omega);omega),me⟩
 exact t0_r11next_ok
 obtain ⟨aw2,hAw2,hatw2⟩:=GS.elI hl k (by omega)
 refine wdE 22 (fun wD hED=>by refine pm ?_;exact PLs (r11_within) (h:=pl)) fun wD hED=> ?_
 refine so ?_
 refine aF (so ?_)
 exact t0_r11next_ok
 obtain ⟨aw2,hAw2,hatw2⟩:=GS.elI hl k (by omega)
 refine wdE 22 (fun wD hED=>by refine pm ?_;exact PLs (r11_within) (h:=pl)) fun wD hED=> ?_
 refine so ?_
 refine aT (so ?_)
 refine Pt ?_
 exact ⟨_,rfl,bool_f (fun h=>by have:=h.2 k (by omega);omega),me⟩
 refine Pt ?_
 exact ⟨_,rfl,bool_t ⟨hln,fun i hi=>hall i (by omega)⟩,hEc⟩
 refine aF (so ?_)
 refine Lp [0, 3] (fun L' w' mes => ∃ (k : Nat), L' = [(0, .slice Al l.length cl), (3, iv (k : Int))] ∧ (k ≤ l.length) ∧ (∀ i, i < k → 1 ≤ l.getD i 0 ∧ l.getD i 0 ≤ 28 ∧ (0 < i → l.getD (i - 1) 0 < l.getD i 0)) ∧ (l.length = 1 ∨ l.length = 4 ∨ l.length = 7) ∧ (GS intR Sl w' Al cl l) ∧ (Ext w w') ∧ l.length - k = mes) (l.length - 0) (by
     refine ⟨0,rfl,by omega, ?_,by omega,hl,me,rfl⟩
     intro i hi;omega) ?_
 rintro _ wr _ ⟨k,rfl,hk,hall,hln,hl,hEc,rfl⟩ KL1 hKL1
 refine so ?_
 refine Cd ?_ ?_<;>intro hc12<;>refine so ?_
 by_cases hs13:1≤(l.getD k 0)∧(l.getD k 0)≤28
 by_cases hs14:(k:Int)>0
 omega
 obtain ⟨aw2,hAw2,hatw2⟩:=GS.elI hl k (by omega)
 refine wdE 22 (fun wD hED=>by refine pm ?_;exact PLs (r11_within) (h:=pl)) fun wD hED=> ?_
 refine so ?_
 refine aF (so ?_)
 exact t0_r11next_ok
 obtain ⟨aw2,hAw2,hatw2⟩:=GS.elI hl k (by omega)
 refine wdE 22 (fun wD hED=>by refine pm ?_;exact PLs (r11_within) (h:=pl)) fun wD hED=> ?_
 refine so ?_
 refine aT (so ?_)
 refine Pt ?_
 exact ⟨_,rfl,bool_f (fun h=>by have:=h.2 k (by omega);omega),me⟩
 refine Pt ?_
 exact ⟨_,rfl,bool_t ⟨hln,fun i hi=>hall i (by omega)⟩,hEc⟩
end Go.Proofs.YtmbpneaibmldfaaGreat
