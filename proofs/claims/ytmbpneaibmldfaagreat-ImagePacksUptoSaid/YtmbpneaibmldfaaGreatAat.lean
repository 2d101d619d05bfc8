/- What each of these functions computes, for every argument that its theorem names; a part of what the proof of ImageOnce stands on. -/
import Derived.Test.YtmbpneaibmldfaaGreatAac
import Derived.Test.YtmbpneaibmldfaaGreatAad
import Derived.Test.YtmbpneaibmldfaaGreatAaf
import Derived.Test.YtmbpneaibmldfaaGreatAag
import Derived.Test.YtmbpneaibmldfaaGreatAai
import Derived.Test.YtmbpneaibmldfaaGreatAaj
import Derived.Test.YtmbpneaibmldfaaGreatAak
import Derived.Test.YtmbpneaibmldfaaGreatAal
import Derived.Test.YtmbpneaibmldfaaGreatAap
import Derived.Test.YtmbpneaibmldfaaGreatAaq
namespace Go.Proofs.YtmbpneaibmldfaaGreat
open Go.RowKit Go.Eng _root_.Go.Proofs.Tryz Go.Eng _root_.Go.Proofs.Tryz
set_option maxRecDepth 100000
variable {w0 w:World} {M0 Fz:Nat→Prop} {H:List It} {A:Option Addr} {c:Nat}
theorem roundV_len {S:List Int} {B:List UInt8} (h:S.length=8):(roundV S B).length=8:=rndB_len (rndA_len _ h _) _
set_option maxHeartbeats 4000000 in
theorem round_ok {w:World} {S:List Int} {B:List UInt8} (hS:S.length=8) (hB:B.length=64):Ret prog 183 #[.agg (S.map uv).toArray, .agg (B.map bv).toArray] w (fun v w'=>v= .agg ((roundV S B).map uv).toArray∧Ext w w'):=by
 refine ret_of_wk func183 rfl ntmps183 leB_ ?_
 have hp:=HP.begin_ w
 refine so ?_
 refine Bx hp (h:=fun g2 w1 hp E1=>so ?_)
 refine Bx hp (h:=fun g3 w2 hp E2=>so ?_)
 refine Alo hp (h:=fun g4 w3 hp E3=> ?_)
 replace hp:=hp.as_ (H':= [itB g4 230 ((List.replicate 8 (0:Int)).map uv),itB g3 232 (B.map bv),itB g2 230 (S.map uv)]) rfl
 refine so ?_
 apply wc_drawW 6 3 4 5 5 6 262 ((List.replicate 64 (0:Int)).map uv) (rootsL.map uv) [SP.eq _,SP.eq _,SP.eq _,SP.any,SP.any,SP.any] (by kernel_rfl) (by kernel_rfl) (by kernel_rfl) (by kernel_rfl) ⟨.inr (fun _ _ _ _ h=>h), .inr (fun _ _ _ _ h=>h), .inr (fun _ _ _ _ h=>h), .inr (fun _ _ _ _ _=>trivial), .inr (fun _ _ _ _ _=>trivial), .inr (fun _ _ _ _ _=>trivial),trivial⟩ (Nat.le_of_ble_eq_true rfl)
 ·refine ⟨?_, ?_, ?_, ?_, ?_, ?_, trivial⟩ <;> intro F wF hER hk hEE
  ·exact Cy roots_ok (fun wc hEc=>wl_nil (qr_some ⟨RlW.o (by decide) (by decide) (by decide) hEc,rfl⟩))
  ·have e3 := hk.init 3 _ rfl (by kernel_rfl)
   refine wl_hloadA (by decide) ag232 e3 (hp.ext hER) (i:=1) rfl (by rw [whole hB];simp [hB]) ?_
   rw [whole hB]
   exact wl_nil (qr_some ⟨RlW.o (by decide) (by decide) (by decide) (Chg.refl _ _),rfl⟩)
  ·obtain ⟨u19, e19, h19⟩ := hk.pred 1 (by kernel_rfl) 19 rfl
   obtain rfl:=h19
   exact wl_call (xs := [.tmp 19]) (by decide) (by kernel_rfl) (by simp only [evs, ev, e19]) (sched_ok hB) (by
    rintro _ wc ⟨rfl,hEc⟩
    exact wl_nil (qr_some ⟨RlW.o (by decide) (by decide) (by decide) hEc,rfl⟩))
  ·refine wl_alloc (by decide) ZrC.h ?_
   rintro g7 w7 hg7 hb7 hE7
   subst hg7
   exact wl_nil (qr_some ⟨RlW.a (.inl rfl) (by decide) hb7 hE7,trivial⟩)
  ·refine wl_alloc (by decide) ZrC.h ?_
   rintro g7 w7 hg7 hb7 hE7
   subst hg7
   exact wl_nil (qr_some ⟨RlW.a (.inr rfl) (by decide) hb7 hE7,trivial⟩)
  ·obtain ⟨u18, e18, h18⟩ := hk.pred 0 (by kernel_rfl) 18 rfl
   obtain rfl:=h18
   obtain ⟨g7,hg7,hb7⟩:=hEE rfl
   refine wl_storeB2 hg7 e18 hb7 sz262 (Nat.le_of_ble_eq_true rfl) (by intro u hu;obtain ⟨_,_,rfl⟩:=List.mem_map.1 hu;rfl) ?_
   intro w7 hb8 hC7
   exact wl_nil (qr_none ⟨RlW.f hg7 hC7 hb8,trivial⟩)
 intro F wD hED hini hdo hWW
 obtain ⟨g5,g6,hWn,hWA,hWB,e5,e6,hbA,hbB⟩:=hWW
 obtain ⟨u20,e20,h20⟩:=hdo 2 20 (Nat.lt_of_lt_of_eq (by decide) rfl) rfl
 obtain rfl:=h20
 refine wl_drop [(2,_),(3,_),(4,_),(5,_),(6,_),(20,_)] ⟨hini 2 _ rfl (by kernel_rfl),hini 3 _ rfl (by kernel_rfl),hini 4 _ rfl (by kernel_rfl),e5,e6,e20,trivial⟩ ?_
 clear e5 e6 e20 hini hdo
 replace hp:=hp.add2 hED hbA hbB hWn hWA hWB
 have hlW:=sched_len B
 have hV:roundV S B=rndB S (rndA S (sched B) 64) 8:=rfl
 generalize sched B=W at hlW hV
 refine Hs 1 hp (xs:=W.map uv) (ds:=W.map uv) (hc:=⟨rfl⟩) (hk:=by rw [List.length_map];exact hlW) (hl:=by simp [hlW]) (h1:=by intro u hu;obtain ⟨_,_,rfl⟩:=List.mem_map.1 hu;rfl) (hq:=putL_all (by simp [hlW])) (h:=fun w6 hp C6=> ?_)
 replace hp:=hp.as_ (H':= [itB g5 262 (rootsL.map uv),itB g6 262 (W.map uv),itB g4 230 ((List.replicate 8 (0:Int)).map uv),itB g3 232 (B.map bv),itB g2 230 (S.map uv)]) rfl
 have hlR:=rootsL_len
 have hst: ∀(s:List Int) (k:Nat),rndA s W (k+1)=rStep (rndA s W k) (rootsL.getD k 0) (W.getD k 0):=fun _ _=>rfl
 generalize rootsL=RL at hp hlR hst
 refine so ?_
 refine wl_hloadA (by decide) ag230 rfl hp (i:=4) rfl (by rw [whole hS];simp [hS]) ?_
 rw [whole hS]
 refine Alo hp (h:=fun g7 w7 hp E7=> ?_)
 refine Hs 0 hp (xs:=S.map uv) (ds:=S.map uv) (hc:=⟨rfl⟩) (hk:=by rw [List.length_map];exact hS) (hl:=by simp [hS]) (h1:=by intro u hu;obtain ⟨_,_,rfl⟩:=List.mem_map.1 hu;rfl) (hq:=putL_all (by simp [hS])) (h:=fun w8 hp C8=> ?_)
 refine so ?_
 refine Lp [2,4,5,6,7,8] (fun L' w' mes=> ∃k:Nat,L'= [(2,pt g2 0),(4,pt g4 0),(5,pt g5 0),(6,pt g6 0),(7,pt g7 0),(8,iv (k:Int))]∧k≤64∧HP w (fun _=>False) (fun b=>b<w.heap.size) w' [itB g7 230 ((rndA S W k).map uv),itB g5 262 (RL.map uv),itB g6 262 (W.map uv),itB g4 230 ((List.replicate 8 (0:Int)).map uv),itB g3 232 (B.map bv),itB g2 230 (S.map uv)]∧mes=64-k) 64 ⟨0,rfl,by omega,hp,rfl⟩ ?_ (by rfl)
 rintro _ wr _ ⟨k,rfl,hk,hp,rfl⟩ KL hKL
 have hls:(rndA S W k).length=8:=rndA_len W hS k
 have hsk:=hst S k
 generalize hsN:rndA S W k=s at hp hls hsk
 refine so ?_
 refine Cd ?_ ?_<;>intro hc
 ·have hkl : k < 64 := by omega
  refine so ?_
  refine wdP 18 hp (fun wD hp hED=>by
   apply PL.op;rfl;exact wl_ixA (by decide) ar230 rfl rfl 0 rfl (by decide) (wl_nil qp)
   apply PL.op;rfl;exact wl_ldM 0 (by decide) sc229 rfl hp rfl (z:=(0:Int)) (by omega) (wl_nil qp)
   apply PL.op;rfl;exact wl_ixA (by decide) ar230 rfl rfl 1 rfl (by decide) (wl_nil qp)
   apply PL.op;rfl;exact wl_ldM 0 (by decide) sc229 rfl hp rfl (z:=(0:Int)) (by omega) (wl_nil qp)
   apply PL.op;rfl;exact wl_ixA (by decide) ar230 rfl rfl 2 rfl (by decide) (wl_nil qp)
   apply PL.op;rfl;exact wl_ldM 0 (by decide) sc229 rfl hp rfl (z:=(0:Int)) (by omega) (wl_nil qp)
   apply PL.op;rfl;exact wl_ixA (by decide) ar230 rfl rfl 4 rfl (by decide) (wl_nil qp)
   apply PL.op;rfl;exact wl_ldM 0 (by decide) sc229 rfl hp rfl (z:=(0:Int)) (by omega) (wl_nil qp)
   apply PL.op;rfl;exact wl_ixA (by decide) ar230 rfl rfl 5 rfl (by decide) (wl_nil qp)
   apply PL.op;rfl;exact wl_ldM 0 (by decide) sc229 rfl hp rfl (z:=(0:Int)) (by omega) (wl_nil qp)
   apply PL.op;rfl;exact wl_ixA (by decide) ar230 rfl rfl 6 rfl (by decide) (wl_nil qp)
   apply PL.op;rfl;exact wl_ldM 0 (by decide) sc229 rfl hp rfl (z:=(0:Int)) (by omega) (wl_nil qp)
   apply PL.op;rfl;exact wl_assign (by decide) rfl (wl_nil qp)
   apply PL.op;rfl;exact wl_assign (by decide) rfl (wl_nil qp)
   apply PL.op;rfl;exact wl_assign (by decide) rfl (wl_nil qp)
   apply PL.op;rfl;exact wl_assign (by decide) rfl (wl_nil qp)
   apply PL.op;rfl;exact wl_assign (by decide) rfl (wl_nil qp)
   apply PL.op;rfl;exact wl_assign (by decide) rfl (wl_nil qp)
   exact .nil
   ) fun wD hp hED=> ?_
  refine so ?_
  refine wdP 29 hp (fun wD hp hED=>by
   apply PL.op;rfl;exact wl_ixA (by decide) ar230 rfl rfl 7 rfl (by decide) (wl_nil qp)
   apply PL.op;rfl;exact wl_ldM 0 (by decide) sc229 rfl hp rfl (z:=(0:Int)) (by omega) (wl_nil qp)
   apply PL.op;rfl;exact wl_move (by decide) rfl (wl_nil qp)
   apply PL.op;rfl;exact Cy (ror_ok (n:=6) (by omega)) (fun wc hEc=>wl_nil (qpe hEc))
   apply PL.op;rfl;exact wl_move (by decide) rfl (wl_nil qp)
   apply PL.op;rfl;exact Cy (ror_ok (n:=11) (by omega)) (fun wc hEc=>wl_nil (qpe hEc))
   apply PL.op;rfl;exact wl_xor (by decide) rfl rfl rfl (wl_nil qp)
   apply PL.op;rfl;exact wl_move (by decide) rfl (wl_nil qp)
   apply PL.op;rfl;exact Cy (ror_ok (n:=25) (by omega)) (fun wc hEc=>wl_nil (qpe hEc))
   apply PL.op;rfl;exact wl_xor (by decide) rfl rfl rfl (wl_nil qp)
   apply PL.op;rfl;exact wl_add (by decide) rfl rfl rfl (wl_nil qp)
   apply PL.op;rfl;exact wl_move (by decide) rfl (wl_nil qp)
   apply PL.op;rfl;exact wl_move (by decide) rfl (wl_nil qp)
   apply PL.op;rfl;exact wl_and (by decide) rfl rfl rfl (wl_nil qp)
   apply PL.op;rfl;exact wl_move (by decide) rfl (wl_nil qp)
   apply PL.op;rfl;exact wl_inv (by decide) rfl rfl (wl_nil qp)
   apply PL.op;rfl;exact wl_move (by decide) rfl (wl_nil qp)
   apply PL.op;rfl;exact wl_and (by decide) rfl rfl rfl (wl_nil qp)
   apply PL.op;rfl;exact wl_xor (by decide) rfl rfl rfl (wl_nil qp)
   apply PL.op;rfl;exact wl_add (by decide) rfl rfl rfl (wl_nil qp)
   apply PL.op;rfl;exact wl_move (by decide) rfl (wl_nil qp)
   apply PL.op;rfl;exact wl_ixA (by decide) ar262 rfl rfl k rfl (by omega) (wl_nil qp)
   apply PL.op;rfl;exact wl_ldM 1 (by decide) sc229 rfl hp rfl (z:=(0:Int)) (by omega) (wl_nil qp)
   apply PL.op;rfl;exact wl_add (by decide) rfl rfl rfl (wl_nil qp)
   apply PL.op;rfl;exact wl_move (by decide) rfl (wl_nil qp)
   apply PL.op;rfl;exact wl_ixA (by decide) ar262 rfl rfl k rfl (by omega) (wl_nil qp)
   apply PL.op;rfl;exact wl_ldM 2 (by decide) sc229 rfl hp rfl (z:=(0:Int)) (by omega) (wl_nil qp)
   apply PL.op;rfl;exact wl_add (by decide) rfl rfl rfl (wl_nil qp)
   apply PL.op;rfl;exact wl_assign (by decide) rfl (wl_nil qp)
   exact .nil
   ) fun wD hp hED=> ?_
  refine so ?_
  refine Cx hp (ror_ok (n:=2) (by omega)) (fun w5 hp hE5=> ?_)
  refine wl_move (by decide) rfl ?_
  refine Cx hp (ror_ok (n:=13) (by omega)) (fun w5 hp hE5=> ?_)
  refine wl_xor (by decide) rfl rfl rfl ?_
  refine wl_move (by decide) rfl ?_
  refine Cx hp (ror_ok (n:=22) (by omega)) (fun w5 hp hE5=> ?_)
  refine wl_xor (by decide) rfl rfl rfl ?_
  refine wl_move (by decide) rfl ?_
  refine wl_move (by decide) rfl ?_
  refine wl_and (by decide) rfl rfl rfl ?_
  refine wl_move (by decide) rfl ?_
  refine wl_move (by decide) rfl ?_
  refine wl_and (by decide) rfl rfl rfl ?_
  refine wl_xor (by decide) rfl rfl rfl ?_
  refine wl_move (by decide) rfl ?_
  refine wl_move (by decide) rfl ?_
  refine wl_and (by decide) rfl rfl rfl ?_
  refine wl_xor (by decide) rfl rfl rfl ?_
  refine wl_add (by decide) rfl rfl rfl ?_
  refine wl_assign (by decide) rfl ?_
  refine so ?_
  refine wl_add (by decide) rfl rfl rfl ?_
  refine wl_move (by decide) rfl ?_
  refine wl_move (by decide) rfl ?_
  refine wl_move (by decide) rfl ?_
  refine wl_ixA (by decide) ar230 rfl rfl 3 rfl (by decide) ?_
  refine wl_ldM 0 (by decide) sc229 rfl hp rfl (z:=(0:Int)) (by omega) ?_
  refine wl_move (by decide) rfl ?_
  refine wl_add (by decide) rfl rfl rfl ?_
  refine wl_move (by decide) rfl ?_
  refine wl_move (by decide) rfl ?_
  refine wl_move (by decide) rfl ?_
  refine wl_builtS (by decide) bld230 rfl rfl ?_
  refine Hs 0 hp (xs:=(rStep s (RL.getD k 0) (W.getD k 0)).map uv) (ds:=(rStep s (RL.getD k 0) (W.getD k 0)).map uv) (hl:=by simp [hls,rStep]) (hq:=putL_all (by simp [hls,rStep])) (h:=fun w9 hp C9=> ?_)
  rw [←hsk] at hp
  replace hp:=hp.as_ (H':= [itB g7 230 ((rndA S W (k+1)).map uv),itB g5 262 (RL.map uv),itB g6 262 (W.map uv),itB g4 230 ((List.replicate 8 (0:Int)).map uv),itB g3 232 (B.map bv),itB g2 230 (S.map uv)]) rfl
  refine so ?_
  exact Kl [2,4,5,6,7,8] hKL (64-(k+1)) ⟨k+1,rfl,by omega,hp,rfl⟩ (by omega)
 obtain rfl:k=64:=by omega
 clear hsk hst
 rw [hsN] at hV
 clear hsN
 refine so ?_
 refine Lp [2,4,7,17] (fun L' w' mes=> ∃k:Nat,L'= [(2,pt g2 0),(4,pt g4 0),(7,pt g7 0),(17,iv (k:Int))]∧k≤8∧HP w (fun _=>False) (fun b=>b<w.heap.size) w' [itB g7 230 ((rndB S s k).map uv),itB g5 262 (RL.map uv),itB g6 262 (W.map uv),itB g4 230 ((List.replicate 8 (0:Int)).map uv),itB g3 232 (B.map bv),itB g2 230 (S.map uv)]∧mes=8-k) 8 ⟨0,rfl,by omega,hp,rfl⟩ ?_ (by rfl)
 rintro _ wr _ ⟨k,rfl,hk,hp,rfl⟩ KL hKL
 have hls2:(rndB S s k).length=8:=rndB_len hls k
 refine so ?_
 refine Cd ?_ ?_<;>intro hc
 ·have hkl : k < 8 := by omega
  refine so ?_
  refine wdP 9 hp (fun wD hp hED=>by
   apply PL.op;rfl;exact wl_move (by decide) rfl (wl_nil qp)
   apply PL.op;rfl;exact wl_move (by decide) rfl (wl_nil qp)
   apply PL.op;rfl;exact wl_ixA (by decide) ar230 rfl rfl k rfl (by omega) (wl_nil qp)
   apply PL.op;rfl;exact wl_ldM 0 (by decide) sc229 rfl hp rfl (z:=(0:Int)) (by omega) (wl_nil qp)
   apply PL.op;rfl;exact wl_move (by decide) rfl (wl_nil qp)
   apply PL.op;rfl;exact wl_ixA (by decide) ar230 rfl rfl k rfl (by omega) (wl_nil qp)
   apply PL.op;rfl;exact wl_ldM 5 (by decide) sc229 rfl hp rfl (z:=(0:Int)) (by omega) (wl_nil qp)
   apply PL.op;rfl;exact wl_add (by decide) rfl rfl rfl (wl_nil qp)
   apply PL.op;rfl;exact wl_ixA (by decide) ar230 rfl rfl k rfl (by omega) (wl_nil qp)
   exact .nil
   ) fun wD hp hED=> ?_
  refine H1 0 hp (hl:=by rw [List.length_map,hls2];omega) (h:=fun w9 hp C9=> ?_)
  replace hp:=hp.as_ (H':= [itB g7 230 ((rndB S s (k+1)).map uv),itB g5 262 (RL.map uv),itB g6 262 (W.map uv),itB g4 230 ((List.replicate 8 (0:Int)).map uv),itB g3 232 (B.map bv),itB g2 230 (S.map uv)]) (by rw [rndB,←map_set])
  refine so ?_
  exact Kl [2,4,7,17] hKL (8-(k+1)) ⟨k+1,rfl,by omega,hp,rfl⟩ (by omega)
 obtain rfl:k=8:=by omega
 rw [hV]
 generalize rndB S s 8=z at hp hls2
 refine so ?_
 refine wl_hloadA (by decide) ag230 rfl hp (i:=0) rfl (by rw [whole hls2];simp [hls2]) ?_
 rw [whole hls2]
 refine Hs 3 hp (xs:=z.map uv) (ds:=z.map uv) (hc:=⟨rfl⟩) (hk:=by rw [List.length_map];exact hls2) (hl:=by simp [hls2]) (h1:=by intro u hu;obtain ⟨_,_,rfl⟩:=List.mem_map.1 hu;rfl) (hq:=putL_all (by simp [hls2])) (h:=fun w9 hp C9=>so ?_)
 refine wk_postR (rs:= [.cell 4 230]) (.inl rfl) results183 ⟨_,_,_,rfl,rfl,loadVar_agg ag230 (hp.blkAt (i:=3) rfl).at0 (by rw [List.length_map];exact hls2),rfl⟩ ?_
 exact ⟨_,rfl,rfl,hp.chg⟩
def shaS (p : List UInt8) : Nat → List Int
 |0=>firstL
 |m+1=>roundV (shaS p m) (fillA p m 64)
end Go.Proofs.YtmbpneaibmldfaaGreat
namespace Go.Proofs.YtmbpneaibmldfaaGreat
open Go.RowKit Go.Eng Go.Eng _root_.Go.Proofs.Tryz
set_option maxRecDepth 100000
variable {w0 w:World} {M0 Fz:Nat→Prop} {H:List It} {A:Option Addr} {c:Nat}
set_option maxHeartbeats 40000000 in
theorem efW_ok {Aa:Option Addr} {ca:Nat} {a:List Wsh} {Sa:Nat→Prop} {Ab:Option Addr} {cb:Nat} {b:List Wsh} {Sb:Nat→Prop} (ha:GS wishR Sa w Aa ca a) (hb:GS wishR Sb w Ab cb b):Ret prog 120 #[.slice Aa a.length ca, .slice Ab b.length cb, .func (.func 121) #[] #[]] w (fun v w'=>v= .bool (decide (a=b))∧Ext w w'):=by
 have mha:=ha.mx
 have mhb:=hb.mx
 refine ret_of_wk func120 rfl ntmps120 leB_ ?_
 have hp:=HP.begin_ w
 refine so ?_
 refine Cd ?_ ?_<;>intro hne
 refine so ?_
 refine Pt ?_
 exact ⟨_,rfl,bool_f (fun e=>hne (by rw [e])),hp.chg⟩
 have hll:a.length=b.length:=by omega
 refine so ?_
 refine Lp [1,2,15,16,17] (fun L' w' mes=> ∃(k:Nat),L'= [(1, .slice Ab b.length cb),(2, .func (.func 121) #[] #[]),(15, .slice Aa a.length ca),(16,iv (a.length:Int)),(17,iv (k:Int))]∧(k≤a.length)∧(a.take k=b.take k)∧(GS wishR (fun b=>b<w.heap.size) w' Aa ca a)∧(GS wishR (fun b=>b<w.heap.size) w' Ab cb b)∧(HP w (fun _=>False) (fun b=>b<w.heap.size) w' ([]))∧a.length-k=mes) (a.length-0) ⟨0,rfl,by omega,by simp,ha.tn,hb.tn,hp,rfl⟩ ?_
 rintro _ wr _ ⟨k,rfl,hk,htk,ha,hb,hp,rfl⟩ KL1 hKL1
 refine so ?_
 refine Cd ?_ ?_<;>intro hlt
 refine so ?_
 obtain ⟨ae1,pe1_0,qe1_0,pe1_1,qe1_1,hAe1,hate1,hIe1,he1_0,he1_1⟩:=wishR_el ha k (by omega)
 refine so ?_
 refine Alo hp (h:=fun gs8 w2 hp hE2=>so ?_)
 refine Hs 0 hp (h:=fun w3 hp hC3=>so ?_)
 obtain ⟨ae4,pe4_0,qe4_0,pe4_1,qe4_1,hAe4,hate4,hIe4,he4_0,he4_1⟩:=wishR_el (hb.to (w':=w3)) k (by omega)
 refine so ?_
 refine Alo hp (h:=fun gs9 w5 hp hE5=> ?_)
 refine Hs 0 hp (h:=fun w6 hp hC6=>so ?_)
 have hcl:=wSame_ok ⟨hIe1,_,_,_,_,rfl,(he1_0.to (w':=w6)),(he1_1.to (w':=w6))⟩ ⟨hIe4,_,_,_,_,rfl,(he4_0.to (w':=w6)),(he4_1.to (w':=w6))⟩
 refine wl_callv (f:=121) (first:= []) (cap:= []) (by decide) cl121 rfl rfl hcl ?_
 clear hcl
 rintro _ w7 ⟨rfl,hE7⟩
 replace hp:=hp.ext hE7
 refine so ?_
 refine Cd ?_ ?_<;>intro hne2
 refine so ?_
 refine Pt ?_
 exact ⟨_,rfl,bool_f (fun e=>hne2 (by rw [e])),hp.chg⟩
 replace hne2:=Decidable.not_not.1 hne2
 refine so ?_
 refine Kl [1,2,15,16,17] hKL1 (a.length-(k+1)) ⟨(k+1),rfl,by omega, ?_,ha.to,hb.to,hp.tail.tail,rfl⟩ (by omega)
 rw [take_snoc wish0 (by omega:k<a.length),take_snoc wish0 (by omega:k<b.length),htk,hne2]
 have hkl:k=a.length:=by omega
 refine so ?_
 refine Pt ?_
 exact ⟨_,rfl,bool_t (by rw [hkl,List.take_length,hll,List.take_length] at htk;exact htk),hp.chg⟩
set_option maxHeartbeats 40000000 in
theorem wBatch_ok {Al:Option Addr} {cl:Nat} {l:List Wsh} {Sl:Nat→Prop} (hl:GS wishR Sl w Al cl l) (hok:batchOk l):Ret prog 79 #[.slice Al l.length cl] w (fun v w'=> ∃A' c',v= .tuple #[.slice A' (blistE l).length c', .int .i64 0]∧OwnB 5 w.heap.size w' A' c' (blistE l)∧Ext w w'):=by
 have hnl:isNum (l.length:Int):=by have:=hok.1;unfold isNum;omega
 have hbl4:=hok.1
 have hbe:blistE l=numE (l.length:Int)++flatE witemE l:=rfl
 refine ret_of_wk func79 rfl ntmps79 leB_ ?_
 have hp:=HP.begin_ w
 refine so ?_
 refine Cd ?_ ?_<;>intro hc<;>refine so ?_
 omega
 refine wl_bsliceI (xs:= [.tmp 14]) (l:= [(l.length:Int)]) (by decide) sl22 rfl rfl rfl leB_ ?_
 intro gb9 wb9 hbs1 hEb9
 replace hp:=hp.ext hEb9
 have hn1:flatE numE [(l.length:Int)]=numE (l.length:Int):=by simp [flatE]
 refine Ce (nums_ok (l:= [(l.length:Int)]) hbs1 (by intro y hy;rw [List.mem_singleton.1 hy];exact hnl) leB_) ?_
 rintro _ w9 ⟨A9,c9,rfl,ho9,hE9⟩
 rw [hn1] at ho9⊢
 replace hp:=((hp.ownRow hE9 ho9).as_ (H':=itR 5 1 A9 (numE (l.length:Int)).length c9 ((numE (l.length:Int)).map bv)::_) rfl)
 refine so ?_
 refine wc_loop (fun L' w' mes => ∃ (k : Nat), ∃ (A2 : Option Addr), ∃ (c2 : Nat), L' = [(4, .slice A2 (numE (l.length : Int) ++ flatE witemE (l.take k)).length c2), (17, .slice Al l.length cl), (18, iv (l.length : Int)), (19, iv (k : Int))] ∧ (k ≤ l.length) ∧ (GS wishR (fun b => b < w.heap.size) w' Al cl l) ∧ (HP w (fun _ => False) (fun b => b < w.heap.size) w' (itR 5 1 A2 (numE (l.length : Int) ++ flatE witemE (l.take k)).length c2 ((numE (l.length : Int) ++ flatE witemE (l.take k)).map bv) :: [])) ∧ l.length - k = mes) [(4, .slice A9 (numE (l.length : Int) ++ flatE witemE (l.take 0)).length c9), (17, .slice Al l.length cl), (18, iv (l.length : Int)), (19, iv (0 : Int))] (l.length - 0) (by
     refine ⟨0,A9,c9,rfl, ?_, ?_, ?_,rfl⟩
     · exact Nat.zero_le _
     · exact hl.tn
     · rw [List.take_zero,flatE_nil,List.append_nil];exact hp) ⟨(by rw [List.take_zero,flatE_nil,List.append_nil];rfl),rfl,rfl,rfl,trivial⟩ ?_
 rintro _ wr _ ⟨k,A2,c2,rfl,hk,hl,hp,rfl⟩ KL1 hKL1
 refine so ?_
 refine Cd ?_ ?_<;>intro hk8
 have hk9:k<l.length:=by omega
 have hsucc:=flat_takeD witemE l k wish0 hk9
 refine so ?_
 obtain ⟨ae1,pe1_0,qe1_0,pe1_1,qe1_1,hAe1,hate1,hIe1,he1_0,he1_1⟩:=wishR_el hl k (by omega)
 refine so ?_
 refine Alo hp (h:=fun gs6 w2 hp hE2=> ?_)
 refine Hs 0 hp (h:=fun w3 hp hC3=>so ?_)
 have hmx:WishMay (l.getD k wish0):=getD_may hok.2 hk9
 refine Ce (wBytes_ok (x:=(l.getD k wish0)) ⟨hIe1,_,_,_,_,rfl,he1_0.to,he1_1.to⟩ hmx) ?_
 rintro _ w4 ⟨A4,c4,rfl,ho4,hE4⟩
 replace hp:=hp.ext hE4
 refine so ?_
 refine aF (so ?_)
 have hsl:(wishE (l.getD k wish0)).length≤65536:=(by have:=(wish_fine hmx).2;omega)
 have hcl:=str_ok ho4.bs
 rw [str_good hsl] at hcl
 dsimp only at hcl
 refine Ce (hcl) ?_
 rintro _ w5 ⟨A5,c5,rfl,ho5,hE5⟩
 replace hp:=hp.ext hE5
 refine so ?_
 refine aF (so ?_)
 have hit8:=strE_len _ hsl
 have hf8:=flatE_len witemE (l.take k) 164 (fun y hy=>witem_len (hok.2 y (List.mem_of_mem_take hy)))
 rw [List.length_take] at hf8
 have hn8:=numE_len hnl
 refine wl_happendB (i:=1) (l2:=(strE (wishE (l.getD k wish0)))) (by decide) sl36 rfl rfl hp rfl ho5.bs (by rw [List.length_append];omega) ?_
 rintro A8 c8 w6 hp hC6
 refine sl ?_
 refine wc_region ?_
 refine sl ?_
 refine wk_drop [(4, .slice A8 (numE (l.length:Int)++flatE witemE (l.take (k+1))).length c8),(17, .slice Al l.length cl),(18,iv (l.length:Int)),(19,iv ((k+1):Int))] ⟨(by rw [hsucc,←List.append_assoc];rfl),rfl,rfl,rfl,trivial⟩ (hKL1 _ _ (m2:=l.length-(k+1)) ?_ ?_)
 refine ⟨(k+1),A8,c8,rfl,by omega,hl.to, ?_,rfl⟩
 rw [hsucc,←List.append_assoc];exact hp.tail
 omega
 have hkl:k=l.length:=by omega
 refine so ?_
 refine P2 results79 ?_
 subst hkl
 rw [List.take_length] at hp⊢
 exact ⟨_,rfl,A2,c2,rfl,hp.rowLo (i:=0) rfl,hp.chg⟩
end Go.Proofs.YtmbpneaibmldfaaGreat
namespace Go.Proofs.YtmbpneaibmldfaaGreat
open Go.RowKit Go.Eng _root_.Go.Proofs.Tryz Go.Eng _root_.Go.Proofs.Tryz
set_option maxRecDepth 100000
variable {w0 w:World} {M0 Fz:Nat→Prop} {H:List It} {A:Option Addr} {c:Nat}
theorem wBytesF_ok {csx:List Value} {x:Wsh} {Sx:Nat→Prop} {w:World} (hx:wishR.rd Sx w csx x):Ret prog 125 #[.agg csx.toArray] w (fun v w'=> ∃A' c' e,v= .tuple #[.slice A' (if WishMay x then wishE x else []).length c', .int .i64 e]∧(e=0↔WishMay x)∧OwnB 5 w.heap.size w' A' c' (if WishMay x then wishE x else [])∧Ext w w'):=by
 by_cases hm:WishMay x
 ·refine (wBytes_ok hx hm).mono ?_
  rintro _ w' ⟨A',c',rfl,ho,hE⟩
  rw [if_pos hm]
  exact ⟨A',c',0,rfl,⟨fun _=>hm,fun _=>rfl⟩,ho,hE⟩
 ·have hx0 := hx
  obtain ⟨hI,B0,d0,B1,d1,rfl,h0,h1⟩:=hx0
  refine ret_of_wk func125 rfl ntmps125 leB_ ?_
  have hp:=HP.begin_ w
  refine so ?_
  refine Bx hp (h:=fun g w1 hp E1=>so ?_)
  refine Cx hp (wCheck_ok (rdTn hx)) fun w2 hp hE2=> ?_
  refine wl_re (k:=8) (v:= .int .i64 2) rfl (congrArg (Value.int .i64) (if_neg hm)) ?_
  refine so ?_
  refine aT (so ?_)
  refine P2 results125 ?_
  rw [if_neg hm]
  exact ⟨_,rfl,_,_,_,rfl,⟨fun h=>absurd h (by decide),fun h=>absurd h hm⟩,OwnRow.nil _ _ _ _ _,hp.chg⟩
end Go.Proofs.YtmbpneaibmldfaaGreat
namespace Go.Proofs.YtmbpneaibmldfaaGreat
open Go.RowKit Go.Eng Go.Eng _root_.Go.Proofs.Tryz
set_option maxRecDepth 100000
variable {w0 w:World} {M0 Fz:Nat→Prop} {H:List It} {A:Option Addr} {c:Nat}
set_option maxHeartbeats 40000000 in
theorem r18Same_ok {csa:List Value} {a:Img} {Sa:Nat→Prop} {csb:List Value} {b:Img} {Sb:Nat→Prop} (ha:imgR.rd Sa w csa a) (hb:imgR.rd Sb w csb b):Ret prog 60 #[.agg csa.toArray, .agg csb.toArray] w (fun v w'=>v= .bool (decide (a=b))∧Ext w w'):=by
 obtain ⟨hIa,Aa0,ca0,Aa1,ca1,Aa2,ca2,Aa3,ca3,Aa4,ca4,rfl,ha0,ha1,ha2,ha3,ha4⟩:=ha
 obtain ⟨hIb,Ab0,cb0,Ab1,cb1,Ab2,cb2,Ab3,cb3,Ab4,cb4,rfl,hb0,hb1,hb2,hb3,hb4⟩:=hb
 have mha0:=ha0.mx
 have mha1:=ha1.mx
 have mha2:=ha2.mx
 have mha3:=ha3.mx
 have mha4:=ha4.mx
 have mhb0:=hb0.mx
 have mhb1:=hb1.mx
 have mhb2:=hb2.mx
 have mhb3:=hb3.mx
 have mhb4:=hb4.mx
 refine ret_of_wk func60 rfl ntmps60 leB_ ?_
 have hp:=HP.begin_ w
 replace ha0:=ha0.now
 replace ha1:=ha1.now
 replace ha2:=ha2.now
 replace ha3:=ha3.now
 replace ha4:=ha4.now
 replace hb0:=hb0.now
 replace hb1:=hb1.now
 replace hb2:=hb2.now
 replace hb3:=hb3.now
 replace hb4:=hb4.now
 refine go ?_
 refine wl_hbox (by decide) rfl hp ?_
 rintro gs2 w1 hp1 hE1
 have q0:=hE1
 replace hp:=hp1
 replace hp:=hp.ay (itB gs2 45 ([iv a.view, .bool a.active,iv a.low.seq]++(digC a.low.dig++([.slice Aa0 a.own.length ca0, .slice Aa1 a.p.length ca1, .slice Aa2 a.q.length ca2,iv a.ran, .slice Aa3 a.done.length ca3, .bool a.ended, .slice Aa4 a.batches.length ca4])))::_)
 refine wl_hbox (by decide) rfl hp ?_
 rintro gs3 w2 hp2 hE2
 replace q0:=q0.trans hE2
 replace hp:=hp2
 replace hp:=hp.ay (itB gs3 45 ([iv b.view, .bool b.active,iv b.low.seq]++(digC b.low.dig++([.slice Ab0 b.own.length cb0, .slice Ab1 b.p.length cb1, .slice Ab2 b.q.length cb2,iv b.ran, .slice Ab3 b.done.length cb3, .bool b.ended, .slice Ab4 b.batches.length cb4])))::_)
 refine go ?_
 refine Fd_ 0 fld45_0 rfl rfl ?_
 refine Hl_ 1 sc3 rfl hp rfl rfl ?_
 refine Fd_ 0 fld45_0 rfl rfl ?_
 refine Hl_ 0 sc3 rfl hp rfl rfl ?_
 refine Ne_ rfl rfl (go ?_)
 refine Gs 11 (fun hg1=> ?_) fun hg1=> ?_
 refine go ?_
 refine wc_cond_t rfl (go ?_)
 refine P1 results60 ?_
 exact ⟨_,rfl,bool_f (fun h=>by subst h;simp_all),hp.chg⟩
 refine go ?_
 refine Fd_ 1 fld45_1 rfl rfl (go ?_)
 refine Hl_ 1 sc4 rfl hp rfl rfl (go ?_)
 refine Fd_ 1 fld45_1 rfl rfl (go ?_)
 refine Hl_ 0 sc4 rfl hp rfl rfl (go ?_)
 refine wl_neqb (by decide) bo4 rfl rfl ?_
 refine go ?_
 refine Gs 18 (fun hg2=> ?_) fun hg2=> ?_
 refine go ?_
 refine wc_cond_t rfl (go ?_)
 refine P1 results60 ?_
 exact ⟨_,rfl,bool_f (fun h=>by subst h;simp_all),hp.chg⟩
 refine go ?_
 refine Fd_ 2 fld45_2 rfl rfl (go ?_)
 refine Hx_ ([iv a.low.seq]++(digC a.low.dig)) 1 ag28 rfl hp rfl rfl rfl (go ?_)
 refine Fd_ 2 fld45_2 rfl rfl (go ?_)
 refine Hx_ ([iv b.low.seq]++(digC b.low.dig)) 0 ag28 rfl hp rfl rfl rfl (go ?_)
 refine wl_neqK (m:=6) (a.low=b.low) (by decide) key28 eg28 rfl rfl (hIa.low).fit (hIb.low).fit mark_inj ?_
 refine go ?_
 refine Gs 25 (fun hg3=> ?_) fun hg3=> ?_
 refine go ?_
 refine wc_cond_t rfl (go ?_)
 refine P1 results60 ?_
 exact ⟨_,rfl,bool_f (fun h=>by subst h;simp_all),hp.chg⟩
 refine go ?_
 refine Fd_ 38 fld45_6 rfl rfl (go ?_)
 refine Hl_ 1 sc3 rfl hp rfl rfl (go ?_)
 refine Fd_ 38 fld45_6 rfl rfl (go ?_)
 refine Hl_ 0 sc3 rfl hp rfl rfl (go ?_)
 refine Ne_ rfl rfl (go ?_)
 refine Gs 32 (fun hg4=> ?_) fun hg4=> ?_
 refine go ?_
 refine wc_cond_t rfl (go ?_)
 refine P1 results60 ?_
 exact ⟨_,rfl,bool_f (fun h=>by subst h;simp_all),hp.chg⟩
 refine go ?_
 refine Fd_ 40 fld45_8 rfl rfl (go ?_)
 refine Hl_ 1 sc4 rfl hp rfl rfl (go ?_)
 refine Fd_ 40 fld45_8 rfl rfl (go ?_)
 refine Hl_ 0 sc4 rfl hp rfl rfl (go ?_)
 refine wl_neqb (by decide) bo4 rfl rfl ?_
 refine go ?_
 refine Gs 39 (fun hg5=> ?_) fun hg5=> ?_
 refine go ?_
 refine wc_cond_t rfl (go ?_)
 refine P1 results60 ?_
 exact ⟨_,rfl,bool_f (fun h=>by subst h;simp_all),hp.chg⟩
 refine go ?_
 refine Fd_ 41 fld45_9 rfl rfl (go ?_)
 refine Hl_ 1 sc43 rfl hp rfl rfl (go ?_)
 refine Ln_ underlying43 rfl (go ?_)
 refine Fd_ 41 fld45_9 rfl rfl (go ?_)
 refine Hl_ 0 sc43 rfl hp rfl rfl (go ?_)
 refine Ln_ underlying43 rfl (go ?_)
 refine Ne_ rfl rfl (go ?_)
 refine Cd (fun hc6=> ?_) fun hc6=> ?_
 refine go ?_
 refine P1 results60 ?_
 exact ⟨_,rfl,bool_f (fun h=>by subst h;simp_all),hp.chg⟩
 refine go ?_
 refine wc_loop (fun L' w' mes => ∃ (k : Nat), L' = [(2, pt gs2 0), (3, pt gs3 0), (5, iv (k : Int))] ∧ (k ≤ a.batches.length) ∧ (a.batches.take k = b.batches.take k) ∧ (a.batches.length = b.batches.length) ∧ (a.view = b.view ∧ a.active = b.active ∧ a.low = b.low ∧ a.ran = b.ran ∧ a.ended = b.ended) ∧ (GS markR (fun b => b < w.heap.size) w' Aa0 ca0 a.own) ∧ (GS standR (fun b => b < w.heap.size) w' Aa1 ca1 a.p) ∧ (GS standR (fun b => b < w.heap.size) w' Aa2 ca2 a.q) ∧ (GS markR (fun b => b < w.heap.size) w' Aa3 ca3 a.done) ∧ (GS batR (fun b => b < w.heap.size) w' Aa4 ca4 a.batches) ∧ (GS markR (fun b => b < w.heap.size) w' Ab0 cb0 b.own) ∧ (GS standR (fun b => b < w.heap.size) w' Ab1 cb1 b.p) ∧ (GS standR (fun b => b < w.heap.size) w' Ab2 cb2 b.q) ∧ (GS markR (fun b => b < w.heap.size) w' Ab3 cb3 b.done) ∧ (GS batR (fun b => b < w.heap.size) w' Ab4 cb4 b.batches) ∧ (HP w (fun _ => False) (fun b => b < w.heap.size) w' (itB gs3 45 ([iv b.view, .bool b.active, iv b.low.seq] ++ (digC b.low.dig ++ ([.slice Ab0 b.own.length cb0, .slice Ab1 b.p.length cb1, .slice Ab2 b.q.length cb2, iv b.ran, .slice Ab3 b.done.length cb3, .bool b.ended, .slice Ab4 b.batches.length cb4]))) :: itB gs2 45 ([iv a.view, .bool a.active, iv a.low.seq] ++ (digC a.low.dig ++ ([.slice Aa0 a.own.length ca0, .slice Aa1 a.p.length ca1, .slice Aa2 a.q.length ca2, iv a.ran, .slice Aa3 a.done.length ca3, .bool a.ended, .slice Aa4 a.batches.length ca4]))) :: [])) ∧ a.batches.length - k = mes) [(2, pt gs2 0), (3, pt gs3 0), (5, iv (0 : Int))] (a.batches.length - 0) (by
     refine ⟨0,rfl, ?_, ?_, ?_, ?_, ?_, ?_, ?_, ?_, ?_, ?_, ?_, ?_, ?_, ?_, ?_,rfl⟩
     · omega
     · simp
     · omega
     · simp_all
     · exact (ha0.ext q0)
     · exact (ha1.ext q0)
     · exact (ha2.ext q0)
     · exact (ha3.ext q0)
     · exact (ha4.ext q0)
     · exact (hb0.ext q0)
     · exact (hb1.ext q0)
     · exact (hb2.ext q0)
     · exact (hb3.ext q0)
     · exact (hb4.ext q0)
     · exact hp) ⟨rfl,rfl,rfl,trivial⟩ ?_
 rintro _ wc _ ⟨k,rfl,hk,htkb,hll,hpl,ha0,ha1,ha2,ha3,ha4,hb0,hb1,hb2,hb3,hb4,hp,rfl⟩ KL1 hKL1
 refine go ?_
 refine Fd_ 41 fld45_9 rfl rfl ?_
 refine Hl_ 1 sc43 rfl hp rfl rfl ?_
 refine Ln_ underlying43 rfl ?_
 refine Ls_ rfl rfl (go ?_)
 refine Cd (fun hc7=> ?_) fun hc7=> ?_
 refine go ?_
 by_cases hs8:(a.batches.getD k bat0).dig≠(b.batches.getD k bat0).dig
 obtain ⟨aw3,pw3_0,qw3_0,hAw3,hatw3,hw3_0⟩:=batR_el ha4 k (by omega)
 obtain ⟨aw9,pw9_0,qw9_0,hAw9,hatw9,hw9_0⟩:=batR_el hb4 k (by omega)
 apply wdL [.eq _,.eq _,.eq _,.eq _,.eq _,.eq _,.eq _,.eq _,.eq _,.eq _,.eq _,.eq _,.eq (.bool true),.eq (.bool true),.eq undef,.eq undef,.eq undef,.eq undef,.eq undef,.eq undef,.eq undef,.eq undef,.eq undef,.eq undef,.eq undef,.eq undef,.eq undef,.eq undef,.eq (.bool true)]
 refine ⟨?_,?_,?_,?_,?_,?_,?_,?_,?_,?_,?_,?_,?_,?_,?_,?_,?_,?_,?_,?_,?_,?_,?_,?_,?_,?_,?_,?_,?_,trivial⟩<;>intro F wF hER hk
 exact Fd_ 41 fld45_9 (hk.qi 2) rfl qz
 exact Hl_ 1 sc43 (hk.qe 0) (hp.ext hER) rfl rfl qz
 exact dm (hk.qi 5)
 have e56:=hk.qe 1
 have e57:=hk.qe 2
 exact wl_idx0 (by decide) sl43 e56 e57 hAw3 k rfl (by omega) qz
 exact Fe_ fld86_0 (hk.qe 3) qz
 exact wl_loadA (by decide) ag26 (hk.qe 4) ((hatw3.ext hER).at_.take 32) rfl qz
 exact Fd_ 41 fld45_9 (hk.qi 3) rfl qz
 exact Hl_ 0 sc43 (hk.qe 6) (hp.ext hER) rfl rfl qz
 exact dm (hk.qi 5)
 have e62:=hk.qe 7
 have e63:=hk.qe 8
 exact wl_idx0 (by decide) sl43 e62 e63 hAw9 k rfl (by omega) qz
 exact Fe_ fld86_0 (hk.qe 9) qz
 exact wl_loadA (by decide) ag26 (hk.qe 10) ((hatw9.ext hER).at_.take 32) rfl qz
 have e60:=hk.qe 5
 have e66:=hk.qe 11
 refine wl_neqK (m:=6) ((a.batches.getD k bat0).dig=(b.batches.getD k bat0).dig) (by decide) key26 eg26 e60 e66 (digC_fit _) (digC_fit _) digC_inj ?_
 exact wl_re (k:=67) (v:= .bool true) rfl (congrArg Value.bool (decide_eq_true (by first|exact hs8|omega|simpa using hs8))) qy
 exact dm (hk.qe 12)
 exact dn (hk.qe 13)
 exact dn (hk.qe 13)
 exact dn (hk.qe 13)
 exact dn (hk.qe 13)
 exact dn (hk.qe 13)
 exact dn (hk.qe 13)
 exact dn (hk.qe 13)
 exact dn (hk.qe 13)
 exact dn (hk.qe 13)
 exact dn (hk.qe 13)
 exact dn (hk.qe 13)
 exact dn (hk.qe 13)
 exact dn (hk.qe 13)
 exact dn (hk.qe 13)
 have e68:=hk.qe 13
 have e82:=hk.qe 27
 exact Pk_ e68 rfl qz
 intro F wD hED hini hdo
 refine wk_drop [(2,_),(3,_),(5,_),(83,_)] ⟨di hini 2,di hini 3,di hini 5,dq hdo 28,trivial⟩ ?_
 clear hini hdo
 replace hp:=hp.ext hED
 refine go ?_
 refine wc_cond_t rfl (go ?_)
 refine P1 results60 ?_
 exact ⟨_,rfl,bool_f (fun h=>by simp [h] at hg1 hg2 hg3 hg4 hg5 hc6 hc7 hs8),hp.chg⟩
 obtain ⟨aw3,pw3_0,qw3_0,hAw3,hatw3,hw3_0⟩:=batR_el ha4 k (by omega)
 obtain ⟨aw9,pw9_0,qw9_0,hAw9,hatw9,hw9_0⟩:=batR_el hb4 k (by omega)
 obtain ⟨aw17,pw17_0,qw17_0,hAw17,hatw17,hw17_0⟩:=batR_el ha4 k (by omega)
 obtain ⟨aw23,pw23_0,qw23_0,hAw23,hatw23,hw23_0⟩:=batR_el hb4 k (by omega)
 apply wdL [.eq _,.eq _,.eq _,.eq _,.eq _,.eq _,.eq _,.eq _,.eq _,.eq _,.eq _,.eq _,.eq (.bool false),.eq (.bool false),.eq _,.eq _,.eq _,.eq _,.eq _,.eq _,.eq _,.eq _,.eq _,.eq _,.eq _,.eq _,.eq _,.eq _,.eq _]
 refine ⟨?_,?_,?_,?_,?_,?_,?_,?_,?_,?_,?_,?_,?_,?_,?_,?_,?_,?_,?_,?_,?_,?_,?_,?_,?_,?_,?_,?_,?_,trivial⟩<;>intro F wF hER hk
 exact Fd_ 41 fld45_9 (hk.qi 2) rfl qz
 exact Hl_ 1 sc43 (hk.qe 0) (hp.ext hER) rfl rfl qz
 exact dm (hk.qi 5)
 have e56:=hk.qe 1
 have e57:=hk.qe 2
 exact wl_idx0 (by decide) sl43 e56 e57 hAw3 k rfl (by omega) qz
 exact Fe_ fld86_0 (hk.qe 3) qz
 exact wl_loadA (by decide) ag26 (hk.qe 4) ((hatw3.ext hER).at_.take 32) rfl qz
 exact Fd_ 41 fld45_9 (hk.qi 3) rfl qz
 exact Hl_ 0 sc43 (hk.qe 6) (hp.ext hER) rfl rfl qz
 exact dm (hk.qi 5)
 have e62:=hk.qe 7
 have e63:=hk.qe 8
 exact wl_idx0 (by decide) sl43 e62 e63 hAw9 k rfl (by omega) qz
 exact Fe_ fld86_0 (hk.qe 9) qz
 exact wl_loadA (by decide) ag26 (hk.qe 10) ((hatw9.ext hER).at_.take 32) rfl qz
 have e60:=hk.qe 5
 have e66:=hk.qe 11
 refine wl_neqK (m:=6) ((a.batches.getD k bat0).dig=(b.batches.getD k bat0).dig) (by decide) key26 eg26 e60 e66 (digC_fit _) (digC_fit _) digC_inj ?_
 exact wl_re (k:=67) (v:= .bool false) rfl (congrArg Value.bool (decide_eq_false (by first|exact hs8|omega|simpa using hs8))) qy
 exact dm (hk.qe 12)
 have e2:=hk.qi 2
 have e68:=hk.qe 13
 refine wl_gyes rfl e68 ?_
 exact Fd_ 41 fld45_9 e2 rfl qz
 have e69:=hk.qe 14
 have e68:=hk.qe 13
 refine wl_gyes rfl e68 ?_
 exact Hl_ 1 sc43 e69 (hp.ext hER) rfl rfl qz
 have e5:=hk.qi 5
 have e68:=hk.qe 13
 refine wl_gyes rfl e68 ?_
 exact Mv_ e5 qz
 have e70:=hk.qe 15
 have e71:=hk.qe 16
 have e68:=hk.qe 13
 refine wl_gyes rfl e68 ?_
 exact wl_idx0 (by decide) sl43 e70 e71 hAw17 k rfl (by omega) qz
 have e72:=hk.qe 17
 have e68:=hk.qe 13
 refine wl_gyes rfl e68 ?_
 exact Fe_ fld86_1 e72 qz
 have e73:=hk.qe 18
 have e68:=hk.qe 13
 refine wl_gyes rfl e68 ?_
 exact Ld_ sc84 e73 ((hatw17.ext hER).get rfl) qz
 have e3:=hk.qi 3
 have e68:=hk.qe 13
 refine wl_gyes rfl e68 ?_
 exact Fd_ 41 fld45_9 e3 rfl qz
 have e75:=hk.qe 20
 have e68:=hk.qe 13
 refine wl_gyes rfl e68 ?_
 exact Hl_ 0 sc43 e75 (hp.ext hER) rfl rfl qz
 have e5:=hk.qi 5
 have e68:=hk.qe 13
 refine wl_gyes rfl e68 ?_
 exact Mv_ e5 qz
 have e76:=hk.qe 21
 have e77:=hk.qe 22
 have e68:=hk.qe 13
 refine wl_gyes rfl e68 ?_
 exact wl_idx0 (by decide) sl43 e76 e77 hAw23 k rfl (by omega) qz
 have e78:=hk.qe 23
 have e68:=hk.qe 13
 refine wl_gyes rfl e68 ?_
 exact Fe_ fld86_1 e78 qz
 have e79:=hk.qe 24
 have e68:=hk.qe 13
 refine wl_gyes rfl e68 ?_
 exact Ld_ sc84 e79 ((hatw23.ext hER).get rfl) qz
 have e74:=hk.qe 19
 have e80:=hk.qe 25
 have e68:=hk.qe 13
 refine wl_gyes rfl e68 ?_
 have hcl:=alike_ok (hw17_0.ext hER) (hw23_0.ext hER)
 refine Cl_ cl116 (by simp only [evs,ev,e74,e80];first|done|rfl) hcl ?_
 clear hcl
 rintro _ w7 ⟨rfl,hE7⟩
 exact qz ⟨hE7,rfl⟩
 have e81:=hk.qe 26
 have e68:=hk.qe 13
 refine wl_gyes rfl e68 ?_
 first|exact Nd_ e81 qz|exact Nn_ e81 qz
 have e68:=hk.qe 13
 have e82:=hk.qe 27
 exact Pk_ e68 e82 qz
 intro F wD hED hini hdo
 refine wk_drop [(2,_),(3,_),(5,_),(83,_)] ⟨di hini 2,di hini 3,di hini 5,dq hdo 28,trivial⟩ ?_
 clear hini hdo
 have q1:=hED
 replace hp:=hp.ext hED
 refine go ?_
 refine Cd (fun hc9=> ?_) fun hc9=> ?_
 refine go ?_
 refine P1 results60 ?_
 exact ⟨_,rfl,bool_f (fun h=>by simp [h] at hg1 hg2 hg3 hg4 hg5 hc6 hc7 hs8 hc9),hp.chg⟩
 refine go ?_
 refine wl_add (by decide) rfl rfl (w64 (by omega) (by omega)) (gl ?_)
 refine wk_drop [(2,pt gs2 0),(3,pt gs3 0),(5,iv ((k+1):Int))] ⟨rfl,rfl,rfl,trivial⟩ (hKL1 _ _ (m2:=a.batches.length-(k+1)) ?_ ?_)
 refine ⟨(k+1),rfl, ?_, ?_, ?_, ?_, ?_, ?_, ?_, ?_, ?_, ?_, ?_, ?_, ?_, ?_, ?_,rfl⟩
 omega
 rw [take_snoc bat0 (by omega:k<a.batches.length),take_snoc bat0 (by omega:k<b.batches.length),htkb,show (a.batches.getD k bat0)=(b.batches.getD k bat0) from Bat_eq.2 ⟨by first|(simp only [hg1,hg2,hg3,hg4,hg5,hc6,hc7,hs8,hc9];done)|assumption|simp_all,by first|(simp only [hg1,hg2,hg3,hg4,hg5,hc6,hc7,hs8,hc9];done)|assumption|simp_all⟩]
 exact hll
 exact hpl
 exact (ha0.ext q1)
 exact (ha1.ext q1)
 exact (ha2.ext q1)
 exact (ha3.ext q1)
 exact (ha4.ext q1)
 exact (hb0.ext q1)
 exact (hb1.ext q1)
 exact (hb2.ext q1)
 exact (hb3.ext q1)
 exact (hb4.ext q1)
 exact hp
 omega
 refine go ?_
 refine Fd_ 35 fld45_3 rfl rfl ?_
 refine Hl_ 1 sc29 rfl hp rfl rfl ?_
 refine Fd_ 35 fld45_3 rfl rfl ?_
 refine Hl_ 0 sc29 rfl hp rfl rfl ?_
 have hcl:=r15Same_ok ha0 hb0
 refine Cl_ cl117 rfl hcl ?_
 clear hcl
 rintro _ w3 ⟨rfl,hE3⟩
 have q2:=hE3
 replace hp:=hp.ext hE3
 refine go ?_
 refine Gs 89 (fun hg10=> ?_) fun hg10=> ?_
 refine go ?_
 refine Fd_ 39 fld45_7 rfl rfl (go ?_)
 refine Hl_ 1 sc29 rfl hp rfl rfl (go ?_)
 refine Fd_ 39 fld45_7 rfl rfl (go ?_)
 refine Hl_ 0 sc29 rfl hp rfl rfl (go ?_)
 have hcl:=r15Same_ok (ha3.ext q2) (hb3.ext q2)
 refine Cl_ cl117 rfl hcl ?_
 clear hcl
 rintro _ w4 ⟨rfl,hE4⟩
 replace q2:=q2.trans hE4
 replace hp:=hp.ext hE4
 refine go ?_
 refine Gs 96 (fun hg11=> ?_) fun hg11=> ?_
 refine go ?_
 refine Fd_ 36 fld45_4 rfl rfl (go ?_)
 refine Hl_ 1 sc30 rfl hp rfl rfl (go ?_)
 refine Fd_ 36 fld45_4 rfl rfl (go ?_)
 refine Hl_ 0 sc30 rfl hp rfl rfl (go ?_)
 have hcl:=r14Same_ok (ha1.ext q2) (hb1.ext q2)
 refine Cl_ cl118 rfl hcl ?_
 clear hcl
 rintro _ w5 ⟨rfl,hE5⟩
 replace q2:=q2.trans hE5
 replace hp:=hp.ext hE5
 refine go ?_
 refine Gs 103 (fun hg12=> ?_) fun hg12=> ?_
 refine go ?_
 refine Fd_ 37 fld45_5 rfl rfl (go ?_)
 refine Hl_ 1 sc30 rfl hp rfl rfl (go ?_)
 refine Fd_ 37 fld45_5 rfl rfl (go ?_)
 refine Hl_ 0 sc30 rfl hp rfl rfl (go ?_)
 have hcl:=r14Same_ok (ha2.ext q2) (hb2.ext q2)
 refine Cl_ cl118 rfl hcl ?_
 clear hcl
 rintro _ w6 ⟨rfl,hE6⟩
 replace hp:=hp.ext hE6
 refine go ?_
 refine P1 results60 ?_
 have heb:=take_allI htkb (by omega) (by omega)
 exact ⟨_,rfl,congrArg Value.bool (by first|exact decide_eq_decide.2 (by rw [Img_eq];simp_all)|exact (decide_eq_false (by rw [Img_eq];simp_all)).symm|exact (decide_eq_true (by rw [Img_eq];simp_all)).symm),hp.chg⟩
 refine go ?_
 refine P1 results60 ?_
 have heb:=take_allI htkb (by omega) (by omega)
 exact ⟨_,rfl,congrArg Value.bool (by first|exact decide_eq_decide.2 (by rw [Img_eq];simp_all)|exact (decide_eq_false (by rw [Img_eq];simp_all)).symm|exact (decide_eq_true (by rw [Img_eq];simp_all)).symm),hp.chg⟩
 refine go ?_
 refine P1 results60 ?_
 have heb:=take_allI htkb (by omega) (by omega)
 exact ⟨_,rfl,congrArg Value.bool (by first|exact decide_eq_decide.2 (by rw [Img_eq];simp_all)|exact (decide_eq_false (by rw [Img_eq];simp_all)).symm|exact (decide_eq_true (by rw [Img_eq];simp_all)).symm),hp.chg⟩
 refine go ?_
 refine P1 results60 ?_
 have heb:=take_allI htkb (by omega) (by omega)
 exact ⟨_,rfl,congrArg Value.bool (by first|exact decide_eq_decide.2 (by rw [Img_eq];simp_all)|exact (decide_eq_false (by rw [Img_eq];simp_all)).symm|exact (decide_eq_true (by rw [Img_eq];simp_all)).symm),hp.chg⟩
set_option maxHeartbeats 40000000 in
theorem rChange_ok {gr:Nat} {l:List UInt8} {bad:Bool} {X:List Value→It} {pX:Addr} (hp:HP w0 M0 Fz w (itB gr 223 [.slice A l.length c, .bool bad]::X ([.int .i64 0, .int .i64 0, .int .i64 0, .slice none 0 0, .slice none 0 0, .slice none 0 0])::H)) (hS:Slot X pX 6) (hl:GS byteR Fz w A c l):Ret prog 81 #[.iface 221 (.pointer (some ⟨gr,0,none⟩)), .pointer (some pX)] w (RdP 223 gr w0 M0 Fz w H X changeR changeP bad l):=by
 refine ret_of_wk func81 rfl ntmps81 leB_ ?_
 refine so ?_
 refine Bx hp (h:=fun gs2 wc1 hpc1 hEc1=> ?_)
 replace hp:=hpc1
 obtain ⟨Fzc,hpc2,hsc2,hcap⟩:=(hp.as_ (H':=itB gs2 179 [.iface 221 (pt gr 0)]::_) rfl).frzBlk
 replace hp:=hpc2
 refine so ?_
 apply wdT 7 [.eq _,.eq _,.eq _,.eq _,.eq _,.eq _,.eq _]
 refine ⟨?_,?_,?_,?_,?_,?_,?_,trivial⟩<;>intro F wF hER hk
 exact Ld_ sc179 (hk.qi 2) (hcap.ext hER).head qz
 exact dm (hk.qi 1)
 exact Nc_ (hk.qe 1) qz
 have e6:=hk.qe 2
 refine Fe_ fld35_0 e6 ?_
 rw [add_zero']
 exact qz
 have e4:=hk.qe 0
 exact wl_makeFunc (first:= [.tmp 4]) (cap:= []) (by decide) (by simp only [evs,ev,e4];rfl) rfl qz
 exact wl_nilCheckM (t:=221) (by decide) mt250 (hk.qe 4) qz
 exact dm (hk.qe 0)
 intro F wD hED hini hdo
 refine wl_drop [(1,_),(2,_),(7,_),(10,_)] ⟨di hini 1,di hini 2,dr hdo 3,dr hdo 6,trivial⟩ ?_
 clear hini hdo
 replace hp:=hp.ext hED
 refine Ci rfl (nNum_ok (X:=(fun cs=>X (([])++(cs++([iv 0,iv 0,s0,s0,s0]))))) (pX:=pX) (v0:=0) hp (hS.sub ([]) ([iv 0,iv 0,s0,s0,s0]) rfl) hl.to (by unfold i64;omega)) ?_
 rintro _ w1 ⟨F1,A1,c1,l1,b1,cs1,x1,hp,hF1,hl1,hrd1,hst1⟩
 obtain ⟨hI1,rfl⟩:=hrd1
 refine so ?_
 refine wP 7 hp (h:=fun wD hp hED=> ?_)
 refine Ci rfl (nNum_ok (X:=(fun cs=>X (([iv x1])++(cs++([iv 0,s0,s0,s0]))))) (pX:=(pX.add 1)) (v0:=0) hp (hS.sub ([iv x1]) ([iv 0,s0,s0,s0]) rfl) hl1.to (by unfold i64;omega)) ?_
 rintro _ w2 ⟨F2,A2,c2,l2,b2,cs2,x2,hp,hF2,hl2,hrd2,hst2⟩
 obtain ⟨hI2,rfl⟩:=hrd2
 refine so ?_
 refine wP 7 hp (h:=fun wD hp hED=> ?_)
 refine Ci rfl (nNum_ok (X:=(fun cs=>X (([iv x1,iv x2])++(cs++([s0,s0,s0]))))) (pX:=(pX.add 2)) (v0:=0) hp (hS.sub ([iv x1,iv x2]) ([s0,s0,s0]) rfl) hl2.to (by unfold i64;omega)) ?_
 rintro _ w3 ⟨F3,A3,c3,l3,b3,cs3,x3,hp,hF3,hl3,hrd3,hst3⟩
 obtain ⟨hI3,rfl⟩:=hrd3
 refine so ?_
 refine wP 5 hp (h:=fun wD hp hED=> ?_)
 refine Ce (rListM_ok (X:=(fun cs=>X (([iv x1,iv x2,iv x3])++(cs++([s0,s0]))))) (pX:=(pX.add 3)) (p:=markP) (most:=5) (FV:= .func (.func 131) ([]:List Value).toArray [Value.pointer (some ⟨gs2,0,none⟩)].toArray) hp (hS.sub ([iv x1,iv x2,iv x3]) ([s0,s0]) rfl) hl3.to (fun w1 F1 H1 X pa A c l bad hF hp hS hl=>RetV.func (first:= []) (cap:= [pt gs2 0]) (vs:= [.pointer (some pa)]) cl131 (rMark_ok hp hS hl (hcap.to.frz hF))) (by decide)) ?_
 rintro _ w4 ⟨F4,A4,c4,l4,b4,cs4,x4,hp,hF4,hl4,hrd4,hst4⟩
 obtain ⟨B4,d4,rfl,hg4⟩:=hrd4
 refine so ?_
 apply wdT 6 [.eq _,.eq _,.eq _,.eq _,.eq _,SP.clo _ 179 159 [.iface 221 (pt gr 0)]]
 refine ⟨?_,?_,?_,?_,?_,?_,trivial⟩<;>intro F wF hER hk
 exact Ld_ sc179 (hk.qi 2) hcap.to.head qz
 exact dm (hk.qi 1)
 exact Nc_ (hk.qe 1) qz
 exact Fe_ fld35_4 (hk.qe 2) qz
 exact Ld_ sc179 (hk.qi 2) hcap.to.head qz
 have e38:=hk.qe 4
 have hcl:=nStand_ok (w:=wF) (t:=221) (v0:=pt gr 0)
 refine Cl_ cl133 (by simp only [evs,ev,e38];first|done|rfl) hcl ?_
 clear hcl
 rintro _ w7 ⟨g7,rfl,hg7,hb7,hE7⟩
 exact qz ⟨hE7,g7,rfl,Nat.le_trans hER.size hg7,hb7⟩
 intro F wD hED hini hdo
 have e1:=di hini 1
 have e2:=di hini 2
 have e34:=dr hdo 0
 have e37:=dr hdo 3
 obtain ⟨u39,e39,h39⟩:=hdo 5 39 (Nat.lt_of_lt_of_eq (by decide) rfl) rfl
 obtain ⟨g39,rfl,hge39,hb39⟩:=h39
 refine wl_drop [(1,_),(2,_),(34,_),(37,_),(39,_)] ⟨e1,e2,e34,e37,e39,trivial⟩ ?_
 clear e1 e2 e34 e37 e39 hini hdo
 obtain ⟨Fz5,hp5,hsub5,hnew5,hup5⟩:=hp.frz hED
 replace hp:=hp5
 have hBq39:Blk wD g39 179 [.iface 221 (pt gr 0)]:=hb39
 have hcq39:AtF Fz5 wD ⟨g39,0,none⟩ [.iface 221 (pt gr 0)]:=⟨hBq39.at0,hnew5 _ hge39 hBq39.lt,hBq39.lt⟩
 refine Ce (rListS_ok (X:=(fun cs=>X (([iv x1,iv x2,iv x3, .slice B4 x4.length d4])++(cs++([s0]))))) (pX:=(pX.add 4)) (p:=standP) (most:=8) (FV:= .func (.func 159) ([]:List Value).toArray [Value.pointer (some ⟨g39,0,none⟩)].toArray) hp (hS.sub ([iv x1,iv x2,iv x3, .slice B4 x4.length d4]) ([s0]) rfl) hl4.to (fun w1 F1 H1 X pa A c l bad hF hp hS hl=>RetV.func (first:= []) (cap:= [pt g39 0]) (vs:= [.pointer (some pa)]) cl159 (rStand_ok hp hS hl (hcq39.frz hF))) (by decide)) ?_
 rintro _ w6 ⟨F6,A6,c6,l6,b6,cs6,x6,hp,hF6,hl6,hrd6,hst6⟩
 obtain ⟨B6,d6,rfl,hg6⟩:=hrd6
 refine so ?_
 apply wdT 6 [.eq _,.eq _,.eq _,.eq _,.eq _,SP.clo _ 179 159 [.iface 221 (pt gr 0)]]
 refine ⟨?_,?_,?_,?_,?_,?_,trivial⟩<;>intro F wF hER hk
 exact Ld_ sc179 (hk.qi 2) hcap.to.head qz
 exact dm (hk.qi 1)
 exact Nc_ (hk.qe 1) qz
 exact Fe_ fld35_5 (hk.qe 2) qz
 exact Ld_ sc179 (hk.qi 2) hcap.to.head qz
 have e45:=hk.qe 4
 have hcl:=nStand_ok (w:=wF) (t:=221) (v0:=pt gr 0)
 refine Cl_ cl133 (by simp only [evs,ev,e45];first|done|rfl) hcl ?_
 clear hcl
 rintro _ w7 ⟨g7,rfl,hg7,hb7,hE7⟩
 exact qz ⟨hE7,g7,rfl,Nat.le_trans hER.size hg7,hb7⟩
 intro F wD hED hini hdo
 have e41:=dr hdo 0
 have e44:=dr hdo 3
 obtain ⟨u46,e46,h46⟩:=hdo 5 46 (Nat.lt_of_lt_of_eq (by decide) rfl) rfl
 obtain ⟨g46,rfl,hge46,hb46⟩:=h46
 refine wl_drop [(41,_),(44,_),(46,_)] ⟨e41,e44,e46,trivial⟩ ?_
 clear e41 e44 e46 hini hdo
 obtain ⟨Fz7,hp7,hsub7,hnew7,hup7⟩:=hp.frz hED
 replace hp:=hp7
 have hBq46:Blk wD g46 179 [.iface 221 (pt gr 0)]:=hb46
 have hcq46:AtF Fz7 wD ⟨g46,0,none⟩ [.iface 221 (pt gr 0)]:=⟨hBq46.at0,hnew7 _ hge46 hBq46.lt,hBq46.lt⟩
 refine Ce (rListS_ok (X:=(fun cs=>X (([iv x1,iv x2,iv x3, .slice B4 x4.length d4, .slice B6 x6.length d6])++(cs++([]))))) (pX:=(pX.add 5)) (p:=standP) (most:=32) (FV:= .func (.func 159) ([]:List Value).toArray [Value.pointer (some ⟨g46,0,none⟩)].toArray) hp (hS.sub ([iv x1,iv x2,iv x3, .slice B4 x4.length d4, .slice B6 x6.length d6]) ([]) rfl) hl6.to (fun w1 F1 H1 X pa A c l bad hF hp hS hl=>RetV.func (first:= []) (cap:= [pt g46 0]) (vs:= [.pointer (some pa)]) cl159 (rStand_ok hp hS hl (hcq46.frz hF))) (by decide)) ?_
 rintro _ w8 ⟨F8,A8,c8,l8,b8,cs8,x8,hp,hF8,hl8,hrd8,hst8⟩
 obtain ⟨B8,d8,rfl,hg8⟩:=hrd8
 refine so ?_
 refine wk_post0 (.inr rfl) results81 ?_
 exact ⟨_,rfl,_,A8,c8,l8,b8,_,({node:=x1,view:=x2,low:=x3,marks:=x4,p:=x6,q:=x8}:Chn),((hp.up 1 rfl).up 1 rfl),mv,hl8,⟨⟨hI1,hI2,hI3⟩,_,_,_,_,_,_,rfl,hg4.to,hg6.to,hg8⟩,StepP.bind hst1 (StepP.bind hst2 (StepP.bind hst3 (StepP.bind hst4 (StepP.bind hst6 (StepP.bind hst8 (StepP.pure _ _))))))⟩
end Go.Proofs.YtmbpneaibmldfaaGreat
namespace Go.Proofs.YtmbpneaibmldfaaGreat
open Go.RowKit Go.Eng _root_.Go.Proofs.Tryz Go.Eng _root_.Go.Proofs.Tryz
set_option maxRecDepth 100000
variable {w0 w:World} {M0 Fz:Nat→Prop} {H:List It} {A:Option Addr} {c:Nat}
theorem rpl_ext {w w':World} {cs:List Value} {x:Rpl} (h:ReadsU w cs x) (ch:Ext w w'):ReadsU w' cs x:=rplR.keep ch (fun _ _ _ x=>x) h
theorem inE {w : World} {cs : List Value} {r : Rpl} (h : ReadsU w cs r) (hz : r.img.batches.length * 56 ≤ 140737488355328) : Ret prog 23 #[.agg cs.toArray] w (fun v w' => ∃ cs, v = .agg (cs : List Value).toArray ∧ ReadsU w' cs r ∧ Ext w w') := (lIn_ok (HP.begin_ w) (rplR.mono (fun b hb _ => hb) h) hz).mono (by
 rintro v w' ⟨F,cs,rfl,hp,_,h⟩
 exact ⟨cs,rfl,rplR.mono (fun _ _ _=>trivial) h,hp.chg⟩)
theorem sz_small:sizeR small0≤1000000000000:=by decide
theorem rpl47 {S:Nat→Prop} {w:World}:rplR.rd S w rp0C rpl0:=rp0_rd S w
end Go.Proofs.YtmbpneaibmldfaaGreat
