/- What each of these functions computes, for every argument that its theorem names; a part of what the proof of ImageOnce stands on. -/
import Derived.Test.YtmbpneaibmldfaaGreatAac
import Derived.Test.YtmbpneaibmldfaaGreatAaf
import Derived.Test.YtmbpneaibmldfaaGreatAag
import Derived.Test.YtmbpneaibmldfaaGreatAai
import Derived.Test.YtmbpneaibmldfaaGreatAaj
import Derived.Test.YtmbpneaibmldfaaGreatAak
import Derived.Test.YtmbpneaibmldfaaGreatAal
import Derived.Test.YtmbpneaibmldfaaGreatAap
import Derived.Test.YtmbpneaibmldfaaGreatAaq
import Derived.Test.YtmbpneaibmldfaaGreatAas
import Derived.Test.YtmbpneaibmldfaaGreatAat
import Derived.Test.YtmbpneaibmldfaaGreatAav
import Derived.Test.YtmbpneaibmldfaaGreatAay
namespace Go.Proofs.YtmbpneaibmldfaaGreat
open Go.RowKit Go.Eng Go.Eng _root_.Go.Proofs.Tryz
set_option maxRecDepth 100000
variable {w0 w:World} {M0 Fz:Nat→Prop} {H:List It} {A:Option Addr} {c:Nat}
set_option maxHeartbeats 40000000 in
theorem rShow_ok {gr:Nat} {l:List UInt8} {bad:Bool} {gn:Nat} (hp:HP w0 M0 Fz w (itB gr 223 [.slice A l.length c, .bool bad]::itB gn 157 ([.int .i64 0, .int .i64 0, .int .i64 0, .int .i64 0, .int .i64 0, .int .i64 0]++(digC dig0++([.slice none 0 0, .int .i64 0, .slice none 0 0, .int .i64 0, .slice none 0 0, .int .i64 0, .int .i64 0, .int .i64 0, .int .i64 0, .int .i64 0, .slice none 0 0, .slice none 0 0, .slice none 0 0, .slice none 0 0, .slice none 0 0, .int .i64 0, .int .i64 0, .slice none 0 0, .slice none 0 0, .slice none 0 0])))::H)) (hl:GS byteR Fz w A c l):Ret prog 167 #[.iface 221 (.pointer (some ⟨gr,0,none⟩)), .pointer (some ⟨gn,0,none⟩)] w (RdP 223 gr w0 M0 Fz w H (fun cs=>itB gn 157 cs) noteR noteP bad l):=by
 refine ret_of_wk func167 rfl ntmps167 leB_ ?_
 refine so ?_
 refine Bx hp (h:=fun gs2 wc1 hpc1 hEc1=> ?_)
 replace hp:=hpc1
 obtain ⟨Fzc,hpc2,hsc2,hcap⟩:=(hp.as_ (H':=itB gs2 179 [.iface 221 (pt gr 0)]::_) rfl).frzBlk
 replace hp:=hpc2
 refine so ?_
 refine wdP 14 hp (fun wD hp hED=>by refine pm ?_;exact .op rfl (wl_builtS (ps:= [(0, .tmp 8),(1, .tmp 11),(2, .tmp 14),(3, .tmp 17)]) (by decide) bld238 rfl rfl (wl_nil qp)) pl) fun wD hp hED=> ?_
 refine so ?_
 refine wc_unroll 5 ?_
 refine wc_unfold (so ?_)
 refine aT (so ?_)
 refine wl_indexV (by decide) ar238 sc181 rfl rfl 0 rfl (by decide) rfl (so ?_)
 have hqq:=hp.az (itB gr 223 [.slice A l.length c, .bool bad]::itB gn 157 (([])++(([iv 0])++([iv 0,iv 0,iv 0,iv 0,iv 0]++(digC dig0++([s0,iv 0,s0,iv 0,s0,iv 0,iv 0,iv 0,iv 0,iv 0,s0,s0,s0,s0,s0,iv 0,iv 0,s0,s0,s0])))))::H)
 have hsq:=Slot.blk (g:=gn) (e:=157) (k:=1) ([]) ([iv 0,iv 0,iv 0,iv 0,iv 0]++(digC dig0++([s0,iv 0,s0,iv 0,s0,iv 0,iv 0,iv 0,iv 0,iv 0,s0,s0,s0,s0,s0,iv 0,iv 0,s0,s0,s0])))
 refine Ci rfl (nNum_ok (v0:=0) hqq hsq hl.to (by unfold i64;omega)) ?_
 rintro _ w1 ⟨F1,A1,c1,l1,b1,cs1,x1,hp,hF1,hl1,hrd1,hst1⟩
 obtain ⟨hI1,rfl⟩:=hrd1
 replace hp:=hp.nz
 refine sl ?_
 refine wc_region ?_
 refine sl ?_
 refine wc_unfold (so ?_)
 refine aT (so ?_)
 refine wl_indexV (by decide) ar238 sc181 rfl rfl 1 rfl (by decide) rfl (so ?_)
 have hqq:=hp.az (itB gr 223 ([.slice A1 l1.length c1, .bool b1])::itB gn 157 (([iv x1])++(([iv 0])++([iv 0,iv 0,iv 0,iv 0]++(digC dig0++([s0,iv 0,s0,iv 0,s0,iv 0,iv 0,iv 0,iv 0,iv 0,s0,s0,s0,s0,s0,iv 0,iv 0,s0,s0,s0])))))::H)
 have hsq:=Slot.blk (g:=gn) (e:=157) (k:=1) ([iv x1]) ([iv 0,iv 0,iv 0,iv 0]++(digC dig0++([s0,iv 0,s0,iv 0,s0,iv 0,iv 0,iv 0,iv 0,iv 0,s0,s0,s0,s0,s0,iv 0,iv 0,s0,s0,s0])))
 refine Ci rfl (nNum_ok (v0:=0) hqq hsq hl1 (by unfold i64;omega)) ?_
 rintro _ w2 ⟨F2,A2,c2,l2,b2,cs2,x2,hp,hF2,hl2,hrd2,hst2⟩
 obtain ⟨hI2,rfl⟩:=hrd2
 replace hp:=hp.nz
 refine sl ?_
 refine wc_region ?_
 refine sl ?_
 refine wc_unfold (so ?_)
 refine aT (so ?_)
 refine wl_indexV (by decide) ar238 sc181 rfl rfl 2 rfl (by decide) rfl (so ?_)
 have hqq:=hp.az (itB gr 223 ([.slice A2 l2.length c2, .bool b2])::itB gn 157 (([iv x1,iv x2])++(([iv 0])++([iv 0,iv 0,iv 0]++(digC dig0++([s0,iv 0,s0,iv 0,s0,iv 0,iv 0,iv 0,iv 0,iv 0,s0,s0,s0,s0,s0,iv 0,iv 0,s0,s0,s0])))))::H)
 have hsq:=Slot.blk (g:=gn) (e:=157) (k:=1) ([iv x1,iv x2]) ([iv 0,iv 0,iv 0]++(digC dig0++([s0,iv 0,s0,iv 0,s0,iv 0,iv 0,iv 0,iv 0,iv 0,s0,s0,s0,s0,s0,iv 0,iv 0,s0,s0,s0])))
 refine Ci rfl (nNum_ok (v0:=0) hqq hsq hl2 (by unfold i64;omega)) ?_
 rintro _ w3 ⟨F3,A3,c3,l3,b3,cs3,x3,hp,hF3,hl3,hrd3,hst3⟩
 obtain ⟨hI3,rfl⟩:=hrd3
 replace hp:=hp.nz
 refine sl ?_
 refine wc_region ?_
 refine sl ?_
 refine wc_unfold (so ?_)
 refine aT (so ?_)
 refine wl_indexV (by decide) ar238 sc181 rfl rfl 3 rfl (by decide) rfl (so ?_)
 have hqq:=hp.az (itB gr 223 ([.slice A3 l3.length c3, .bool b3])::itB gn 157 (([iv x1,iv x2,iv x3])++(([iv 0])++([iv 0,iv 0]++(digC dig0++([s0,iv 0,s0,iv 0,s0,iv 0,iv 0,iv 0,iv 0,iv 0,s0,s0,s0,s0,s0,iv 0,iv 0,s0,s0,s0])))))::H)
 have hsq:=Slot.blk (g:=gn) (e:=157) (k:=1) ([iv x1,iv x2,iv x3]) ([iv 0,iv 0]++(digC dig0++([s0,iv 0,s0,iv 0,s0,iv 0,iv 0,iv 0,iv 0,iv 0,s0,s0,s0,s0,s0,iv 0,iv 0,s0,s0,s0])))
 refine Ci rfl (nNum_ok (v0:=0) hqq hsq hl3 (by unfold i64;omega)) ?_
 rintro _ w4 ⟨F4,A4,c4,l4,b4,cs4,x4,hp,hF4,hl4,hrd4,hst4⟩
 obtain ⟨hI4,rfl⟩:=hrd4
 replace hp:=hp.nz
 refine sl ?_
 refine wc_region ?_
 refine sl ?_
 refine wc_unfold (so ?_)
 refine aF (so ?_)
 refine Cd ?_ ?_<;>intro hc1<;>refine so ?_
 refine Cd ?_ ?_<;>intro hc2<;>refine so ?_
 ·refine wP 7 hp (h := fun wD hp hED => ?_)
  have hqq:=hp.az (itB gr 223 ([.slice A4 l4.length c4, .bool b4])::itB gn 157 (([iv x1,iv x2,iv x3,iv x4,iv 0,iv 0]++(digC dig0))++(([s0])++([iv 0,s0,iv 0,s0,iv 0,iv 0,iv 0,iv 0,iv 0,s0,s0,s0,s0,s0,iv 0,iv 0,s0,s0,s0])))::H)
  have hsq:=Slot.blk (g:=gn) (e:=157) (k:=1) ([iv x1,iv x2,iv x3,iv x4,iv 0,iv 0]++(digC dig0)) ([iv 0,s0,iv 0,s0,iv 0,iv 0,iv 0,iv 0,iv 0,s0,s0,s0,s0,s0,iv 0,iv 0,s0,s0,s0])
  refine Ci rfl (nBatch_ok hqq hsq hl4.to) ?_
  rintro _ w5 ⟨F5,A5,c5,l5,b5,cs5,x5,hp,hF5,hl5,hrd5,hst5⟩
  obtain ⟨B5,d5,rfl,hg5⟩:=hrd5
  replace hp:=hp.nz
  refine so ?_
  refine wk_post0 (.inr rfl) results167 ?_
  have hbd:StepP noteP (rst bad l) (rst b5 l5) ({note0 with kind:=x1,from_:=x2,group:=x3,epoch:=x4,batch:=x5}:Nte):=by
    refine StepP.bind hst1 (StepP.bind hst2 (StepP.bind hst3 (StepP.bind hst4 ?_)))
    unfold bodyP
    repeat (first|rw [if_neg (by omega)]|rw [if_pos (by omega)])
    exact StepP.bind hst5 (StepP.pure _ _)
  exact ⟨_,rfl,_,A5,c5,l5,b5,_,({note0 with kind:=x1,from_:=x2,group:=x3,epoch:=x4,batch:=x5}:Nte),((hp.up 1 rfl).up 1 rfl),mv,hl5,⟨⟨hI1,hI2,hI3,hI4,i0,i0,i0,i0,i0,i0,i0,i0,i0,i0,i0⟩,_,_,_,_,_,_,_,_,_,_,_,_,_,_,_,_,_,_,_,_,_,_,rfl,hg5,gsn,gsn,gsn,gsn,gsn,gsn,gsn,gsn,gsn,gsn⟩,hbd⟩
 exact absurd hc1 hc2
 refine Cd ?_ ?_<;>intro hc3<;>refine so ?_
 refine Cd ?_ ?_<;>intro hc4<;>refine so ?_
 ·refine wP 7 hp (h := fun wD hp hED => ?_)
  have hqq:=hp.az (itB gr 223 ([.slice A4 l4.length c4, .bool b4])::itB gn 157 (([iv x1,iv x2,iv x3,iv x4,iv 0,iv 0]++(digC dig0))++(([s0])++([iv 0,s0,iv 0,s0,iv 0,iv 0,iv 0,iv 0,iv 0,s0,s0,s0,s0,s0,iv 0,iv 0,s0,s0,s0])))::H)
  have hsq:=Slot.blk (g:=gn) (e:=157) (k:=1) ([iv x1,iv x2,iv x3,iv x4,iv 0,iv 0]++(digC dig0)) ([iv 0,s0,iv 0,s0,iv 0,iv 0,iv 0,iv 0,iv 0,s0,s0,s0,s0,s0,iv 0,iv 0,s0,s0,s0])
  refine Ci rfl (nBatch_ok hqq hsq hl4.to) ?_
  rintro _ w6 ⟨F6,A6,c6,l6,b6,cs6,x6,hp,hF6,hl6,hrd6,hst6⟩
  obtain ⟨B6,d6,rfl,hg6⟩:=hrd6
  replace hp:=hp.nz
  refine so ?_
  refine wk_post0 (.inr rfl) results167 ?_
  have hbd:StepP noteP (rst bad l) (rst b6 l6) ({note0 with kind:=x1,from_:=x2,group:=x3,epoch:=x4,batch:=x6}:Nte):=by
    refine StepP.bind hst1 (StepP.bind hst2 (StepP.bind hst3 (StepP.bind hst4 ?_)))
    unfold bodyP
    repeat (first|rw [if_neg (by omega)]|rw [if_pos (by omega)])
    exact StepP.bind hst6 (StepP.pure _ _)
  exact ⟨_,rfl,_,A6,c6,l6,b6,_,({note0 with kind:=x1,from_:=x2,group:=x3,epoch:=x4,batch:=x6}:Nte),((hp.up 1 rfl).up 1 rfl),mv,hl6,⟨⟨hI1,hI2,hI3,hI4,i0,i0,i0,i0,i0,i0,i0,i0,i0,i0,i0⟩,_,_,_,_,_,_,_,_,_,_,_,_,_,_,_,_,_,_,_,_,_,_,rfl,hg6,gsn,gsn,gsn,gsn,gsn,gsn,gsn,gsn,gsn,gsn⟩,hbd⟩
 exact absurd hc3 hc4
 refine Cd ?_ ?_<;>intro hc5<;>refine so ?_
 ·refine wP 7 hp (h := fun wD hp hED => ?_)
  have hqq:=hp.az (itB gr 223 ([.slice A4 l4.length c4, .bool b4])::itB gn 157 (([iv x1,iv x2,iv x3,iv x4,iv 0,iv 0]++(digC dig0))++(([s0])++([iv 0,s0,iv 0,s0,iv 0,iv 0,iv 0,iv 0,iv 0,s0,s0,s0,s0,s0,iv 0,iv 0,s0,s0,s0])))::H)
  have hsq:=Slot.blk (g:=gn) (e:=157) (k:=1) ([iv x1,iv x2,iv x3,iv x4,iv 0,iv 0]++(digC dig0)) ([iv 0,s0,iv 0,s0,iv 0,iv 0,iv 0,iv 0,iv 0,s0,s0,s0,s0,s0,iv 0,iv 0,s0,s0,s0])
  refine Ci rfl (nBatch_ok hqq hsq hl4.to) ?_
  rintro _ w7 ⟨F7,A7,c7,l7,b7,cs7,x7,hp,hF7,hl7,hrd7,hst7⟩
  obtain ⟨B7,d7,rfl,hg7⟩:=hrd7
  replace hp:=hp.nz
  refine so ?_
  refine wk_post0 (.inr rfl) results167 ?_
  have hbd:StepP noteP (rst bad l) (rst b7 l7) ({note0 with kind:=x1,from_:=x2,group:=x3,epoch:=x4,batch:=x7}:Nte):=by
    refine StepP.bind hst1 (StepP.bind hst2 (StepP.bind hst3 (StepP.bind hst4 ?_)))
    unfold bodyP
    repeat (first|rw [if_neg (by omega)]|rw [if_pos (by omega)])
    exact StepP.bind hst7 (StepP.pure _ _)
  exact ⟨_,rfl,_,A7,c7,l7,b7,_,({note0 with kind:=x1,from_:=x2,group:=x3,epoch:=x4,batch:=x7}:Nte),((hp.up 1 rfl).up 1 rfl),mv,hl7,⟨⟨hI1,hI2,hI3,hI4,i0,i0,i0,i0,i0,i0,i0,i0,i0,i0,i0⟩,_,_,_,_,_,_,_,_,_,_,_,_,_,_,_,_,_,_,_,_,_,_,rfl,hg7,gsn,gsn,gsn,gsn,gsn,gsn,gsn,gsn,gsn,gsn⟩,hbd⟩
 refine Cd ?_ ?_<;>intro hc6<;>refine so ?_
 ·refine wP 7 hp (h := fun wD hp hED => ?_)
  have hqq:=hp.az (itB gr 223 ([.slice A4 l4.length c4, .bool b4])::itB gn 157 (([iv x1,iv x2,iv x3,iv x4,iv 0,iv 0]++(digC dig0++([s0,iv 0,s0,iv 0,s0,iv 0])))++(([iv 0])++([iv 0,iv 0,iv 0,s0,s0,s0,s0,s0,iv 0,iv 0,s0,s0,s0])))::H)
  have hsq:=Slot.blk (g:=gn) (e:=157) (k:=1) ([iv x1,iv x2,iv x3,iv x4,iv 0,iv 0]++(digC dig0++([s0,iv 0,s0,iv 0,s0,iv 0]))) ([iv 0,iv 0,iv 0,s0,s0,s0,s0,s0,iv 0,iv 0,s0,s0,s0])
  refine Ci rfl (nNum_ok (v0:=0) hqq hsq hl4.to (by unfold i64;omega)) ?_
  rintro _ w8 ⟨F8,A8,c8,l8,b8,cs8,x8,hp,hF8,hl8,hrd8,hst8⟩
  obtain ⟨hI8,rfl⟩:=hrd8
  replace hp:=hp.nz
  refine so ?_
  refine wP 7 hp (h:=fun wD hp hED=> ?_)
  have hqq:=hp.az (itB gr 223 ([.slice A8 l8.length c8, .bool b8])::itB gn 157 (([iv x1,iv x2,iv x3,iv x4,iv 0,iv 0]++(digC dig0++([s0,iv 0,s0,iv 0,s0])))++(([iv 0])++([iv x8,iv 0,iv 0,iv 0,s0,s0,s0,s0,s0,iv 0,iv 0,s0,s0,s0])))::H)
  have hsq:=Slot.blk (g:=gn) (e:=157) (k:=1) ([iv x1,iv x2,iv x3,iv x4,iv 0,iv 0]++(digC dig0++([s0,iv 0,s0,iv 0,s0]))) ([iv x8,iv 0,iv 0,iv 0,s0,s0,s0,s0,s0,iv 0,iv 0,s0,s0,s0])
  refine Ci rfl (nNum_ok (v0:=0) hqq hsq hl8.to (by unfold i64;omega)) ?_
  rintro _ w9 ⟨F9,A9,c9,l9,b9,cs9,x9,hp,hF9,hl9,hrd9,hst9⟩
  obtain ⟨hI9,rfl⟩:=hrd9
  replace hp:=hp.nz
  refine so ?_
  refine wP 4 hp (h:=fun wD hp hED=> ?_)
  have hqq:=hp.az (itB gr 223 ([.slice A9 l9.length c9, .bool b9])::itB gn 157 (([iv x1,iv x2,iv x3,iv x4,iv 0,iv 0]++(digC dig0++([s0])))++(([iv 0,s0,iv 0,s0])++([iv x9,iv x8,iv 0,iv 0,iv 0,s0,s0,s0,s0,s0,iv 0,iv 0,s0,s0,s0])))::H)
  have hsq:=Slot.blk (g:=gn) (e:=157) (k:=4) ([iv x1,iv x2,iv x3,iv x4,iv 0,iv 0]++(digC dig0++([s0]))) ([iv x9,iv x8,iv 0,iv 0,iv 0,s0,s0,s0,s0,s0,iv 0,iv 0,s0,s0,s0])
  refine Ce (rAnswer_ok hqq hsq hl9.to) ?_
  rintro _ w10 ⟨F10,A10,c10,l10,b10,cs10,x10,hp,hF10,hl10,hrd10,hst10⟩
  obtain ⟨hI10,A10_0,c10_0,A10_1,c10_1,rfl,hr10_0,hr10_1⟩:=hrd10
  replace hp:=hp.nz
  refine so ?_
  refine wk_post0 (.inr rfl) results167 ?_
  have hbd:StepP noteP (rst bad l) (rst b10 l10) ({note0 with kind:=x1,from_:=x2,group:=x3,epoch:=x4,ans.err:=x10.err,ans.data:=x10.data,ans.epoch:=x10.epoch,ans.nodes:=x10.nodes,stamp:=x9,node:=x8}:Nte):=by
    refine StepP.bind hst1 (StepP.bind hst2 (StepP.bind hst3 (StepP.bind hst4 ?_)))
    unfold bodyP
    repeat (first|rw [if_neg (by omega)]|rw [if_pos (by omega)])
    exact StepP.bind hst8 (StepP.bind hst9 (StepP.bind hst10 (StepP.pure _ _)))
  exact ⟨_,rfl,_,A10,c10,l10,b10,_,({note0 with kind:=x1,from_:=x2,group:=x3,epoch:=x4,ans.err:=x10.err,ans.data:=x10.data,ans.epoch:=x10.epoch,ans.nodes:=x10.nodes,stamp:=x9,node:=x8}:Nte),((hp.up 1 rfl).up 1 rfl),mv,hl10,⟨⟨hI1,hI2,hI3,hI4,i0,i0,hI10.1,hI10.2,hI9,hI8,i0,i0,i0,i0,i0⟩,_,_,_,_,_,_,_,_,_,_,_,_,_,_,_,_,_,_,_,_,_,_,rfl,gsn,hr10_0,hr10_1,gsn,gsn,gsn,gsn,gsn,gsn,gsn,gsn⟩,hbd⟩
 refine Cd ?_ ?_<;>intro hc7<;>refine so ?_
 ·refine wP 7 hp (h := fun wD hp hED => ?_)
  have hqq:=hp.az (itB gr 223 ([.slice A4 l4.length c4, .bool b4])::itB gn 157 (([iv x1,iv x2,iv x3,iv x4])++(([iv 0])++([iv 0]++(digC dig0++([s0,iv 0,s0,iv 0,s0,iv 0,iv 0,iv 0,iv 0,iv 0,s0,s0,s0,s0,s0,iv 0,iv 0,s0,s0,s0])))))::H)
  have hsq:=Slot.blk (g:=gn) (e:=157) (k:=1) ([iv x1,iv x2,iv x3,iv x4]) ([iv 0]++(digC dig0++([s0,iv 0,s0,iv 0,s0,iv 0,iv 0,iv 0,iv 0,iv 0,s0,s0,s0,s0,s0,iv 0,iv 0,s0,s0,s0])))
  refine Ci rfl (nNum_ok (v0:=0) hqq hsq hl4.to (by unfold i64;omega)) ?_
  rintro _ w11 ⟨F11,A11,c11,l11,b11,cs11,x11,hp,hF11,hl11,hrd11,hst11⟩
  obtain ⟨hI11,rfl⟩:=hrd11
  replace hp:=hp.nz
  refine so ?_
  refine wP 7 hp (h:=fun wD hp hED=> ?_)
  have hqq:=hp.az (itB gr 223 ([.slice A11 l11.length c11, .bool b11])::itB gn 157 (([iv x1,iv x2,iv x3,iv x4,iv x11])++(([iv 0])++(digC dig0++([s0,iv 0,s0,iv 0,s0,iv 0,iv 0,iv 0,iv 0,iv 0,s0,s0,s0,s0,s0,iv 0,iv 0,s0,s0,s0]))))::H)
  have hsq:=Slot.blk (g:=gn) (e:=157) (k:=1) ([iv x1,iv x2,iv x3,iv x4,iv x11]) (digC dig0++([s0,iv 0,s0,iv 0,s0,iv 0,iv 0,iv 0,iv 0,iv 0,s0,s0,s0,s0,s0,iv 0,iv 0,s0,s0,s0]))
  refine Ci rfl (nNum_ok (v0:=0) hqq hsq hl11.to (by unfold i64;omega)) ?_
  rintro _ w12 ⟨F12,A12,c12,l12,b12,cs12,x12,hp,hF12,hl12,hrd12,hst12⟩
  obtain ⟨hI12,rfl⟩:=hrd12
  replace hp:=hp.nz
  refine so ?_
  refine wP 7 hp (h:=fun wD hp hED=> ?_)
  have hqq:=hp.az (itB gr 223 ([.slice A12 l12.length c12, .bool b12])::itB gn 157 (([iv x1,iv x2,iv x3,iv x4,iv x11,iv x12]++(digC dig0))++(([s0])++([iv 0,s0,iv 0,s0,iv 0,iv 0,iv 0,iv 0,iv 0,s0,s0,s0,s0,s0,iv 0,iv 0,s0,s0,s0])))::H)
  have hsq:=Slot.blk (g:=gn) (e:=157) (k:=1) ([iv x1,iv x2,iv x3,iv x4,iv x11,iv x12]++(digC dig0)) ([iv 0,s0,iv 0,s0,iv 0,iv 0,iv 0,iv 0,iv 0,s0,s0,s0,s0,s0,iv 0,iv 0,s0,s0,s0])
  refine Ci rfl (nBatch_ok hqq hsq hl12.to) ?_
  rintro _ w13 ⟨F13,A13,c13,l13,b13,cs13,x13,hp,hF13,hl13,hrd13,hst13⟩
  obtain ⟨B13,d13,rfl,hg13⟩:=hrd13
  replace hp:=hp.nz
  refine so ?_
  refine wk_post0 (.inr rfl) results167 ?_
  have hbd:StepP noteP (rst bad l) (rst b13 l13) ({note0 with kind:=x1,from_:=x2,group:=x3,epoch:=x4,view:=x11,seq:=x12,batch:=x13}:Nte):=by
    refine StepP.bind hst1 (StepP.bind hst2 (StepP.bind hst3 (StepP.bind hst4 ?_)))
    unfold bodyP
    repeat (first|rw [if_neg (by omega)]|rw [if_pos (by omega)])
    exact StepP.bind hst11 (StepP.bind hst12 (StepP.bind hst13 (StepP.pure _ _)))
  exact ⟨_,rfl,_,A13,c13,l13,b13,_,({note0 with kind:=x1,from_:=x2,group:=x3,epoch:=x4,view:=x11,seq:=x12,batch:=x13}:Nte),((hp.up 1 rfl).up 1 rfl),mv,hl13,⟨⟨hI1,hI2,hI3,hI4,hI11,hI12,i0,i0,i0,i0,i0,i0,i0,i0,i0⟩,_,_,_,_,_,_,_,_,_,_,_,_,_,_,_,_,_,_,_,_,_,_,rfl,hg13,gsn,gsn,gsn,gsn,gsn,gsn,gsn,gsn,gsn,gsn⟩,hbd⟩
 refine Cd ?_ ?_<;>intro hc8<;>refine so ?_
 refine Cd ?_ ?_<;>intro hc9<;>refine so ?_
 ·refine wP 7 hp (h := fun wD hp hED => ?_)
  have hqq:=hp.az (itB gr 223 ([.slice A4 l4.length c4, .bool b4])::itB gn 157 (([iv x1,iv x2,iv x3,iv x4])++(([iv 0])++([iv 0]++(digC dig0++([s0,iv 0,s0,iv 0,s0,iv 0,iv 0,iv 0,iv 0,iv 0,s0,s0,s0,s0,s0,iv 0,iv 0,s0,s0,s0])))))::H)
  have hsq:=Slot.blk (g:=gn) (e:=157) (k:=1) ([iv x1,iv x2,iv x3,iv x4]) ([iv 0]++(digC dig0++([s0,iv 0,s0,iv 0,s0,iv 0,iv 0,iv 0,iv 0,iv 0,s0,s0,s0,s0,s0,iv 0,iv 0,s0,s0,s0])))
  refine Ci rfl (nNum_ok (v0:=0) hqq hsq hl4.to (by unfold i64;omega)) ?_
  rintro _ w14 ⟨F14,A14,c14,l14,b14,cs14,x14,hp,hF14,hl14,hrd14,hst14⟩
  obtain ⟨hI14,rfl⟩:=hrd14
  replace hp:=hp.nz
  refine so ?_
  refine wP 7 hp (h:=fun wD hp hED=> ?_)
  have hqq:=hp.az (itB gr 223 ([.slice A14 l14.length c14, .bool b14])::itB gn 157 (([iv x1,iv x2,iv x3,iv x4,iv x14])++(([iv 0])++(digC dig0++([s0,iv 0,s0,iv 0,s0,iv 0,iv 0,iv 0,iv 0,iv 0,s0,s0,s0,s0,s0,iv 0,iv 0,s0,s0,s0]))))::H)
  have hsq:=Slot.blk (g:=gn) (e:=157) (k:=1) ([iv x1,iv x2,iv x3,iv x4,iv x14]) (digC dig0++([s0,iv 0,s0,iv 0,s0,iv 0,iv 0,iv 0,iv 0,iv 0,s0,s0,s0,s0,s0,iv 0,iv 0,s0,s0,s0]))
  refine Ci rfl (nNum_ok (v0:=0) hqq hsq hl14.to (by unfold i64;omega)) ?_
  rintro _ w15 ⟨F15,A15,c15,l15,b15,cs15,x15,hp,hF15,hl15,hrd15,hst15⟩
  obtain ⟨hI15,rfl⟩:=hrd15
  replace hp:=hp.nz
  refine so ?_
  refine wP 7 hp (h:=fun wD hp hED=> ?_)
  have hqq:=hp.az (itB gr 223 ([.slice A15 l15.length c15, .bool b15])::itB gn 157 (([iv x1,iv x2,iv x3,iv x4,iv x14,iv x15])++((digC dig0)++([s0,iv 0,s0,iv 0,s0,iv 0,iv 0,iv 0,iv 0,iv 0,s0,s0,s0,s0,s0,iv 0,iv 0,s0,s0,s0])))::H)
  have hsq:=Slot.blk (g:=gn) (e:=157) (k:=32) ([iv x1,iv x2,iv x3,iv x4,iv x14,iv x15]) ([s0,iv 0,s0,iv 0,s0,iv 0,iv 0,iv 0,iv 0,iv 0,s0,s0,s0,s0,s0,iv 0,iv 0,s0,s0,s0])
  refine Ci rfl (nDigest_ok (d0:=dig0) hqq hsq hl15.to) ?_
  rintro _ w16 ⟨F16,A16,c16,l16,b16,cs16,x16,hp,hF16,hl16,hrd16,hst16⟩
  obtain rfl:=hrd16
  replace hp:=hp.nz
  refine so ?_
  refine wk_post0 (.inr rfl) results167 ?_
  have hbd:StepP noteP (rst bad l) (rst b16 l16) ({note0 with kind:=x1,from_:=x2,group:=x3,epoch:=x4,view:=x14,seq:=x15,dig:=x16}:Nte):=by
    refine StepP.bind hst1 (StepP.bind hst2 (StepP.bind hst3 (StepP.bind hst4 ?_)))
    unfold bodyP
    repeat (first|rw [if_neg (by omega)]|rw [if_pos (by omega)])
    exact StepP.bind hst14 (StepP.bind hst15 (StepP.bind hst16 (StepP.pure _ _)))
  exact ⟨_,rfl,_,A16,c16,l16,b16,_,({note0 with kind:=x1,from_:=x2,group:=x3,epoch:=x4,view:=x14,seq:=x15,dig:=x16}:Nte),((hp.up 1 rfl).up 1 rfl),mv,hl16,⟨⟨hI1,hI2,hI3,hI4,hI14,hI15,i0,i0,i0,i0,i0,i0,i0,i0,i0⟩,_,_,_,_,_,_,_,_,_,_,_,_,_,_,_,_,_,_,_,_,_,_,rfl,gsn,gsn,gsn,gsn,gsn,gsn,gsn,gsn,gsn,gsn,gsn⟩,hbd⟩
 exact absurd hc8 hc9
 refine Cd ?_ ?_<;>intro hc10<;>refine so ?_
 ·refine wP 7 hp (h := fun wD hp hED => ?_)
  have hqq:=hp.az (itB gr 223 ([.slice A4 l4.length c4, .bool b4])::itB gn 157 (([iv x1,iv x2,iv x3,iv x4])++(([iv 0])++([iv 0]++(digC dig0++([s0,iv 0,s0,iv 0,s0,iv 0,iv 0,iv 0,iv 0,iv 0,s0,s0,s0,s0,s0,iv 0,iv 0,s0,s0,s0])))))::H)
  have hsq:=Slot.blk (g:=gn) (e:=157) (k:=1) ([iv x1,iv x2,iv x3,iv x4]) ([iv 0]++(digC dig0++([s0,iv 0,s0,iv 0,s0,iv 0,iv 0,iv 0,iv 0,iv 0,s0,s0,s0,s0,s0,iv 0,iv 0,s0,s0,s0])))
  refine Ci rfl (nNum_ok (v0:=0) hqq hsq hl4.to (by unfold i64;omega)) ?_
  rintro _ w17 ⟨F17,A17,c17,l17,b17,cs17,x17,hp,hF17,hl17,hrd17,hst17⟩
  obtain ⟨hI17,rfl⟩:=hrd17
  replace hp:=hp.nz
  refine so ?_
  refine wP 7 hp (h:=fun wD hp hED=> ?_)
  have hqq:=hp.az (itB gr 223 ([.slice A17 l17.length c17, .bool b17])::itB gn 157 (([iv x1,iv x2,iv x3,iv x4,iv x17])++(([iv 0])++(digC dig0++([s0,iv 0,s0,iv 0,s0,iv 0,iv 0,iv 0,iv 0,iv 0,s0,s0,s0,s0,s0,iv 0,iv 0,s0,s0,s0]))))::H)
  have hsq:=Slot.blk (g:=gn) (e:=157) (k:=1) ([iv x1,iv x2,iv x3,iv x4,iv x17]) (digC dig0++([s0,iv 0,s0,iv 0,s0,iv 0,iv 0,iv 0,iv 0,iv 0,s0,s0,s0,s0,s0,iv 0,iv 0,s0,s0,s0]))
  refine Ci rfl (nNum_ok (v0:=0) hqq hsq hl17.to (by unfold i64;omega)) ?_
  rintro _ w18 ⟨F18,A18,c18,l18,b18,cs18,x18,hp,hF18,hl18,hrd18,hst18⟩
  obtain ⟨hI18,rfl⟩:=hrd18
  replace hp:=hp.nz
  refine so ?_
  refine wP 7 hp (h:=fun wD hp hED=> ?_)
  have hqq:=hp.az (itB gr 223 ([.slice A18 l18.length c18, .bool b18])::itB gn 157 (([iv x1,iv x2,iv x3,iv x4,iv x17,iv x18])++((digC dig0)++([s0,iv 0,s0,iv 0,s0,iv 0,iv 0,iv 0,iv 0,iv 0,s0,s0,s0,s0,s0,iv 0,iv 0,s0,s0,s0])))::H)
  have hsq:=Slot.blk (g:=gn) (e:=157) (k:=32) ([iv x1,iv x2,iv x3,iv x4,iv x17,iv x18]) ([s0,iv 0,s0,iv 0,s0,iv 0,iv 0,iv 0,iv 0,iv 0,s0,s0,s0,s0,s0,iv 0,iv 0,s0,s0,s0])
  refine Ci rfl (nDigest_ok (d0:=dig0) hqq hsq hl18.to) ?_
  rintro _ w19 ⟨F19,A19,c19,l19,b19,cs19,x19,hp,hF19,hl19,hrd19,hst19⟩
  obtain rfl:=hrd19
  replace hp:=hp.nz
  refine so ?_
  refine wk_post0 (.inr rfl) results167 ?_
  have hbd:StepP noteP (rst bad l) (rst b19 l19) ({note0 with kind:=x1,from_:=x2,group:=x3,epoch:=x4,view:=x17,seq:=x18,dig:=x19}:Nte):=by
    refine StepP.bind hst1 (StepP.bind hst2 (StepP.bind hst3 (StepP.bind hst4 ?_)))
    unfold bodyP
    repeat (first|rw [if_neg (by omega)]|rw [if_pos (by omega)])
    exact StepP.bind hst17 (StepP.bind hst18 (StepP.bind hst19 (StepP.pure _ _)))
  exact ⟨_,rfl,_,A19,c19,l19,b19,_,({note0 with kind:=x1,from_:=x2,group:=x3,epoch:=x4,view:=x17,seq:=x18,dig:=x19}:Nte),((hp.up 1 rfl).up 1 rfl),mv,hl19,⟨⟨hI1,hI2,hI3,hI4,hI17,hI18,i0,i0,i0,i0,i0,i0,i0,i0,i0⟩,_,_,_,_,_,_,_,_,_,_,_,_,_,_,_,_,_,_,_,_,_,_,rfl,gsn,gsn,gsn,gsn,gsn,gsn,gsn,gsn,gsn,gsn,gsn⟩,hbd⟩
 refine Cd ?_ ?_<;>intro hc11<;>refine so ?_
 refine Cd ?_ ?_<;>intro hc12<;>refine so ?_
 ·refine wP 7 hp (h := fun wD hp hED => ?_)
  have hqq:=hp.az (itB gr 223 ([.slice A4 l4.length c4, .bool b4])::itB gn 157 (([iv x1,iv x2,iv x3,iv x4,iv 0])++(([iv 0])++(digC dig0++([s0,iv 0,s0,iv 0,s0,iv 0,iv 0,iv 0,iv 0,iv 0,s0,s0,s0,s0,s0,iv 0,iv 0,s0,s0,s0]))))::H)
  have hsq:=Slot.blk (g:=gn) (e:=157) (k:=1) ([iv x1,iv x2,iv x3,iv x4,iv 0]) (digC dig0++([s0,iv 0,s0,iv 0,s0,iv 0,iv 0,iv 0,iv 0,iv 0,s0,s0,s0,s0,s0,iv 0,iv 0,s0,s0,s0]))
  refine Ci rfl (nNum_ok (v0:=0) hqq hsq hl4.to (by unfold i64;omega)) ?_
  rintro _ w20 ⟨F20,A20,c20,l20,b20,cs20,x20,hp,hF20,hl20,hrd20,hst20⟩
  obtain ⟨hI20,rfl⟩:=hrd20
  replace hp:=hp.nz
  refine so ?_
  refine wP 7 hp (h:=fun wD hp hED=> ?_)
  have hqq:=hp.az (itB gr 223 ([.slice A20 l20.length c20, .bool b20])::itB gn 157 (([iv x1,iv x2,iv x3,iv x4,iv 0,iv x20])++((digC dig0)++([s0,iv 0,s0,iv 0,s0,iv 0,iv 0,iv 0,iv 0,iv 0,s0,s0,s0,s0,s0,iv 0,iv 0,s0,s0,s0])))::H)
  have hsq:=Slot.blk (g:=gn) (e:=157) (k:=32) ([iv x1,iv x2,iv x3,iv x4,iv 0,iv x20]) ([s0,iv 0,s0,iv 0,s0,iv 0,iv 0,iv 0,iv 0,iv 0,s0,s0,s0,s0,s0,iv 0,iv 0,s0,s0,s0])
  refine Ci rfl (nDigest_ok (d0:=dig0) hqq hsq hl20.to) ?_
  rintro _ w21 ⟨F21,A21,c21,l21,b21,cs21,x21,hp,hF21,hl21,hrd21,hst21⟩
  obtain rfl:=hrd21
  replace hp:=hp.nz
  refine so ?_
  refine wk_post0 (.inr rfl) results167 ?_
  have hbd:StepP noteP (rst bad l) (rst b21 l21) ({note0 with kind:=x1,from_:=x2,group:=x3,epoch:=x4,seq:=x20,dig:=x21}:Nte):=by
    refine StepP.bind hst1 (StepP.bind hst2 (StepP.bind hst3 (StepP.bind hst4 ?_)))
    unfold bodyP
    repeat (first|rw [if_neg (by omega)]|rw [if_pos (by omega)])
    exact StepP.bind hst20 (StepP.bind hst21 (StepP.pure _ _))
  exact ⟨_,rfl,_,A21,c21,l21,b21,_,({note0 with kind:=x1,from_:=x2,group:=x3,epoch:=x4,seq:=x20,dig:=x21}:Nte),((hp.up 1 rfl).up 1 rfl),mv,hl21,⟨⟨hI1,hI2,hI3,hI4,i0,hI20,i0,i0,i0,i0,i0,i0,i0,i0,i0⟩,_,_,_,_,_,_,_,_,_,_,_,_,_,_,_,_,_,_,_,_,_,_,rfl,gsn,gsn,gsn,gsn,gsn,gsn,gsn,gsn,gsn,gsn,gsn⟩,hbd⟩
 exact absurd hc11 hc12
 refine Cd ?_ ?_<;>intro hc13<;>refine so ?_
 ·refine wP 7 hp (h := fun wD hp hED => ?_)
  have hqq:=hp.az (itB gr 223 ([.slice A4 l4.length c4, .bool b4])::itB gn 157 (([iv x1,iv x2,iv x3,iv x4,iv 0])++(([iv 0])++(digC dig0++([s0,iv 0,s0,iv 0,s0,iv 0,iv 0,iv 0,iv 0,iv 0,s0,s0,s0,s0,s0,iv 0,iv 0,s0,s0,s0]))))::H)
  have hsq:=Slot.blk (g:=gn) (e:=157) (k:=1) ([iv x1,iv x2,iv x3,iv x4,iv 0]) (digC dig0++([s0,iv 0,s0,iv 0,s0,iv 0,iv 0,iv 0,iv 0,iv 0,s0,s0,s0,s0,s0,iv 0,iv 0,s0,s0,s0]))
  refine Ci rfl (nNum_ok (v0:=0) hqq hsq hl4.to (by unfold i64;omega)) ?_
  rintro _ w22 ⟨F22,A22,c22,l22,b22,cs22,x22,hp,hF22,hl22,hrd22,hst22⟩
  obtain ⟨hI22,rfl⟩:=hrd22
  replace hp:=hp.nz
  refine so ?_
  refine wP 7 hp (h:=fun wD hp hED=> ?_)
  have hqq:=hp.az (itB gr 223 ([.slice A22 l22.length c22, .bool b22])::itB gn 157 (([iv x1,iv x2,iv x3,iv x4,iv 0,iv x22])++((digC dig0)++([s0,iv 0,s0,iv 0,s0,iv 0,iv 0,iv 0,iv 0,iv 0,s0,s0,s0,s0,s0,iv 0,iv 0,s0,s0,s0])))::H)
  have hsq:=Slot.blk (g:=gn) (e:=157) (k:=32) ([iv x1,iv x2,iv x3,iv x4,iv 0,iv x22]) ([s0,iv 0,s0,iv 0,s0,iv 0,iv 0,iv 0,iv 0,iv 0,s0,s0,s0,s0,s0,iv 0,iv 0,s0,s0,s0])
  refine Ci rfl (nDigest_ok (d0:=dig0) hqq hsq hl22.to) ?_
  rintro _ w23 ⟨F23,A23,c23,l23,b23,cs23,x23,hp,hF23,hl23,hrd23,hst23⟩
  obtain rfl:=hrd23
  replace hp:=hp.nz
  refine so ?_
  refine wk_post0 (.inr rfl) results167 ?_
  have hbd:StepP noteP (rst bad l) (rst b23 l23) ({note0 with kind:=x1,from_:=x2,group:=x3,epoch:=x4,seq:=x22,dig:=x23}:Nte):=by
    refine StepP.bind hst1 (StepP.bind hst2 (StepP.bind hst3 (StepP.bind hst4 ?_)))
    unfold bodyP
    repeat (first|rw [if_neg (by omega)]|rw [if_pos (by omega)])
    exact StepP.bind hst22 (StepP.bind hst23 (StepP.pure _ _))
  exact ⟨_,rfl,_,A23,c23,l23,b23,_,({note0 with kind:=x1,from_:=x2,group:=x3,epoch:=x4,seq:=x22,dig:=x23}:Nte),((hp.up 1 rfl).up 1 rfl),mv,hl23,⟨⟨hI1,hI2,hI3,hI4,i0,hI22,i0,i0,i0,i0,i0,i0,i0,i0,i0⟩,_,_,_,_,_,_,_,_,_,_,_,_,_,_,_,_,_,_,_,_,_,_,rfl,gsn,gsn,gsn,gsn,gsn,gsn,gsn,gsn,gsn,gsn,gsn⟩,hbd⟩
 refine Cd ?_ ?_<;>intro hc14<;>refine so ?_
 ·refine wP 4 hp (h := fun wD hp hED => ?_)
  have hqq:=hp.az (itB gr 223 ([.slice A4 l4.length c4, .bool b4])::itB gn 157 (([iv x1,iv x2,iv x3,iv x4,iv 0,iv 0]++(digC dig0++([s0,iv 0,s0,iv 0,s0,iv 0,iv 0])))++(([iv 0,iv 0,iv 0,s0,s0,s0])++([s0,s0,iv 0,iv 0,s0,s0,s0])))::H)
  have hsq:=Slot.blk (g:=gn) (e:=157) (k:=6) ([iv x1,iv x2,iv x3,iv x4,iv 0,iv 0]++(digC dig0++([s0,iv 0,s0,iv 0,s0,iv 0,iv 0]))) ([s0,s0,iv 0,iv 0,s0,s0,s0])
  refine Ce (rChange_ok hqq hsq hl4.to) ?_
  rintro _ w24 ⟨F24,A24,c24,l24,b24,cs24,x24,hp,hF24,hl24,hrd24,hst24⟩
  obtain ⟨hI24,A24_0,c24_0,A24_1,c24_1,A24_2,c24_2,rfl,hr24_0,hr24_1,hr24_2⟩:=hrd24
  replace hp:=hp.nz
  refine so ?_
  refine wk_post0 (.inr rfl) results167 ?_
  have hbd:StepP noteP (rst bad l) (rst b24 l24) ({note0 with kind:=x1,from_:=x2,group:=x3,epoch:=x4,change.node:=x24.node,change.view:=x24.view,change.low:=x24.low,change.marks:=x24.marks,change.p:=x24.p,change.q:=x24.q}:Nte):=by
    refine StepP.bind hst1 (StepP.bind hst2 (StepP.bind hst3 (StepP.bind hst4 ?_)))
    unfold bodyP
    repeat (first|rw [if_neg (by omega)]|rw [if_pos (by omega)])
    exact StepP.bind hst24 (StepP.pure _ _)
  exact ⟨_,rfl,_,A24,c24,l24,b24,_,({note0 with kind:=x1,from_:=x2,group:=x3,epoch:=x4,change.node:=x24.node,change.view:=x24.view,change.low:=x24.low,change.marks:=x24.marks,change.p:=x24.p,change.q:=x24.q}:Nte),((hp.up 1 rfl).up 1 rfl),mv,hl24,⟨⟨hI1,hI2,hI3,hI4,i0,i0,i0,i0,i0,i0,hI24.1,hI24.2.1,hI24.2.2,i0,i0⟩,_,_,_,_,_,_,_,_,_,_,_,_,_,_,_,_,_,_,_,_,_,_,rfl,gsn,gsn,gsn,hr24_0,hr24_1,hr24_2,gsn,gsn,gsn,gsn,gsn⟩,hbd⟩
 refine Cd ?_ ?_<;>intro hc15<;>refine so ?_
 ·refine wP 7 hp (h := fun wD hp hED => ?_)
  have hqq:=hp.az (itB gr 223 ([.slice A4 l4.length c4, .bool b4])::itB gn 157 (([iv x1,iv x2,iv x3,iv x4])++(([iv 0])++([iv 0]++(digC dig0++([s0,iv 0,s0,iv 0,s0,iv 0,iv 0,iv 0,iv 0,iv 0,s0,s0,s0,s0,s0,iv 0,iv 0,s0,s0,s0])))))::H)
  have hsq:=Slot.blk (g:=gn) (e:=157) (k:=1) ([iv x1,iv x2,iv x3,iv x4]) ([iv 0]++(digC dig0++([s0,iv 0,s0,iv 0,s0,iv 0,iv 0,iv 0,iv 0,iv 0,s0,s0,s0,s0,s0,iv 0,iv 0,s0,s0,s0])))
  refine Ci rfl (nNum_ok (v0:=0) hqq hsq hl4.to (by unfold i64;omega)) ?_
  rintro _ w25 ⟨F25,A25,c25,l25,b25,cs25,x25,hp,hF25,hl25,hrd25,hst25⟩
  obtain ⟨hI25,rfl⟩:=hrd25
  replace hp:=hp.nz
  refine so ?_
  refine wP 7 hp (h:=fun wD hp hED=> ?_)
  have hqq:=hp.az (itB gr 223 ([.slice A25 l25.length c25, .bool b25])::itB gn 157 (([iv x1,iv x2,iv x3,iv x4,iv x25,iv 0]++(digC dig0++([s0,iv 0,s0,iv 0,s0,iv 0])))++(([iv 0])++([iv 0,iv 0,iv 0,s0,s0,s0,s0,s0,iv 0,iv 0,s0,s0,s0])))::H)
  have hsq:=Slot.blk (g:=gn) (e:=157) (k:=1) ([iv x1,iv x2,iv x3,iv x4,iv x25,iv 0]++(digC dig0++([s0,iv 0,s0,iv 0,s0,iv 0]))) ([iv 0,iv 0,iv 0,s0,s0,s0,s0,s0,iv 0,iv 0,s0,s0,s0])
  refine Ci rfl (nNum_ok (v0:=0) hqq hsq hl25.to (by unfold i64;omega)) ?_
  rintro _ w26 ⟨F26,A26,c26,l26,b26,cs26,x26,hp,hF26,hl26,hrd26,hst26⟩
  obtain ⟨hI26,rfl⟩:=hrd26
  replace hp:=hp.nz
  refine so ?_
  refine wP 7 hp (h:=fun wD hp hED=> ?_)
  have hqq:=hp.az (itB gr 223 ([.slice A26 l26.length c26, .bool b26])::itB gn 157 (([iv x1,iv x2,iv x3,iv x4,iv x25,iv 0])++((digC dig0)++([s0,iv 0,s0,iv 0,s0,iv 0,iv x26,iv 0,iv 0,iv 0,s0,s0,s0,s0,s0,iv 0,iv 0,s0,s0,s0])))::H)
  have hsq:=Slot.blk (g:=gn) (e:=157) (k:=32) ([iv x1,iv x2,iv x3,iv x4,iv x25,iv 0]) ([s0,iv 0,s0,iv 0,s0,iv 0,iv x26,iv 0,iv 0,iv 0,s0,s0,s0,s0,s0,iv 0,iv 0,s0,s0,s0])
  refine Ci rfl (nDigest_ok (d0:=dig0) hqq hsq hl26.to) ?_
  rintro _ w27 ⟨F27,A27,c27,l27,b27,cs27,x27,hp,hF27,hl27,hrd27,hst27⟩
  obtain rfl:=hrd27
  replace hp:=hp.nz
  refine so ?_
  refine wk_post0 (.inr rfl) results167 ?_
  have hbd:StepP noteP (rst bad l) (rst b27 l27) ({note0 with kind:=x1,from_:=x2,group:=x3,epoch:=x4,view:=x25,dig:=x27,node:=x26}:Nte):=by
    refine StepP.bind hst1 (StepP.bind hst2 (StepP.bind hst3 (StepP.bind hst4 ?_)))
    unfold bodyP
    repeat (first|rw [if_neg (by omega)]|rw [if_pos (by omega)])
    exact StepP.bind hst25 (StepP.bind hst26 (StepP.bind hst27 (StepP.pure _ _)))
  exact ⟨_,rfl,_,A27,c27,l27,b27,_,({note0 with kind:=x1,from_:=x2,group:=x3,epoch:=x4,view:=x25,dig:=x27,node:=x26}:Nte),((hp.up 1 rfl).up 1 rfl),mv,hl27,⟨⟨hI1,hI2,hI3,hI4,hI25,i0,i0,i0,i0,hI26,i0,i0,i0,i0,i0⟩,_,_,_,_,_,_,_,_,_,_,_,_,_,_,_,_,_,_,_,_,_,_,rfl,gsn,gsn,gsn,gsn,gsn,gsn,gsn,gsn,gsn,gsn,gsn⟩,hbd⟩
 refine Cd ?_ ?_<;>intro hc16<;>refine so ?_
 ·refine wP 7 hp (h := fun wD hp hED => ?_)
  have hqq:=hp.az (itB gr 223 ([.slice A4 l4.length c4, .bool b4])::itB gn 157 (([iv x1,iv x2,iv x3,iv x4])++(([iv 0])++([iv 0]++(digC dig0++([s0,iv 0,s0,iv 0,s0,iv 0,iv 0,iv 0,iv 0,iv 0,s0,s0,s0,s0,s0,iv 0,iv 0,s0,s0,s0])))))::H)
  have hsq:=Slot.blk (g:=gn) (e:=157) (k:=1) ([iv x1,iv x2,iv x3,iv x4]) ([iv 0]++(digC dig0++([s0,iv 0,s0,iv 0,s0,iv 0,iv 0,iv 0,iv 0,iv 0,s0,s0,s0,s0,s0,iv 0,iv 0,s0,s0,s0])))
  refine Ci rfl (nNum_ok (v0:=0) hqq hsq hl4.to (by unfold i64;omega)) ?_
  rintro _ w28 ⟨F28,A28,c28,l28,b28,cs28,x28,hp,hF28,hl28,hrd28,hst28⟩
  obtain ⟨hI28,rfl⟩:=hrd28
  replace hp:=hp.nz
  refine so ?_
  refine wP 5 hp (h:=fun wD hp hED=> ?_)
  have hqq:=hp.az (itB gr 223 ([.slice A28 l28.length c28, .bool b28])::itB gn 157 (([iv x1,iv x2,iv x3,iv x4,iv x28,iv 0]++(digC dig0++([s0,iv 0,s0,iv 0,s0,iv 0,iv 0,iv 0,iv 0,iv 0,s0,s0,s0])))++(([s0])++([s0,iv 0,iv 0,s0,s0,s0])))::H)
  have hsq:=Slot.blk (g:=gn) (e:=157) (k:=1) ([iv x1,iv x2,iv x3,iv x4,iv x28,iv 0]++(digC dig0++([s0,iv 0,s0,iv 0,s0,iv 0,iv 0,iv 0,iv 0,iv 0,s0,s0,s0]))) ([s0,iv 0,iv 0,s0,s0,s0])
  refine Ce (rListC_ok (p:=changeP) (most:=7) (FV:= .func (.func 191) ([]:List Value).toArray [Value.pointer (some ⟨gs2,0,none⟩)].toArray) hqq hsq hl28.to (fun w1 F1 H1 X pa A c l bad hF hp hS hl=>RetV.func (first:= []) (cap:= [pt gs2 0]) (vs:= [.pointer (some pa)]) cl191 (rShow1_ok hp hS hl (hcap.to.frz hF))) (by decide)) ?_
  rintro _ w29 ⟨F29,A29,c29,l29,b29,cs29,x29,hp,hF29,hl29,hrd29,hst29⟩
  obtain ⟨B29,d29,rfl,hg29⟩:=hrd29
  replace hp:=hp.nz
  refine so ?_
  refine wP 5 hp (h:=fun wD hp hED=> ?_)
  have hqq:=hp.az (itB gr 223 ([.slice A29 l29.length c29, .bool b29])::itB gn 157 (([iv x1,iv x2,iv x3,iv x4,iv x28,iv 0]++(digC dig0++([s0,iv 0,s0,iv 0,s0,iv 0,iv 0,iv 0,iv 0,iv 0,s0,s0,s0, .slice B29 x29.length d29])))++(([s0])++([iv 0,iv 0,s0,s0,s0])))::H)
  have hsq:=Slot.blk (g:=gn) (e:=157) (k:=1) ([iv x1,iv x2,iv x3,iv x4,iv x28,iv 0]++(digC dig0++([s0,iv 0,s0,iv 0,s0,iv 0,iv 0,iv 0,iv 0,iv 0,s0,s0,s0, .slice B29 x29.length d29]))) ([iv 0,iv 0,s0,s0,s0])
  refine Ce (rListP_ok (p:=pickP) (most:=8) (FV:= .func (.func 193) ([]:List Value).toArray [Value.pointer (some ⟨gs2,0,none⟩)].toArray) hqq hsq hl29.to (fun w1 F1 H1 X pa A c l bad hF hp hS hl=>RetV.func (first:= []) (cap:= [pt gs2 0]) (vs:= [.pointer (some pa)]) cl193 (rPick_ok hp hS hl (hcap.to.frz hF))) (by decide)) ?_
  rintro _ w30 ⟨F30,A30,c30,l30,b30,cs30,x30,hp,hF30,hl30,hrd30,hst30⟩
  obtain ⟨B30,d30,rfl,hg30⟩:=hrd30
  replace hp:=hp.nz
  refine so ?_
  refine wk_post0 (.inr rfl) results167 ?_
  have hbd:StepP noteP (rst bad l) (rst b30 l30) ({note0 with kind:=x1,from_:=x2,group:=x3,epoch:=x4,view:=x28,changes:=x29,picks:=x30}:Nte):=by
    refine StepP.bind hst1 (StepP.bind hst2 (StepP.bind hst3 (StepP.bind hst4 ?_)))
    unfold bodyP
    repeat (first|rw [if_neg (by omega)]|rw [if_pos (by omega)])
    exact StepP.bind hst28 (StepP.bind hst29 (StepP.bind hst30 (StepP.pure _ _)))
  exact ⟨_,rfl,_,A30,c30,l30,b30,_,({note0 with kind:=x1,from_:=x2,group:=x3,epoch:=x4,view:=x28,changes:=x29,picks:=x30}:Nte),((hp.up 1 rfl).up 1 rfl),mv,hl30,⟨⟨hI1,hI2,hI3,hI4,hI28,i0,i0,i0,i0,i0,i0,i0,i0,i0,i0⟩,_,_,_,_,_,_,_,_,_,_,_,_,_,_,_,_,_,_,_,_,_,_,rfl,gsn,gsn,gsn,gsn,gsn,gsn,hg29.to,hg30,gsn,gsn,gsn⟩,hbd⟩
 refine Cd ?_ ?_<;>intro hc17<;>refine so ?_
 refine Cd ?_ ?_<;>intro hc18<;>refine so ?_
 refine wP 7 hp (h:=fun wD hp hED=> ?_)
 have hqq:=hp.az (itB gr 223 ([.slice A4 l4.length c4, .bool b4])::itB gn 157 (([iv x1,iv x2,iv x3,iv x4,iv 0])++(([iv 0])++(digC dig0++([s0,iv 0,s0,iv 0,s0,iv 0,iv 0,iv 0,iv 0,iv 0,s0,s0,s0,s0,s0,iv 0,iv 0,s0,s0,s0]))))::H)
 have hsq:=Slot.blk (g:=gn) (e:=157) (k:=1) ([iv x1,iv x2,iv x3,iv x4,iv 0]) (digC dig0++([s0,iv 0,s0,iv 0,s0,iv 0,iv 0,iv 0,iv 0,iv 0,s0,s0,s0,s0,s0,iv 0,iv 0,s0,s0,s0]))
 refine Ci rfl (nNum_ok (v0:=0) hqq hsq hl4.to (by unfold i64;omega)) ?_
 rintro _ w31 ⟨F31,A31,c31,l31,b31,cs31,x31,hp,hF31,hl31,hrd31,hst31⟩
 obtain ⟨hI31,rfl⟩:=hrd31
 replace hp:=hp.nz
 refine so ?_
 refine wP 7 hp (h:=fun wD hp hED=> ?_)
 have hqq:=hp.az (itB gr 223 ([.slice A31 l31.length c31, .bool b31])::itB gn 157 (([iv x1,iv x2,iv x3,iv x4,iv 0,iv x31])++((digC dig0)++([s0,iv 0,s0,iv 0,s0,iv 0,iv 0,iv 0,iv 0,iv 0,s0,s0,s0,s0,s0,iv 0,iv 0,s0,s0,s0])))::H)
 have hsq:=Slot.blk (g:=gn) (e:=157) (k:=32) ([iv x1,iv x2,iv x3,iv x4,iv 0,iv x31]) ([s0,iv 0,s0,iv 0,s0,iv 0,iv 0,iv 0,iv 0,iv 0,s0,s0,s0,s0,s0,iv 0,iv 0,s0,s0,s0])
 refine Ci rfl (nDigest_ok (d0:=dig0) hqq hsq hl31.to) ?_
 rintro _ w32 ⟨F32,A32,c32,l32,b32,cs32,x32,hp,hF32,hl32,hrd32,hst32⟩
 obtain rfl:=hrd32
 replace hp:=hp.nz
 refine so ?_
 refine wP 7 hp (h:=fun wD hp hED=> ?_)
 have hqq:=hp.az (itB gr 223 ([.slice A32 l32.length c32, .bool b32])::itB gn 157 (([iv x1,iv x2,iv x3,iv x4,iv 0,iv x31]++(digC x32++([s0,iv 0,s0,iv 0,s0,iv 0,iv 0,iv 0,iv 0,iv 0,s0,s0,s0,s0,s0])))++(([iv 0])++([iv 0,s0,s0,s0])))::H)
 have hsq:=Slot.blk (g:=gn) (e:=157) (k:=1) ([iv x1,iv x2,iv x3,iv x4,iv 0,iv x31]++(digC x32++([s0,iv 0,s0,iv 0,s0,iv 0,iv 0,iv 0,iv 0,iv 0,s0,s0,s0,s0,s0]))) ([iv 0,s0,s0,s0])
 refine Ci rfl (nNum_ok (v0:=0) hqq hsq hl32.to (by unfold i64;omega)) ?_
 rintro _ w33 ⟨F33,A33,c33,l33,b33,cs33,x33,hp,hF33,hl33,hrd33,hst33⟩
 obtain ⟨hI33,rfl⟩:=hrd33
 replace hp:=hp.nz
 refine so ?_
 refine wP 7 hp (h:=fun wD hp hED=> ?_)
 have hqq:=hp.az (itB gr 223 ([.slice A33 l33.length c33, .bool b33])::itB gn 157 (([iv x1,iv x2,iv x3,iv x4,iv 0,iv x31]++(digC x32++([s0,iv 0,s0,iv 0,s0,iv 0,iv 0,iv 0,iv 0,iv 0,s0,s0,s0,s0,s0,iv x33])))++(([iv 0])++([s0,s0,s0])))::H)
 have hsq:=Slot.blk (g:=gn) (e:=157) (k:=1) ([iv x1,iv x2,iv x3,iv x4,iv 0,iv x31]++(digC x32++([s0,iv 0,s0,iv 0,s0,iv 0,iv 0,iv 0,iv 0,iv 0,s0,s0,s0,s0,s0,iv x33]))) ([s0,s0,s0])
 refine Ci rfl (nNum_ok (v0:=0) hqq hsq hl33.to (by unfold i64;omega)) ?_
 rintro _ w34 ⟨F34,A34,c34,l34,b34,cs34,x34,hp,hF34,hl34,hrd34,hst34⟩
 obtain ⟨hI34,rfl⟩:=hrd34
 replace hp:=hp.nz
 refine so ?_
 refine Cd ?_ ?_<;>intro hc19<;>refine so ?_
 exact absurd hc19 (by omega)
 refine wk_post0 (.inr rfl) results167 ?_
 have hbd:StepP noteP (rst bad l) (rst b34 l34) ({note0 with kind:=x1,from_:=x2,group:=x3,epoch:=x4,seq:=x31,dig:=x32,level:=x33,place:=x34}:Nte):=by
   refine StepP.bind hst1 (StepP.bind hst2 (StepP.bind hst3 (StepP.bind hst4 ?_)))
   unfold bodyP
   repeat (first|rw [if_neg (by omega)]|rw [if_pos (by omega)])
   exact StepP.bind hst31 (StepP.bind hst32 (StepP.bind hst33 (StepP.bind hst34 (StepP.pure _ _))))
 exact ⟨_,rfl,_,A34,c34,l34,b34,_,({note0 with kind:=x1,from_:=x2,group:=x3,epoch:=x4,seq:=x31,dig:=x32,level:=x33,place:=x34}:Nte),((hp.up 1 rfl).up 1 rfl),mv,hl34,⟨⟨hI1,hI2,hI3,hI4,i0,hI31,i0,i0,i0,i0,i0,i0,i0,hI33,hI34⟩,_,_,_,_,_,_,_,_,_,_,_,_,_,_,_,_,_,_,_,_,_,_,rfl,gsn,gsn,gsn,gsn,gsn,gsn,gsn,gsn,gsn,gsn,gsn⟩,hbd⟩
 exact absurd hc17 hc18
 refine Cd ?_ ?_<;>intro hc20<;>refine so ?_
 refine wP 7 hp (h:=fun wD hp hED=> ?_)
 have hqq:=hp.az (itB gr 223 ([.slice A4 l4.length c4, .bool b4])::itB gn 157 (([iv x1,iv x2,iv x3,iv x4,iv 0])++(([iv 0])++(digC dig0++([s0,iv 0,s0,iv 0,s0,iv 0,iv 0,iv 0,iv 0,iv 0,s0,s0,s0,s0,s0,iv 0,iv 0,s0,s0,s0]))))::H)
 have hsq:=Slot.blk (g:=gn) (e:=157) (k:=1) ([iv x1,iv x2,iv x3,iv x4,iv 0]) (digC dig0++([s0,iv 0,s0,iv 0,s0,iv 0,iv 0,iv 0,iv 0,iv 0,s0,s0,s0,s0,s0,iv 0,iv 0,s0,s0,s0]))
 refine Ci rfl (nNum_ok (v0:=0) hqq hsq hl4.to (by unfold i64;omega)) ?_
 rintro _ w35 ⟨F35,A35,c35,l35,b35,cs35,x35,hp,hF35,hl35,hrd35,hst35⟩
 obtain ⟨hI35,rfl⟩:=hrd35
 replace hp:=hp.nz
 refine so ?_
 refine wP 7 hp (h:=fun wD hp hED=> ?_)
 have hqq:=hp.az (itB gr 223 ([.slice A35 l35.length c35, .bool b35])::itB gn 157 (([iv x1,iv x2,iv x3,iv x4,iv 0,iv x35])++((digC dig0)++([s0,iv 0,s0,iv 0,s0,iv 0,iv 0,iv 0,iv 0,iv 0,s0,s0,s0,s0,s0,iv 0,iv 0,s0,s0,s0])))::H)
 have hsq:=Slot.blk (g:=gn) (e:=157) (k:=32) ([iv x1,iv x2,iv x3,iv x4,iv 0,iv x35]) ([s0,iv 0,s0,iv 0,s0,iv 0,iv 0,iv 0,iv 0,iv 0,s0,s0,s0,s0,s0,iv 0,iv 0,s0,s0,s0])
 refine Ci rfl (nDigest_ok (d0:=dig0) hqq hsq hl35.to) ?_
 rintro _ w36 ⟨F36,A36,c36,l36,b36,cs36,x36,hp,hF36,hl36,hrd36,hst36⟩
 obtain rfl:=hrd36
 replace hp:=hp.nz
 refine so ?_
 refine wP 7 hp (h:=fun wD hp hED=> ?_)
 have hqq:=hp.az (itB gr 223 ([.slice A36 l36.length c36, .bool b36])::itB gn 157 (([iv x1,iv x2,iv x3,iv x4,iv 0,iv x35]++(digC x36++([s0,iv 0,s0,iv 0,s0,iv 0,iv 0,iv 0,iv 0,iv 0,s0,s0,s0,s0,s0])))++(([iv 0])++([iv 0,s0,s0,s0])))::H)
 have hsq:=Slot.blk (g:=gn) (e:=157) (k:=1) ([iv x1,iv x2,iv x3,iv x4,iv 0,iv x35]++(digC x36++([s0,iv 0,s0,iv 0,s0,iv 0,iv 0,iv 0,iv 0,iv 0,s0,s0,s0,s0,s0]))) ([iv 0,s0,s0,s0])
 refine Ci rfl (nNum_ok (v0:=0) hqq hsq hl36.to (by unfold i64;omega)) ?_
 rintro _ w37 ⟨F37,A37,c37,l37,b37,cs37,x37,hp,hF37,hl37,hrd37,hst37⟩
 obtain ⟨hI37,rfl⟩:=hrd37
 replace hp:=hp.nz
 refine so ?_
 refine wP 7 hp (h:=fun wD hp hED=> ?_)
 have hqq:=hp.az (itB gr 223 ([.slice A37 l37.length c37, .bool b37])::itB gn 157 (([iv x1,iv x2,iv x3,iv x4,iv 0,iv x35]++(digC x36++([s0,iv 0,s0,iv 0,s0,iv 0,iv 0,iv 0,iv 0,iv 0,s0,s0,s0,s0,s0,iv x37])))++(([iv 0])++([s0,s0,s0])))::H)
 have hsq:=Slot.blk (g:=gn) (e:=157) (k:=1) ([iv x1,iv x2,iv x3,iv x4,iv 0,iv x35]++(digC x36++([s0,iv 0,s0,iv 0,s0,iv 0,iv 0,iv 0,iv 0,iv 0,s0,s0,s0,s0,s0,iv x37]))) ([s0,s0,s0])
 refine Ci rfl (nNum_ok (v0:=0) hqq hsq hl37.to (by unfold i64;omega)) ?_
 rintro _ w38 ⟨F38,A38,c38,l38,b38,cs38,x38,hp,hF38,hl38,hrd38,hst38⟩
 obtain ⟨hI38,rfl⟩:=hrd38
 replace hp:=hp.nz
 refine so ?_
 refine Cd ?_ ?_<;>intro hc21<;>refine so ?_
 ·refine wdP 7 hp (fun wD hp hED => by refine pm ?_; exact .op rfl (wl_nilCheckI (by decide) rfl (wl_nil qp)) pl) fun wD hp hED => ?_
  have hqq:=hp.az (itB gr 223 ([.slice A38 l38.length c38, .bool b38])::itB gn 157 (([iv x1,iv x2,iv x3,iv x4,iv 0,iv x35]++(digC x36++([s0,iv 0,s0,iv 0,s0,iv 0,iv 0,iv 0,iv 0,iv 0,s0,s0,s0,s0,s0,iv x37,iv x38])))++(([s0])++([s0,s0])))::H)
  have hsq:=Slot.blk (g:=gn) (e:=157) (k:=1) ([iv x1,iv x2,iv x3,iv x4,iv 0,iv x35]++(digC x36++([s0,iv 0,s0,iv 0,s0,iv 0,iv 0,iv 0,iv 0,iv 0,s0,s0,s0,s0,s0,iv x37,iv x38]))) ([s0,s0])
  refine Ce (rListD_ok (p:=digP) (most:=8) (FV:= .func (.method "bastide/note.digest") [Value.iface 221 (pt gr 0)].toArray ([]:List Value).toArray) hqq hsq hl38.to (fun w1 F1 H1 X pa A c l bad hF hp hS hl=>RetV.meth (vs:= [.pointer (some pa)]) mt248 (nDigest_ok (d0:=dig0) hp hS hl)) (by decide)) ?_
  rintro _ w39 ⟨F39,A39,c39,l39,b39,cs39,x39,hp,hF39,hl39,hrd39,hst39⟩
  obtain ⟨B39,d39,rfl,hg39⟩:=hrd39
  replace hp:=hp.nz
  refine so ?_
  refine wP 7 hp (h:=fun wD hp hED=> ?_)
  have hqq:=hp.az (itB gr 223 ([.slice A39 l39.length c39, .bool b39])::itB gn 157 (([iv x1,iv x2,iv x3,iv x4,iv 0,iv x35]++(digC x36++([s0,iv 0,s0,iv 0,s0,iv 0,iv 0,iv 0,iv 0,iv 0,s0,s0,s0,s0,s0,iv x37,iv x38, .slice B39 x39.length d39])))++(([s0])++([s0])))::H)
  have hsq:=Slot.blk (g:=gn) (e:=157) (k:=1) ([iv x1,iv x2,iv x3,iv x4,iv 0,iv x35]++(digC x36++([s0,iv 0,s0,iv 0,s0,iv 0,iv 0,iv 0,iv 0,iv 0,s0,s0,s0,s0,s0,iv x37,iv x38, .slice B39 x39.length d39]))) ([s0])
  refine Ci rfl (nStr_ok (most:=1024) hqq hsq hl39.to) ?_
  rintro _ w40 ⟨F40,A40,c40,l40,b40,cs40,x40,hp,hF40,hl40,hrd40,hst40⟩
  obtain ⟨B40,d40,rfl,hg40⟩:=hrd40
  replace hp:=hp.nz
  refine so ?_
  refine wk_post0 (.inr rfl) results167 ?_
  have hbd:StepP noteP (rst bad l) (rst b40 l40) ({note0 with kind:=x1,from_:=x2,group:=x3,epoch:=x4,seq:=x35,dig:=x36,level:=x37,place:=x38,digs:=x39,data:=x40}:Nte):=by
    refine StepP.bind hst1 (StepP.bind hst2 (StepP.bind hst3 (StepP.bind hst4 ?_)))
    unfold bodyP
    repeat (first|rw [if_neg (by omega)]|rw [if_pos (by omega)])
    exact StepP.bind hst35 (StepP.bind hst36 (StepP.bind hst37 (StepP.bind hst38 (StepP.bind hst39 (StepP.bind hst40 (StepP.pure _ _))))))
  exact ⟨_,rfl,_,A40,c40,l40,b40,_,({note0 with kind:=x1,from_:=x2,group:=x3,epoch:=x4,seq:=x35,dig:=x36,level:=x37,place:=x38,digs:=x39,data:=x40}:Nte),((hp.up 1 rfl).up 1 rfl),mv,hl40,⟨⟨hI1,hI2,hI3,hI4,i0,hI35,i0,i0,i0,i0,i0,i0,i0,hI37,hI38⟩,_,_,_,_,_,_,_,_,_,_,_,_,_,_,_,_,_,_,_,_,_,_,rfl,gsn,gsn,gsn,gsn,gsn,gsn,gsn,gsn,hg39.to,hg40,gsn⟩,hbd⟩
 exact absurd hc20 hc21
 refine Cd ?_ ?_<;>intro hc22<;>refine so ?_
 ·refine wdP 7 hp (fun wD hp hED => by refine pm ?_; exact .op rfl (wl_nilCheckI (by decide) rfl (wl_nil qp)) pl) fun wD hp hED => ?_
  have hqq:=hp.az (itB gr 223 ([.slice A4 l4.length c4, .bool b4])::itB gn 157 (([iv x1,iv x2,iv x3,iv x4,iv 0,iv 0]++(digC dig0++([s0,iv 0,s0,iv 0,s0,iv 0,iv 0,iv 0,iv 0,iv 0,s0,s0,s0,s0,s0,iv 0,iv 0,s0,s0])))++(([s0])++([])))::H)
  have hsq:=Slot.blk (g:=gn) (e:=157) (k:=1) ([iv x1,iv x2,iv x3,iv x4,iv 0,iv 0]++(digC dig0++([s0,iv 0,s0,iv 0,s0,iv 0,iv 0,iv 0,iv 0,iv 0,s0,s0,s0,s0,s0,iv 0,iv 0,s0,s0]))) ([])
  refine Ce (rListI_ok (p:=numP) (most:=7) (FV:= .func (.method "bastide/note.num") [Value.iface 221 (pt gr 0)].toArray ([]:List Value).toArray) hqq hsq hl4.to (fun w1 F1 H1 X pa A c l bad hF hp hS hl=>RetV.meth (vs:= [.pointer (some pa)]) mt250 (nNum_ok (v0:=0) hp hS hl (by unfold i64;omega))) (by decide)) ?_
  rintro _ w41 ⟨F41,A41,c41,l41,b41,cs41,x41,hp,hF41,hl41,hrd41,hst41⟩
  obtain ⟨B41,d41,rfl,hg41⟩:=hrd41
  replace hg41:=hg41.ints
  replace hp:=hp.nz
  refine so ?_
  refine wk_post0 (.inr rfl) results167 ?_
  have hbd:StepP noteP (rst bad l) (rst b41 l41) ({note0 with kind:=x1,from_:=x2,group:=x3,epoch:=x4,nodes:=x41}:Nte):=by
    refine StepP.bind hst1 (StepP.bind hst2 (StepP.bind hst3 (StepP.bind hst4 ?_)))
    unfold bodyP
    repeat (first|rw [if_neg (by omega)]|rw [if_pos (by omega)])
    exact StepP.bind hst41 (StepP.pure _ _)
  exact ⟨_,rfl,_,A41,c41,l41,b41,_,({note0 with kind:=x1,from_:=x2,group:=x3,epoch:=x4,nodes:=x41}:Nte),((hp.up 1 rfl).up 1 rfl),mv,hl41,⟨⟨hI1,hI2,hI3,hI4,i0,i0,i0,i0,i0,i0,i0,i0,i0,i0,i0⟩,_,_,_,_,_,_,_,_,_,_,_,_,_,_,_,_,_,_,_,_,_,_,rfl,gsn,gsn,gsn,gsn,gsn,gsn,gsn,gsn,gsn,gsn,hg41⟩,hbd⟩
 refine Cd ?_ ?_<;>intro hc23<;>refine so ?_
 ·refine wP 7 hp (h := fun wD hp hED => ?_)
  have hqq:=hp.az (itB gr 223 ([.slice A4 l4.length c4, .bool b4])::itB gn 157 (([iv x1,iv x2,iv x3,iv x4,iv 0])++(([iv 0])++(digC dig0++([s0,iv 0,s0,iv 0,s0,iv 0,iv 0,iv 0,iv 0,iv 0,s0,s0,s0,s0,s0,iv 0,iv 0,s0,s0,s0]))))::H)
  have hsq:=Slot.blk (g:=gn) (e:=157) (k:=1) ([iv x1,iv x2,iv x3,iv x4,iv 0]) (digC dig0++([s0,iv 0,s0,iv 0,s0,iv 0,iv 0,iv 0,iv 0,iv 0,s0,s0,s0,s0,s0,iv 0,iv 0,s0,s0,s0]))
  refine Ci rfl (nNum_ok (v0:=0) hqq hsq hl4.to (by unfold i64;omega)) ?_
  rintro _ w42 ⟨F42,A42,c42,l42,b42,cs42,x42,hp,hF42,hl42,hrd42,hst42⟩
  obtain ⟨hI42,rfl⟩:=hrd42
  replace hp:=hp.nz
  refine so ?_
  refine wP 7 hp (h:=fun wD hp hED=> ?_)
  have hqq:=hp.az (itB gr 223 ([.slice A42 l42.length c42, .bool b42])::itB gn 157 (([iv x1,iv x2,iv x3,iv x4,iv 0,iv x42]++(digC dig0))++(([s0])++([iv 0,s0,iv 0,s0,iv 0,iv 0,iv 0,iv 0,iv 0,s0,s0,s0,s0,s0,iv 0,iv 0,s0,s0,s0])))::H)
  have hsq:=Slot.blk (g:=gn) (e:=157) (k:=1) ([iv x1,iv x2,iv x3,iv x4,iv 0,iv x42]++(digC dig0)) ([iv 0,s0,iv 0,s0,iv 0,iv 0,iv 0,iv 0,iv 0,s0,s0,s0,s0,s0,iv 0,iv 0,s0,s0,s0])
  refine Ci rfl (nBatch_ok hqq hsq hl42.to) ?_
  rintro _ w43 ⟨F43,A43,c43,l43,b43,cs43,x43,hp,hF43,hl43,hrd43,hst43⟩
  obtain ⟨B43,d43,rfl,hg43⟩:=hrd43
  replace hp:=hp.nz
  refine so ?_
  refine wk_post0 (.inr rfl) results167 ?_
  have hbd:StepP noteP (rst bad l) (rst b43 l43) ({note0 with kind:=x1,from_:=x2,group:=x3,epoch:=x4,seq:=x42,batch:=x43}:Nte):=by
    refine StepP.bind hst1 (StepP.bind hst2 (StepP.bind hst3 (StepP.bind hst4 ?_)))
    unfold bodyP
    repeat (first|rw [if_neg (by omega)]|rw [if_pos (by omega)])
    exact StepP.bind hst42 (StepP.bind hst43 (StepP.pure _ _))
  exact ⟨_,rfl,_,A43,c43,l43,b43,_,({note0 with kind:=x1,from_:=x2,group:=x3,epoch:=x4,seq:=x42,batch:=x43}:Nte),((hp.up 1 rfl).up 1 rfl),mv,hl43,⟨⟨hI1,hI2,hI3,hI4,i0,hI42,i0,i0,i0,i0,i0,i0,i0,i0,i0⟩,_,_,_,_,_,_,_,_,_,_,_,_,_,_,_,_,_,_,_,_,_,_,rfl,hg43,gsn,gsn,gsn,gsn,gsn,gsn,gsn,gsn,gsn,gsn⟩,hbd⟩
 refine wk_post0 (.inr rfl) results167 ?_
 have hbd:StepP noteP (rst bad l) (rst b4 l4) ({note0 with kind:=x1,from_:=x2,group:=x3,epoch:=x4}:Nte):=by
   refine StepP.bind hst1 (StepP.bind hst2 (StepP.bind hst3 (StepP.bind hst4 ?_)))
   unfold bodyP
   repeat (first|rw [if_neg (by omega)]|rw [if_pos (by omega)])
   exact StepP.pure _ _
 exact ⟨_,rfl,_,A4,c4,l4,b4,_,({note0 with kind:=x1,from_:=x2,group:=x3,epoch:=x4}:Nte),((hp.up 1 rfl).up 1 rfl),mv,hl4,⟨⟨hI1,hI2,hI3,hI4,i0,i0,i0,i0,i0,i0,i0,i0,i0,i0,i0⟩,_,_,_,_,_,_,_,_,_,_,_,_,_,_,_,_,_,_,_,_,_,_,rfl,gsn,gsn,gsn,gsn,gsn,gsn,gsn,gsn,gsn,gsn,gsn⟩,hbd⟩
end Go.Proofs.YtmbpneaibmldfaaGreat
