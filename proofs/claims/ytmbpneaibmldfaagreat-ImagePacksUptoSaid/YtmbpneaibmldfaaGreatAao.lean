/- What each of these functions computes, for every argument that its theorem names; a part of what the proof of ImageOnce stands on. -/
import Derived.Test.YtmbpneaibmldfaaGreatAac
import Derived.Test.YtmbpneaibmldfaaGreatAad
import Derived.Test.YtmbpneaibmldfaaGreatAaf
import Derived.Test.YtmbpneaibmldfaaGreatAag
import Derived.Test.YtmbpneaibmldfaaGreatAai
import Derived.Test.YtmbpneaibmldfaaGreatAaj
import Derived.Test.YtmbpneaibmldfaaGreatAak
import Derived.Test.YtmbpneaibmldfaaGreatAal
namespace Go.Proofs.YtmbpneaibmldfaaGreat
open Go.RowKit Go.Eng Go.Eng _root_.Go.Proofs.Tryz
set_option maxRecDepth 100000
variable {w0 w:World} {M0 Fz:Nat→Prop} {H:List It} {A:Option Addr} {c:Nat}
theorem t0_wParse_ok {p:Prop} (h:p:=by rw [show x22.toNat=k by omega];exact hstL):p:=h
set_option maxHeartbeats 40000000 in
theorem wParse_ok {l:List UInt8} (hp:HP w0 M0 Fz w H) (hl:GS byteR Fz w A c l):Ret prog 165 #[.slice A l.length c] w (fun v w2=> ∃F2 cs x e,v= .tuple #[.agg cs.toArray, .int .i64 e]∧HP w0 M0 F2 w2 H∧Frz Fz F2 w w2∧wishR.rd F2 w2 cs x∧ParseR l x e):=by
 refine ret_of_wk func165 rfl ntmps165 leB_ ?_
 refine so ?_
 refine Alo hp (h:=fun gs2 w1 hp hE1=>so ?_)
 refine wl_builtS (ps:= [(0, .tmp 9)]) (by decide) bld220 rfl rfl ?_
 refine Bx hp (h:=fun gs11 w2 hp hE2=>so ?_)
 refine Alo hp (h:=fun gs5 w3 hp hE3=>so ?_)
 refine wl_bslice (size:=1) (xs:= [.tmp 12, .tmp 13, .tmp 14, .tmp 15, .tmp 16, .tmp 17]) (vs:= [pt gs5 4,pt gs5 0,pt gs5 1,pt gs5 2,pt gs5 3,pt gs5 5]) (by decide) sl237 rfl rfl rfl (by intro v hv;simp only [List.mem_cons,List.not_mem_nil,or_false] at hv;rcases hv with rfl|rfl|rfl|rfl|rfl|rfl<;>rfl) leB_ _ (Nat.le_refl _) ?_
 rintro gpp wpp hgpp hopp hEpp
 replace hp:=((hp.newRow hEpp hgpp hopp).as_ (H':=itR 181 1 (some ⟨gpp,0,none⟩) 6 6 [pt gs5 4,pt gs5 0,pt gs5 1,pt gs5 2,pt gs5 3,pt gs5 5]::_) rfl)
 refine so ?_
 refine wc_unroll 7 ?_
 refine wc_unfold (so ?_)
 refine aT (so ?_)
 refine wl_idx0 (size:=1) (by decide) sl237 rfl rfl rfl 0 rfl (by decide) ?_
 refine Ld_ sc181 rfl ((hp.rowAt (i:=0) rfl).at0.get (j:=0) rfl) (so ?_)
 replace hp:=(hp.up 2 rfl).as_ (H':=itB gs11 220 ([.slice A l.length c,iv 0])::itR 181 1 (some ⟨gpp,0,none⟩) 6 6 [pt gs5 4,pt gs5 0,pt gs5 1,pt gs5 2,pt gs5 3,pt gs5 5]::itB gs5 112 ([iv wish0.client,iv wish0.stamp,iv wish0.group,iv wish0.epoch,iv wish0.kind,iv wish0.block,s0,iv wish0.old,iv wish0.new,s0])::itB gs2 112 ([iv wish0.client,iv wish0.stamp,iv wish0.group,iv wish0.epoch,iv wish0.kind,iv wish0.block,s0,iv wish0.old,iv wish0.new,s0])::H) rfl
 refine Ce (wNum_ok hp hl.to) ?_
 rintro v4 w4 ⟨F4,A4,c4,l4,b4,cs4,x4,hv4,hp,hF4,hl4,hrd4,hst4⟩
 obtain ⟨hI4,rfl⟩:=hrd4
 obtain rfl:v4=iv x4:=hv4
 have hJ4:=hI4
 unfold i64 at hJ4
 refine so ?_
 refine H1 2 hp (h:=fun w5 hp hC5=>sl ?_)
 refine wc_region ?_
 refine sl ?_
 refine wc_unfold (so ?_)
 refine aT (so ?_)
 refine wl_idx0 (size:=1) (by decide) sl237 rfl rfl rfl 1 rfl (by decide) ?_
 refine Ld_ sc181 rfl ((hp.rowAt (i:=1) rfl).at0.get (j:=1) rfl) (so ?_)
 refine Ce (wNum_ok hp hl4.to) ?_
 rintro v6 w6 ⟨F6,A6,c6,l6,b6,cs6,x6,hv6,hp,hF6,hl6,hrd6,hst6⟩
 obtain ⟨hI6,rfl⟩:=hrd6
 obtain rfl:v6=iv x6:=hv6
 have hJ6:=hI6
 unfold i64 at hJ6
 refine so ?_
 refine H1 2 hp (h:=fun w7 hp hC7=>sl ?_)
 refine wc_region ?_
 refine sl ?_
 refine wc_unfold (so ?_)
 refine aT (so ?_)
 refine wl_idx0 (size:=1) (by decide) sl237 rfl rfl rfl 2 rfl (by decide) ?_
 refine Ld_ sc181 rfl ((hp.rowAt (i:=1) rfl).at0.get (j:=2) rfl) (so ?_)
 refine Ce (wNum_ok hp hl6.to) ?_
 rintro v8 w8 ⟨F8,A8,c8,l8,b8,cs8,x8,hv8,hp8,hF8,hl8,hrd8,hst8⟩
 obtain ⟨hI8,rfl⟩:=hrd8
 obtain rfl:v8=iv x8:=hv8
 have hJ8:=hI8
 unfold i64 at hJ8
 replace hp:=hp8
 refine so ?_
 refine H1 2 hp (h:=fun w9 hp9 hC9=> ?_)
 replace hp:=hp9
 refine sl ?_
 refine wc_region ?_
 refine sl ?_
 refine wc_unfold (so ?_)
 refine aT (so ?_)
 refine wl_idx0 (size:=1) (by decide) sl237 rfl rfl rfl 3 rfl (by decide) ?_
 refine Ld_ sc181 rfl ((hp.rowAt (i:=1) rfl).at0.get (j:=3) rfl) (so ?_)
 refine Ce (wNum_ok hp hl8.to) ?_
 rintro v10 w10 ⟨F10,A10,c10,l10,b10,cs10,x10,hv10,hp,hF10,hl10,hrd10,hst10⟩
 obtain ⟨hI10,rfl⟩:=hrd10
 obtain rfl:v10=iv x10:=hv10
 have hJ10:=hI10
 unfold i64 at hJ10
 refine so ?_
 refine H1 2 hp (h:=fun w11 hp hC11=>sl ?_)
 refine wc_region ?_
 refine sl ?_
 refine wc_unfold (so ?_)
 refine aT (so ?_)
 refine wl_idx0 (size:=1) (by decide) sl237 rfl rfl rfl 4 rfl (by decide) ?_
 refine Ld_ sc181 rfl ((hp.rowAt (i:=1) rfl).at0.get (j:=4) rfl) (so ?_)
 refine Ce (wNum_ok hp hl10.to) ?_
 rintro v12 w12 ⟨F12,A12,c12,l12,b12,cs12,x12,hv12,hp,hF12,hl12,hrd12,hst12⟩
 obtain ⟨hI12,rfl⟩:=hrd12
 obtain rfl:v12=iv x12:=hv12
 have hJ12:=hI12
 unfold i64 at hJ12
 refine so ?_
 refine H1 2 hp (h:=fun w13 hp hC13=>sl ?_)
 refine wc_region ?_
 refine sl ?_
 refine wc_unfold (so ?_)
 refine aT (so ?_)
 refine wl_idx0 (size:=1) (by decide) sl237 rfl rfl rfl 5 rfl (by decide) ?_
 refine Ld_ sc181 rfl ((hp.rowAt (i:=1) rfl).at0.get (j:=5) rfl) (so ?_)
 refine Ce (wNum_ok hp hl12.to) ?_
 rintro v14 w14 ⟨F14,A14,c14,l14,b14,cs14,x14,hv14,hp,hF14,hl14,hrd14,hst14⟩
 obtain ⟨hI14,rfl⟩:=hrd14
 obtain rfl:v14=iv x14:=hv14
 have hJ14:=hI14
 unfold i64 at hJ14
 refine so ?_
 refine H1 2 hp (h:=fun w15 hp hC15=>sl ?_)
 refine wc_region ?_
 refine sl ?_
 refine wc_unfold (so ?_)
 refine aF (so ?_)
 refine Ce (wStr_ok (most:=16) hp hl14.to) ?_
 rintro v16 w16 ⟨F16,A16,c16,l16,b16,cs16,x16,hv16,hp,hF16,hl16,hrd16,hst16⟩
 obtain ⟨B16,d16,rfl,hg16⟩:=hrd16
 obtain rfl:v16= .slice B16 x16.length d16:=hv16
 refine so ?_
 refine H1 2 hp (h:=fun w17 hp hC17=>so ?_)
 refine Ce (wNum_ok hp hl16.to) ?_
 rintro v18 w18 ⟨F18,A18,c18,l18,b18,cs18,x18,hv18,hp,hF18,hl18,hrd18,hst18⟩
 obtain ⟨hI18,rfl⟩:=hrd18
 obtain rfl:v18=iv x18:=hv18
 have hJ18:=hI18
 unfold i64 at hJ18
 refine so ?_
 refine H1 2 hp (h:=fun w19 hp hC19=>so ?_)
 refine Ce (wNum_ok hp hl18.to) ?_
 rintro v20 w20 ⟨F20,A20,c20,l20,b20,cs20,x20,hv20,hp,hF20,hl20,hrd20,hst20⟩
 obtain ⟨hI20,rfl⟩:=hrd20
 obtain rfl:v20=iv x20:=hv20
 have hJ20:=hI20
 unfold i64 at hJ20
 refine so ?_
 refine H1 2 hp (h:=fun w21 hp hC21=>so ?_)
 refine Ce (wMany_ok (most:=7) hp hl20.to (by decide)) ?_
 rintro _ w22 ⟨F22,A22,c22,l22,b22,x22,rfl,hp,hF22,hl22,hst22,hxm22⟩
 refine so ?_
 refine Lp [2, 4, 5, 39, 40] (fun L' w' mes => ∃ (k : Nat), ∃ (Fq : Nat → Prop), ∃ (Aq : Option Addr), ∃ (cq : Nat), ∃ (lq : List UInt8), ∃ (bq : Int), ∃ (AL : Option Addr), ∃ (cL : Nat), ∃ (xs : List Int), ∃ (rows : List (List Value)), L' = [(2, pt gs2 0), (4, pt gs11 0), (5, pt gs5 0), (39, iv x22), (40, iv (k : Int))] ∧ (k ≤ x22.toNat) ∧ (xs.length = k) ∧ (RF i64R Fq w' rows xs) ∧ (Frz Fz Fq w w') ∧ (GS byteR Fq w' Aq cq lq) ∧ (StepP (repP numP k) (rst (decide (b22 ≠ 0)) l22) (rst (decide (bq ≠ 0)) lq) xs) ∧ (GS byteR Fq w' B16 d16 x16) ∧ (HP w0 M0 Fq w' (itB gs11 220 [.slice Aq lq.length cq, iv bq] :: itB gs5 112 ([iv x6, iv x8, iv x10, iv x12, iv x4, iv x14, .slice B16 x16.length d16, iv x18, iv x20, .slice AL xs.length cL]) :: itR 3 1 AL xs.length cL rows.flatten :: itR 181 1 (some ⟨gpp, 0, none⟩) 6 6 [pt gs5 4, pt gs5 0, pt gs5 1, pt gs5 2, pt gs5 3, pt gs5 5] :: itB gs2 112 ([iv wish0.client, iv wish0.stamp, iv wish0.group, iv wish0.epoch, iv wish0.kind, iv wish0.block, s0, iv wish0.old, iv wish0.new, s0]) :: H)) ∧ x22.toNat - k = mes) (x22.toNat - 0) (by
     refine ⟨0,F22,A22,c22,l22,b22,none,0, [], [],rfl,Nat.zero_le _, ?_,RF.nil _ _ _,mv,hl22,StepP.pure _ _,hg16.to, ?_,rfl⟩
     rfl
     replace hp:=((hp.up 2 rfl).up 1 rfl).as_ (H':=itB gs11 220 ([.slice A22 l22.length c22,iv b22])::itB gs5 112 ([iv x6,iv x8,iv x10,iv x12,iv x4,iv x14, .slice B16 x16.length d16,iv x18,iv x20,s0])::itR 181 1 (some ⟨gpp,0,none⟩) 6 6 [pt gs5 4,pt gs5 0,pt gs5 1,pt gs5 2,pt gs5 3,pt gs5 5]::itB gs2 112 ([iv wish0.client,iv wish0.stamp,iv wish0.group,iv wish0.epoch,iv wish0.kind,iv wish0.block,s0,iv wish0.old,iv wish0.new,s0])::H) rfl
     exact (((((((hp.noRow 3 1).up 4 rfl).up 4 rfl).up 2 rfl).up 4 rfl).up 4 rfl)).as_ (H':=_::_::_::_::_::_) rfl) ?_
 rintro _ wr _ ⟨k,Fq,Aq,cq,lq,bq,AL,cL,xs,rows,rfl,hk,hxk,hRF,hFr,hlq,hstL,hg16,hp,rfl⟩ KL2 hKL2
 refine so ?_
 refine Cd ?_ ?_<;>intro hc1
 refine so ?_
 refine wc_drawE 5 3 45 4 46 (fun w9 v w2=>RvE 220 gs11 w0 M0 Fq w9 (itB gs5 112 ([iv x6,iv x8,iv x10,iv x12,iv x4,iv x14, .slice B16 x16.length d16,iv x18,iv x20, .slice AL xs.length cL])::itR 3 1 AL xs.length cL rows.flatten::itR 181 1 (some ⟨gpp,0,none⟩) 6 6 [pt gs5 4,pt gs5 0,pt gs5 1,pt gs5 2,pt gs5 3,pt gs5 5]::itB gs2 112 ([iv wish0.client,iv wish0.stamp,iv wish0.group,iv wish0.epoch,iv wish0.kind,iv wish0.block,s0,iv wish0.old,iv wish0.new,s0])::H) i64R false numP bq lq v w2) OneOf (fun i v=>match i with|0=>v=pt gs5 9|1=>v= .slice AL xs.length cL|_=>v=pt gs11 0) rfl (by kernel_rfl) (by kernel_rfl) (fun v w1 w2 hE h=>h.ext hE) (fun v u w1 w2 hE h=>h.ext hE) ⟨?_, ?_, ?_, ?_, ?_,trivial⟩ ?_ ?_ ?_
 refine .inr (.inr ?_)
 intro F wF hPP hk
 have e5:=hk.init 5 _ rfl (by kernel_rfl)
 refine Fd_ 9 fld112_9 e5 rfl ?_
 exact qz ⟨Chg.refl _ _,rfl⟩
 refine .inr (.inr ?_)
 intro F wF hPP hk
 obtain ⟨u42,e42,h42⟩:=hk.pred 0 (by kernel_rfl) 42 rfl
 obtain rfl:u42=pt gs5 9:=by simpa using h42
 rcases hPP with hER|⟨v9,F9,A9,c9,l9,b9,cs9,x9,hv9,hp9,_⟩
 refine Hl_ 1 sc22 e42 (hp.ext hER) rfl rfl ?_
 exact qz ⟨Chg.refl _ _,rfl⟩
 refine Hl_ 1 sc22 e42 hp9 rfl rfl ?_
 exact qz ⟨Chg.refl _ _,rfl⟩
 refine .inr (.inr ?_)
 intro F wF hPP hk
 have e4:=hk.init 4 _ rfl (by kernel_rfl)
 refine Mv_ e4 ?_
 exact qz ⟨Chg.refl _ _,rfl⟩
 exact .inl rfl
 exact .inr (.inl rfl)
 intro o ho F wF hER hk
 cases ho
 obtain ⟨u44,e44,h44⟩:=hk.pred 2 (by kernel_rfl) 44 rfl
 obtain rfl:u44=pt gs11 0:=by simpa using h44
 have hcl:=wNum_ok (hp.ext hER) (hlq.ext hER)
 refine Cl_ cl188 (by simp only [evs,ev,e44];first|done|rfl) hcl ?_
 intro v9 w9 hv9
 exact wl_nil (qr_some (hv9.from hER))
 intro o ho F wF v9 e45 hPo hk
 cases ho
 obtain ⟨F23,A23,c23,l23,b23,cs23,x23,hv23,hp23,hF23,hl23,hrd23,hst23⟩:=hPo
 obtain ⟨hI23,rfl⟩:=hrd23
 obtain rfl:v9=iv x23:=hv23
 refine wl_oneOf (by decide) sl22 rfl e45 rfl leB_ ?_
 intro u9 w9 h9 hE9
 exact qz ⟨hE9,h9⟩
 intro F wD v9 u9 e45 hPo e46 hOn hini hdo
 obtain ⟨F23,A23,c23,l23,b23,cs23,x23,hv23,hp23,hF23,hl23,hrd23,hst23⟩:=hPo
 obtain ⟨hI23,rfl⟩:=hrd23
 obtain rfl:v9=iv x23:=hv23
 obtain ⟨gt,rfl,hat9⟩:=hOn
 have e2:=hini 2 _ rfl (by kernel_rfl)
 have e4:=hini 4 _ rfl (by kernel_rfl)
 have e5:=hini 5 _ rfl (by kernel_rfl)
 have e39:=hini 39 _ rfl (by kernel_rfl)
 have e40:=hini 40 _ rfl (by kernel_rfl)
 obtain ⟨u43,e43,h43⟩:=hdo 1 43 (Nat.lt_of_lt_of_eq (by decide) rfl) rfl
 obtain rfl:u43= .slice AL xs.length cL:=by simpa using h43
 refine wl_drop [(2,_),(4,_),(5,_),(39,_),(40,_),(43,_),(46,_)] ⟨e2,e4,e5,e39,e40,e43,e46,trivial⟩ ?_
 clear hini hdo
 replace hp:=hp23
 refine wl_happend (i:=2) (m:=1) (size:=1) (news:= [iv x23]) (by decide) sl22 rfl rfl hp rfl rfl (fun b hb=>by cases hb;exact hat9) (by simp) (List.all_eq_true.1 rfl) (by omega) ?_
 rintro Aw cw ww hpw hCw
 replace hp:=hpw
 refine so ?_
 refine H1 1 hp (h:=fun w24 hp hC24=>so ?_)
 refine Kl [2,4,5,39,40] hKL2 (x22.toNat-(k+1)) ⟨(k+1),F23,A23,c23,l23,b23,Aw,cw,(xs++ [x23]),(rows++ [[iv x23]]),rfl,by omega, ?_,hRF.to.append (RF.one ⟨hI23,rfl⟩),mv,hl23.to,StepP.snoc hstL hst23,hg16.to, ?_,rfl⟩ (by omega)
 rw [List.length_append,hxk];rfl
 rw [flat_snoc,List.length_append];exact ((((((hp.up 4 rfl).up 4 rfl).up 4 rfl).up 4 rfl).up 4 rfl).as_ (H':=_::_::_::_::_::_) rfl)
 have hrowA:=hp.rowAt (i:=2) rfl
 obtain ⟨F8,hp8,hs8,hb8⟩:=((hp.up 2 rfl).as_ (H':=_::_::_::_::_::_) rfl).frzRow
 have hgs:=OwnRow.gsRF (r:=i64R) hrowA (hRF.wid hs8) hb8
 replace hp:=hp8
 replace hgs:=hgs.ints
 refine so ?_
 refine Ce (wEnd_ok hp hlq.to) ?_
 rintro _ w25 ⟨e2,e3,rfl,hen,hp,hF25⟩
 replace hg16:=(hg16.to (w':=w25))
 replace hgs:=hgs.fz hF25.chg
 refine so ?_
 refine Cd ?_ ?_<;>intro hc2<;>refine so ?_
 refine Cx hp (wCheck_ok (w0:=({client:=x6,stamp:=x8,group:=x10,epoch:=x12,kind:=x4,block:=x14,data:=x16,old:=x18,new:=x20,next:=xs}:Wsh)) ⟨⟨hI6,hI8,hI10,hI12,hI4,hI14,hI18,hI20⟩,_,_,_,_,rfl,hg16,hgs⟩) fun w26 hp hE26=>so ?_
 refine Cd ?_ ?_<;>intro hc3<;>refine so ?_
 refine wl_builtS (ps:= []) (by decide) bld112 rfl rfl ?_
 refine so ?_
 refine Hs 3 hp (h:=fun w27 hp hC27=>so ?_)
 refine wk_postR (rs:= [.cell 2 112, .tmp 3]) (.inl rfl) results165 ⟨_,_,_,rfl,rfl,loadVar_agg ag112 (hp.blkAt (i:=3) rfl).at0 rfl,⟨_,_,rfl,rfl,rfl⟩⟩ ?_
 have hPX:=(show StepP wishP (some l) _ ({client:=x6,stamp:=x8,group:=x10,epoch:=x12,kind:=x4,block:=x14,data:=x16,old:=x18,new:=x20,next:=xs}:Wsh) from StepP.bind hst4 (StepP.bind hst6 (StepP.bind hst8 (StepP.bind hst10 (StepP.bind hst12 (StepP.bind hst14 (StepP.bind hst16 (StepP.bind hst18 (StepP.bind hst20 (StepP.bind (StepP.bind hst22 t0_wParse_ok) (StepP.pure _ _)))))))))))
 have hpE:=hp.tail.tail.tail.tail
 first|(exfalso;omega)|exact ⟨_,rfl,_,_,wish0,_,rfl,hpE,mv,⟨WshI0,none,0,none,0,rfl,gsn,gsn⟩, .inr ⟨by assumption,parse_no hPX hen (by omega),rfl⟩⟩|exact ⟨_,rfl,_,_,wish0,_,rfl,hpE,mv,⟨WshI0,none,0,none,0,rfl,gsn,gsn⟩, .inr ⟨by assumption,by rw [parse_some hPX hen (by omega),if_neg (show ¬WishMay ({client:=x6,stamp:=x8,group:=x10,epoch:=x12,kind:=x4,block:=x14,data:=x16,old:=x18,new:=x20,next:=xs}:Wsh) from fun hm=>by simp [hm] at hc1 hc2 hc3)],rfl⟩⟩
 refine Hs 3 hp (h:=fun w28 hp hC28=>so ?_)
 refine wk_postR (rs:= [.cell 2 112, .tmp 3]) (.inl rfl) results165 ⟨_,_,_,rfl,rfl,loadVar_agg ag112 (hp.blkAt (i:=3) rfl).at0 rfl,⟨_,_,rfl,rfl,rfl⟩⟩ ?_
 have hPX:=(show StepP wishP (some l) _ ({client:=x6,stamp:=x8,group:=x10,epoch:=x12,kind:=x4,block:=x14,data:=x16,old:=x18,new:=x20,next:=xs}:Wsh) from StepP.bind hst4 (StepP.bind hst6 (StepP.bind hst8 (StepP.bind hst10 (StepP.bind hst12 (StepP.bind hst14 (StepP.bind hst16 (StepP.bind hst18 (StepP.bind hst20 (StepP.bind (StepP.bind hst22 t0_wParse_ok) (StepP.pure _ _)))))))))))
 have hpE:=hp.tail.tail.tail.tail
 first|(exfalso;omega)|exact ⟨_,rfl,_,_,({client:=x6,stamp:=x8,group:=x10,epoch:=x12,kind:=x4,block:=x14,data:=x16,old:=x18,new:=x20,next:=xs}:Wsh),0,rfl,hpE,mv,⟨⟨hI6,hI8,hI10,hI12,hI4,hI14,hI18,hI20⟩,_,_,_,_,rfl,hg16.to,hgs.to⟩, .inl ⟨rfl,by rw [parse_some hPX hen (by omega),if_pos (show WishMay ({client:=x6,stamp:=x8,group:=x10,epoch:=x12,kind:=x4,block:=x14,data:=x16,old:=x18,new:=x20,next:=xs}:Wsh) from Decidable.byContradiction fun hm=>by simp [hm] at hc1 hc2 hc3)]⟩⟩
 refine Cd ?_ ?_<;>intro hc4<;>refine so ?_
 refine wl_builtS (ps:= []) (by decide) bld112 rfl rfl ?_
 refine so ?_
 refine Hs 3 hp (h:=fun w29 hp hC29=>so ?_)
 refine wk_postR (rs:= [.cell 2 112, .tmp 3]) (.inl rfl) results165 ⟨_,_,_,rfl,rfl,loadVar_agg ag112 (hp.blkAt (i:=3) rfl).at0 rfl,⟨_,_,rfl,rfl,rfl⟩⟩ ?_
 have hPX:=(show StepP wishP (some l) _ ({client:=x6,stamp:=x8,group:=x10,epoch:=x12,kind:=x4,block:=x14,data:=x16,old:=x18,new:=x20,next:=xs}:Wsh) from StepP.bind hst4 (StepP.bind hst6 (StepP.bind hst8 (StepP.bind hst10 (StepP.bind hst12 (StepP.bind hst14 (StepP.bind hst16 (StepP.bind hst18 (StepP.bind hst20 (StepP.bind (StepP.bind hst22 t0_wParse_ok) (StepP.pure _ _)))))))))))
 have hpE:=hp.tail.tail.tail.tail
 first|(exfalso;omega)|exact ⟨_,rfl,_,_,wish0,_,rfl,hpE,mv,⟨WshI0,none,0,none,0,rfl,gsn,gsn⟩, .inr ⟨by assumption,parse_no hPX hen (by omega),rfl⟩⟩|exact ⟨_,rfl,_,_,wish0,_,rfl,hpE,mv,⟨WshI0,none,0,none,0,rfl,gsn,gsn⟩, .inr ⟨by assumption,by rw [parse_some hPX hen (by omega),if_neg (show ¬WishMay ({client:=x6,stamp:=x8,group:=x10,epoch:=x12,kind:=x4,block:=x14,data:=x16,old:=x18,new:=x20,next:=xs}:Wsh) from fun hm=>by simp [hm] at hc1 hc2 hc4)],rfl⟩⟩
 refine Hs 3 hp (h:=fun w30 hp hC30=>so ?_)
 refine wk_postR (rs:= [.cell 2 112, .tmp 3]) (.inl rfl) results165 ⟨_,_,_,rfl,rfl,loadVar_agg ag112 (hp.blkAt (i:=3) rfl).at0 rfl,⟨_,_,rfl,rfl,rfl⟩⟩ ?_
 have hPX:=(show StepP wishP (some l) _ ({client:=x6,stamp:=x8,group:=x10,epoch:=x12,kind:=x4,block:=x14,data:=x16,old:=x18,new:=x20,next:=xs}:Wsh) from StepP.bind hst4 (StepP.bind hst6 (StepP.bind hst8 (StepP.bind hst10 (StepP.bind hst12 (StepP.bind hst14 (StepP.bind hst16 (StepP.bind hst18 (StepP.bind hst20 (StepP.bind (StepP.bind hst22 t0_wParse_ok) (StepP.pure _ _)))))))))))
 have hpE:=hp.tail.tail.tail.tail
 first|(exfalso;omega)|exact ⟨_,rfl,_,_,({client:=x6,stamp:=x8,group:=x10,epoch:=x12,kind:=x4,block:=x14,data:=x16,old:=x18,new:=x20,next:=xs}:Wsh),0,rfl,hpE,mv,⟨⟨hI6,hI8,hI10,hI12,hI4,hI14,hI18,hI20⟩,_,_,_,_,rfl,hg16.to,hgs.to⟩, .inl ⟨rfl,by rw [parse_some hPX hen (by omega),if_pos (show WishMay ({client:=x6,stamp:=x8,group:=x10,epoch:=x12,kind:=x4,block:=x14,data:=x16,old:=x18,new:=x20,next:=xs}:Wsh) from Decidable.byContradiction fun hm=>by simp [hm] at hc1 hc2 hc4)]⟩⟩
end Go.Proofs.YtmbpneaibmldfaaGreat
