/- What each of these functions computes, for every argument that its theorem names; a part of what the proof of ImageOnce stands on. -/
import Derived.Test.YtmbpneaibmldfaaGreatAac
import Derived.Test.YtmbpneaibmldfaaGreatAad
import Derived.Test.YtmbpneaibmldfaaGreatAaf
import Derived.Test.YtmbpneaibmldfaaGreatAag
import Derived.Test.YtmbpneaibmldfaaGreatAai
import Derived.Test.YtmbpneaibmldfaaGreatAaj
import Derived.Test.YtmbpneaibmldfaaGreatAak
import Derived.Test.YtmbpneaibmldfaaGreatAal
import Derived.Test.YtmbpneaibmldfaaGreatAam
import Derived.Test.YtmbpneaibmldfaaGreatAap
import Derived.Test.YtmbpneaibmldfaaGreatAaq
import Derived.Test.YtmbpneaibmldfaaGreatAar
import Derived.Test.YtmbpneaibmldfaaGreatAas
import Derived.Test.YtmbpneaibmldfaaGreatAat
namespace Go.Proofs.YtmbpneaibmldfaaGreat
open Go.RowKit Go.Eng _root_.Go.Proofs.Tryz Go.Eng _root_.Go.Proofs.Tryz
set_option maxRecDepth 100000
variable {w0 w:World} {M0 Fz:Nat→Prop} {H:List It} {A:Option Addr} {c:Nat}
theorem shaS_len (p:List UInt8) (m:Nat):(shaS p m).length=8:=by
 induction m with
 |zero=>rfl
 |succ m ih=>exact roundV_len ih
def shaV (l:List UInt8):Dig:=⟨outA (shaS (padV l) ((padV l).length/64)) 32,outA_len _ _⟩
end Go.Proofs.YtmbpneaibmldfaaGreat
namespace Go.Proofs.YtmbpneaibmldfaaGreat
open Go.RowKit Go.Eng Go.Eng _root_.Go.Proofs.Tryz
set_option maxRecDepth 100000
variable {w0 w:World} {M0 Fz:Nat→Prop} {H:List It} {A:Option Addr} {c:Nat}
set_option maxHeartbeats 40000000 in
theorem r11Bytes_ok {csx:List Value} {x:Wsh} {Sx:Nat→Prop} (hx:wishR.rd Sx w csx x) (hm:WishMay x):Ret prog 85 #[.agg csx.toArray] w (fun v w'=> ∃A' c',v= .tuple #[.slice A' (wishE x).length c', .int .i64 0]∧OwnB 5 w.heap.size w' A' c' (wishE x)∧Ext w w'):=by
 have qhx:=hx
 obtain ⟨hIx,Ax0,cx0,Ax1,cx1,rfl,hx0,hx1⟩:=hx
 obtain ⟨⟨q0,q1,q2,q3,q4,q5,q6,q7,q8,q9⟩,hwl⟩:=wish_fine hm
 have hnl:isNum (x.next.length:Int):=by have:=q9.1;unfold isNum;omega
 have hokn: ∀y∈x.next,isNum y:=q9.2
 have hn7:=q9.1
 have hwl2:=hwl
 rw [wish_body,List.length_append] at hwl2
 have hwl3:=hwl2
 unfold bodyW at hwl3
 rw [List.length_append] at hwl3
 refine ret_of_wk func85 rfl ntmps85 leB_ ?_
 have hp:=HP.begin_ w
 refine so ?_
 refine Bx hp (h:=fun gs1 w1 hp hE1=>so ?_)
 refine Cx hp (r11Check_ok (w0:=x) (rdTn qhx)) fun w2 hp hE2=>so ?_
 refine Cd ?_ ?_<;>intro hc<;>refine so ?_
 exact absurd (by rw [if_pos hm]) hc
 apply wdL [.eq _,.eq _,SP.gs byteR (fun _=>True) (numE x.kind),.eq _,.eq _,SP.gs byteR (fun _=>True) (numE x.client),.eq _,.eq _,SP.gs byteR (fun _=>True) (numE x.stamp),.eq _,.eq _,SP.gs byteR (fun _=>True) (numE x.group),.eq _,.eq _,SP.gs byteR (fun _=>True) (numE x.epoch),.eq _,.eq _,SP.gs byteR (fun _=>True) (numE x.block),SP.gs (sliceR byteR) (fun _=>True) [numE x.kind,numE x.client,numE x.stamp,numE x.group,numE x.epoch,numE x.block],SP.gs byteR (fun _=>True) (headE x),SP.gs byteR (fun _=>True) (headE x)]
 refine ⟨?_,?_,?_,?_,?_,?_,?_,?_,?_,?_,?_,?_,?_,?_,?_,?_,?_,?_,?_,?_,?_,trivial⟩<;>intro F wF hER hk
 exact Fd_ 4 fld112_4 (hk.pi 1) rfl qz
 exact Hl_ 0 sc3 (hk.pe 0) (hp.ext hER) rfl rfl qz
 have e11:=hk.pe 1
 have hcl:=fun w=>r11NumW_ok (w:=w) (n:=x.kind) q0
 refine Cl_ cl84 (by simp only [evs,ev,e11];first|done|rfl) (hcl _) ?_
 clear hcl
 rintro _ w7 ⟨A7,c7,rfl,ho7,hE7⟩
 exact qz ⟨hE7,_,_,rfl,ho7.bs.mono (fun _ _ _=>trivial)⟩
 exact Fd_ 0 fld112_0 (hk.pi 1) rfl qz
 exact Hl_ 0 sc3 (hk.pe 3) (hp.ext hER) rfl rfl qz
 have e14:=hk.pe 4
 have hcl:=fun w=>r11NumW_ok (w:=w) (n:=x.client) q1
 refine Cl_ cl84 (by simp only [evs,ev,e14];first|done|rfl) (hcl _) ?_
 clear hcl
 rintro _ w7 ⟨A7,c7,rfl,ho7,hE7⟩
 exact qz ⟨hE7,_,_,rfl,ho7.bs.mono (fun _ _ _=>trivial)⟩
 exact Fd_ 1 fld112_1 (hk.pi 1) rfl qz
 exact Hl_ 0 sc3 (hk.pe 6) (hp.ext hER) rfl rfl qz
 have e17:=hk.pe 7
 have hcl:=fun w=>r11NumW_ok (w:=w) (n:=x.stamp) q2
 refine Cl_ cl84 (by simp only [evs,ev,e17];first|done|rfl) (hcl _) ?_
 clear hcl
 rintro _ w7 ⟨A7,c7,rfl,ho7,hE7⟩
 exact qz ⟨hE7,_,_,rfl,ho7.bs.mono (fun _ _ _=>trivial)⟩
 exact Fd_ 2 fld112_2 (hk.pi 1) rfl qz
 exact Hl_ 0 sc3 (hk.pe 9) (hp.ext hER) rfl rfl qz
 have e20:=hk.pe 10
 have hcl:=fun w=>r11NumW_ok (w:=w) (n:=x.group) q3
 refine Cl_ cl84 (by simp only [evs,ev,e20];first|done|rfl) (hcl _) ?_
 clear hcl
 rintro _ w7 ⟨A7,c7,rfl,ho7,hE7⟩
 exact qz ⟨hE7,_,_,rfl,ho7.bs.mono (fun _ _ _=>trivial)⟩
 exact Fd_ 3 fld112_3 (hk.pi 1) rfl qz
 exact Hl_ 0 sc3 (hk.pe 12) (hp.ext hER) rfl rfl qz
 have e23:=hk.pe 13
 have hcl:=fun w=>r11NumW_ok (w:=w) (n:=x.epoch) q4
 refine Cl_ cl84 (by simp only [evs,ev,e23];first|done|rfl) (hcl _) ?_
 clear hcl
 rintro _ w7 ⟨A7,c7,rfl,ho7,hE7⟩
 exact qz ⟨hE7,_,_,rfl,ho7.bs.mono (fun _ _ _=>trivial)⟩
 exact Fd_ 5 fld112_5 (hk.pi 1) rfl qz
 exact Hl_ 0 sc3 (hk.pe 15) (hp.ext hER) rfl rfl qz
 have e26:=hk.pe 16
 have hcl:=fun w=>r11NumW_ok (w:=w) (n:=x.block) q5
 refine Cl_ cl84 (by simp only [evs,ev,e26];first|done|rfl) (hcl _) ?_
 clear hcl
 rintro _ w7 ⟨A7,c7,rfl,ho7,hE7⟩
 exact qz ⟨hE7,_,_,rfl,ho7.bs.mono (fun _ _ _=>trivial)⟩
 obtain ⟨u12,e12,h12⟩:=hk.pp 2
 obtain ⟨A12,c12,rfl,h12⟩:=h12
 obtain ⟨u15,e15,h15⟩:=hk.pp 5
 obtain ⟨A15,c15,rfl,h15⟩:=h15
 obtain ⟨u18,e18,h18⟩:=hk.pp 8
 obtain ⟨A18,c18,rfl,h18⟩:=h18
 obtain ⟨u21,e21,h21⟩:=hk.pp 11
 obtain ⟨A21,c21,rfl,h21⟩:=h21
 obtain ⟨u24,e24,h24⟩:=hk.pp 14
 obtain ⟨A24,c24,rfl,h24⟩:=h24
 obtain ⟨u27,e27,h27⟩:=hk.pp 17
 obtain ⟨A27,c27,rfl,h27⟩:=h27
 refine wl_bsliceS (r:=byteR) (xs:= [.tmp 12, .tmp 15, .tmp 18, .tmp 21, .tmp 24, .tmp 27]) (ls:= [numE x.kind,numE x.client,numE x.stamp,numE x.group,numE x.epoch,numE x.block]) (by decide) sl173 rfl (by simp only [evs,ev,e12,e15,e18,e21,e24,e27];first|done|rfl) rfl (by decide) (SlicesOf.cons h12 (SlicesOf.cons h15 (SlicesOf.cons h18 (SlicesOf.cons h21 (SlicesOf.cons h24 (SlicesOf.cons h27 SlicesOf.nil)))))) ?_
 intro g7 w7 hg7 hE7
 exact qz ⟨hE7,_,_,rfl,hg7⟩
 obtain ⟨u28,e28,h28⟩:=hk.pp 18
 obtain ⟨A28,c28,rfl,h28⟩:=h28
 have hcl:=rjoin_ok h28 (by rw [head_flat];omega)
 refine Cl_ cl137 (by simp only [evs,ev,e28];first|done|rfl) hcl ?_
 clear hcl
 rintro _ w7 ⟨A7,c7,rfl,ho7,hE7⟩
 rw [head_flat] at ho7⊢
 exact qz ⟨hE7,_,_,rfl,ho7.bs.mono (fun _ _ _=>trivial)⟩
 obtain ⟨u29,e29,h29⟩:=hk.pp 19
 obtain ⟨A29,c29,rfl,h29⟩:=h29
 refine wl_assign (by decide) e29 ?_
 exact qz ⟨Chg.refl _ _,_,_,rfl,h29⟩
 intro F w3 hED hini hdo
 have e1:=di hini 1
 obtain ⟨u4,e4,h4⟩:=hdo 20 4 rfl
 obtain ⟨A4,c4,rfl,h4⟩:=h4
 refine wk_drop [(1,_),(4,_)] ⟨e1,e4,trivial⟩ ?_
 clear e1 e4 hini hdo
 replace hp:=hp.ext hED
 refine so ?_
 have hpO:=hp
 have hdat:=(hx0.tn (w':=w3))
 apply wdL [SP.gs byteR (fun _=>True) (headE x),.eq _,.eq _,SP.gs byteR (fun _=>True) (strE x.data),.eq _,.eq _,SP.gs byteR (fun _=>True) (numE x.old),.eq _,.eq _,SP.gs byteR (fun _=>True) (numE x.new),.eq _,.eq _,.eq _,SP.gs byteR (fun _=>True) (numE (x.next.length:Int)),SP.gs (sliceR byteR) (fun _=>True) [headE x,strE x.data,numE x.old,numE x.new,numE (x.next.length:Int)],SP.own 5 1 w3.heap.size (bodyW x).length ((bodyW x).map bv),SP.own 5 1 w3.heap.size (bodyW x).length ((bodyW x).map bv)]
 refine ⟨?_,?_,?_,?_,?_,?_,?_,?_,?_,?_,?_,?_,?_,?_,?_,?_,?_,trivial⟩<;>intro F wF hER hk
 have e4:=hk.qi 4
 refine Mv_ e4 ?_
 exact qz ⟨Chg.refl _ _,_,_,rfl,h4.ext hER⟩
 exact Fd_ 6 fld112_6 (hk.qi 1) rfl qz
 exact Hl_ 0 sc36 (hk.qe 1) (hp.ext hER) rfl rfl qz
 have e32:=hk.qe 2
 have hcl:=r11StrW_ok (hdat.ext hER) (by omega)
 refine Cl_ cl86 (by simp only [evs,ev,e32];first|done|rfl) hcl ?_
 clear hcl
 rintro _ w7 ⟨A7,c7,rfl,ho7,hE7⟩
 exact qz ⟨hE7,_,_,rfl,ho7.bs.mono (fun _ _ _=>trivial)⟩
 exact Fd_ 7 fld112_7 (hk.qi 1) rfl qz
 exact Hl_ 0 sc3 (hk.qe 4) (hp.ext hER) rfl rfl qz
 have e35:=hk.qe 5
 have hcl:=fun w=>r11NumW_ok (w:=w) (n:=x.old) q7
 refine Cl_ cl84 (by simp only [evs,ev,e35];first|done|rfl) (hcl _) ?_
 clear hcl
 rintro _ w7 ⟨A7,c7,rfl,ho7,hE7⟩
 exact qz ⟨hE7,_,_,rfl,ho7.bs.mono (fun _ _ _=>trivial)⟩
 exact Fd_ 8 fld112_8 (hk.qi 1) rfl qz
 exact Hl_ 0 sc3 (hk.qe 7) (hp.ext hER) rfl rfl qz
 have e38:=hk.qe 8
 have hcl:=fun w=>r11NumW_ok (w:=w) (n:=x.new) q8
 refine Cl_ cl84 (by simp only [evs,ev,e38];first|done|rfl) (hcl _) ?_
 clear hcl
 rintro _ w7 ⟨A7,c7,rfl,ho7,hE7⟩
 exact qz ⟨hE7,_,_,rfl,ho7.bs.mono (fun _ _ _=>trivial)⟩
 exact Fd_ 9 fld112_9 (hk.qi 1) rfl qz
 exact Hl_ 0 sc22 (hk.qe 10) (hp.ext hER) rfl rfl qz
 exact Ln_ underlying22 (hk.qe 11) qz
 have e42:=hk.qe 12
 have hcl:=fun w=>r11NumW_ok (w:=w) (n:=(x.next.length:Int)) hnl
 refine Cl_ cl84 (by simp only [evs,ev,e42];first|done|rfl) (hcl _) ?_
 clear hcl
 rintro _ w7 ⟨A7,c7,rfl,ho7,hE7⟩
 exact qz ⟨hE7,_,_,rfl,ho7.bs.mono (fun _ _ _=>trivial)⟩
 obtain ⟨u30,e30,h30⟩:=hk.qp 0
 obtain ⟨A30,c30,rfl,h30⟩:=h30
 obtain ⟨u33,e33,h33⟩:=hk.qp 3
 obtain ⟨A33,c33,rfl,h33⟩:=h33
 obtain ⟨u36,e36,h36⟩:=hk.qp 6
 obtain ⟨A36,c36,rfl,h36⟩:=h36
 obtain ⟨u39,e39,h39⟩:=hk.qp 9
 obtain ⟨A39,c39,rfl,h39⟩:=h39
 obtain ⟨u43,e43,h43⟩:=hk.qp 13
 obtain ⟨A43,c43,rfl,h43⟩:=h43
 refine wl_bsliceS (r:=byteR) (xs:= [.tmp 30, .tmp 33, .tmp 36, .tmp 39, .tmp 43]) (ls:= [headE x,strE x.data,numE x.old,numE x.new,numE (x.next.length:Int)]) (by decide) sl173 rfl (by simp only [evs,ev,e30,e33,e36,e39,e43];first|done|rfl) rfl (by decide) (SlicesOf.cons h30 (SlicesOf.cons h33 (SlicesOf.cons h36 (SlicesOf.cons h39 (SlicesOf.cons h43 SlicesOf.nil))))) ?_
 intro g7 w7 hg7 hE7
 exact qz ⟨hE7,_,_,rfl,hg7⟩
 obtain ⟨u44,e44,h44⟩:=hk.qp 14
 obtain ⟨A44,c44,rfl,h44⟩:=h44
 have hcl:=rjoin_ok h44 (by rw [body_flat];omega)
 refine Cl_ cl137 (by simp only [evs,ev,e44];first|done|rfl) hcl ?_
 clear hcl
 rintro _ w7 ⟨A7,c7,rfl,ho7,hE7⟩
 rw [body_flat] at ho7⊢
 exact qz ⟨hE7,_,_,rfl,ho7.lower hER.size⟩
 obtain ⟨u45,e45,h45⟩:=hk.qp 15
 obtain ⟨A45,c45,rfl,h45⟩:=h45
 refine wl_assign (by decide) e45 ?_
 exact qz ⟨Chg.refl _ _,_,_,rfl,h45⟩
 intro F w4 hED hini hdo
 have e1:=di hini 1
 obtain ⟨u5,e5,h5⟩:=hdo 16 5 rfl
 obtain ⟨A5,c5,rfl,h5⟩:=h5
 refine wk_drop [(1,_),(5,_)] ⟨e1,e5,trivial⟩ ?_
 clear e1 e5 hini hdo
 replace hp:=hp.ext hED
 replace hp:=(HP.ownRow hpO hED h5).as_ (H':=itR 5 1 A5 (bodyW x).length c5 ((bodyW x).map bv)::itB gs1 112 ([iv x.client,iv x.stamp,iv x.group,iv x.epoch,iv x.kind,iv x.block, .slice Ax0 x.data.length cx0,iv x.old,iv x.new, .slice Ax1 x.next.length cx1]):: []) rfl
 refine so ?_
 refine wc_loop (fun L' w' mes => ∃ (k : Nat), ∃ (A2 : Option Addr), ∃ (c2 : Nat), L' = [(1, pt gs1 0), (5, .slice A2 ((bodyW x) ++ flatE numE (x.next.take k)).length c2), (6, iv (k : Int))] ∧ (k ≤ x.next.length) ∧ (GS byteR (fun b => b < w.heap.size) w' Ax0 cx0 x.data) ∧ (GS intR (fun b => b < w.heap.size) w' Ax1 cx1 x.next) ∧ (HP w (fun _ => False) (fun b => b < w.heap.size) w' (itR 5 1 A2 ((bodyW x) ++ flatE numE (x.next.take k)).length c2 (((bodyW x) ++ flatE numE (x.next.take k)).map bv) :: itB gs1 112 ([iv x.client, iv x.stamp, iv x.group, iv x.epoch, iv x.kind, iv x.block, .slice Ax0 x.data.length cx0, iv x.old, iv x.new, .slice Ax1 x.next.length cx1]) :: [])) ∧ x.next.length - k = mes) [(1, pt gs1 0), (5, .slice A5 ((bodyW x) ++ flatE numE (x.next.take 0)).length c5), (6, iv (0 : Int))] (x.next.length - 0) (by
     refine ⟨0,A5,c5,rfl, ?_, ?_, ?_, ?_,rfl⟩
     · exact Nat.zero_le _
     · exact hx0.tn
     · exact hx1.tn
     · rw [List.take_zero,flatE_nil,List.append_nil];exact hp) ⟨rfl,(by rw [List.take_zero,flatE_nil,List.append_nil];rfl),rfl,trivial⟩ ?_
 rintro _ wr _ ⟨k,A2,c2,rfl,hk,hx0,hx1,hp,rfl⟩ KL1 hKL1
 refine so ?_
 refine Cd ?_ ?_<;>intro hlt
 have hk9:k<x.next.length:=by omega
 have hrm:=flat_roomD numE x.next k 0 hk9
 have hko:=getD_ok hokn 0 hk9
 refine so ?_
 obtain ⟨ae3,hAe3,hate3⟩:=GS.elI hx1 k (by omega)
 refine so ?_
 refine Ce ((fun w=>r11NumW_ok (w:=w) (n:=(x.next.getD k 0)) (by first|assumption|(unfold isNum;omega))) _) ?_
 rintro _ w4 ⟨A4,c4,rfl,ho4,hE4⟩
 replace hp:=hp.ext hE4
 refine wl_happendB (i:=0) (l2:=(numE (x.next.getD k 0))) (by decide) sl36 rfl rfl hp rfl ho4.bs (by (try simp only [List.length_append]);omega) ?_
 rintro A5 c5 w5 hp hC5
 refine so ?_
 have hnx:((bodyW x)++flatE numE (x.next.take (k+1)))=(((bodyW x)++flatE numE (x.next.take k))++(numE (x.next.getD k 0))):=by
   rw [flat_takeD numE x.next k 0 hk9]
   simp only [←List.append_assoc]
 refine wk_drop [(1,pt gs1 0),(5, .slice A5 ((bodyW x)++flatE numE (x.next.take (k+1))).length c5),(6,iv ((k+1):Int))] ⟨rfl,(by rw [hnx];rfl),rfl,trivial⟩ (hKL1 _ _ (m2:=x.next.length-(k+1)) ?_ ?_)
 refine ⟨(k+1),A5,c5,rfl,by omega,hx0.to,hx1.to, ?_,rfl⟩
 rw [hnx];exact hp
 omega
 obtain rfl:k=x.next.length:=by omega
 refine so ?_
 refine P2 results85 ?_
 rw [List.take_length,←wish_body] at hp
 exact ⟨_,rfl,A2,c2,by rw [List.take_length,←wish_body],hp.rowLo (i:=0) rfl,hp.chg⟩
set_option maxHeartbeats 40000000 in
theorem iSame1_ok {csa:List Value} {a:Bat} {Sa:Nat→Prop} {csb:List Value} {b:Bat} {Sb:Nat→Prop} (ha:batR.rd Sa w csa a) (hb:batR.rd Sb w csb b):Ret prog 119 #[.agg csa.toArray, .agg csb.toArray] w (fun v w'=>v= .bool (decide (a=b))∧Ext w w'):=by
 obtain ⟨Aa0,ca0,rfl,ha0⟩:=ha
 obtain ⟨Ab0,cb0,rfl,hb0⟩:=hb
 have mha0:=ha0.mx
 have mhb0:=hb0.mx
 refine ret_of_wk func119 rfl ntmps119 leB_ ?_
 have hp:=HP.begin_ w
 replace ha0:=ha0.now
 replace hb0:=hb0.now
 refine go ?_
 refine wl_hbox (by decide) rfl hp ?_
 rintro gs2 w1 hp1 hE1
 have q0:=hE1
 replace hp:=hp1
 replace hp:=hp.ay (itB gs2 89 (digC a.dig++([.slice Aa0 a.wishes.length ca0]))::_)
 refine wl_hbox (by decide) rfl hp ?_
 rintro gs3 w2 hp2 hE2
 replace q0:=q0.trans hE2
 replace hp:=hp2
 replace hp:=hp.ay (itB gs3 89 (digC b.dig++([.slice Ab0 b.wishes.length cb0]))::_)
 refine go ?_
 refine Fd_ 0 fld89_0 rfl rfl ?_
 refine Hx_ (digC a.dig) 1 ag26 rfl hp rfl rfl rfl ?_
 refine Fd_ 0 fld89_0 rfl rfl ?_
 refine Hx_ (digC b.dig) 0 ag26 rfl hp rfl rfl rfl ?_
 refine wl_eqlK (m:=6) (a.dig=b.dig) (by decide) key26 eg26 rfl rfl (digC_fit _) (digC_fit _) digC_inj ?_
 refine go ?_
 refine Gs 10 (fun hg1=> ?_) fun hg1=> ?_
 refine go ?_
 refine Fd_ 32 fld89_1 rfl rfl (go ?_)
 refine Hl_ 1 sc84 rfl hp rfl rfl (go ?_)
 refine Fd_ 32 fld89_1 rfl rfl (go ?_)
 refine Hl_ 0 sc84 rfl hp rfl rfl (go ?_)
 have hcl:=efW_ok (ha0.ext q0) (hb0.ext q0)
 refine Cl_ cl120 rfl hcl ?_
 clear hcl
 rintro _ w3 ⟨rfl,hE3⟩
 replace hp:=hp.ext hE3
 refine go ?_
 refine P1 results119 ?_
 exact ⟨_,rfl,congrArg Value.bool (decide_eq_decide.2 (by rw [Bat_eq];simp_all)),hp.chg⟩
 refine go ?_
 refine P1 results119 ?_
 exact ⟨_,rfl,bool_f (by rw [Bat_eq];simp_all),hp.chg⟩
end Go.Proofs.YtmbpneaibmldfaaGreat
namespace Go.Proofs.YtmbpneaibmldfaaGreat
open Go.RowKit Go.Eng _root_.Go.Proofs.Tryz Go.Eng _root_.Go.Proofs.Tryz
set_option maxRecDepth 100000
variable {w0 w:World} {M0 Fz:Nat→Prop} {H:List It} {A:Option Addr} {c:Nat}
theorem wBatchF_ok {Al:Option Addr} {cl:Nat} {l:List Wsh} {Sl:Nat→Prop} {w:World} (hl:GS wishR Sl w Al cl l):Ret prog 79 #[.slice Al l.length cl] w (fun v w'=> ∃A' c' e,v= .tuple #[.slice A' (wbS l).1.length c', .int .i64 e]∧(e=0↔batchOk l)∧OwnB 5 w.heap.size w' A' c' (wbS l).1∧Ext w w'):=by
 by_cases hm:batchOk l
 ·refine (wBatch_ok hl hm).mono ?_
  rintro _ w' ⟨A',c',rfl,ho,hE⟩
  unfold wbS
  rw [if_pos hm]
  exact ⟨A',c',0,rfl,⟨fun _=>hm,fun _=>rfl⟩,ho,hE⟩
 ·have hs : wbS l = ([], 2) := if_neg hm
  have mx:=hl.mx
  refine ret_of_wk func79 rfl ntmps79 leB_ ?_
  have hp:=HP.begin_ w
  refine so ?_
  refine Cd ?_ ?_<;>intro h4<;>refine so ?_
  ·refine P2 results79 ?_
   rw [hs]
   exact ⟨_,rfl,_,_,_,rfl,⟨fun h=>absurd h (by decide),fun h=>absurd h hm⟩,OwnRow.nil _ _ _ _ _,hp.chg⟩
  refine wl_bsliceI (xs:= [.tmp 14]) (l:= [(l.length:Int)]) (by decide) sl22 rfl rfl rfl leB_ ?_
  intro g9 w1 hb1 E1
  replace hp:=hp.ext E1
  refine Ce (nums_ok (l:= [(l.length:Int)]) hb1 (by intro y hy;rw [List.mem_singleton.1 hy];unfold isNum;omega) leB_) ?_
  rintro _ w2 ⟨A2,c2,rfl,ho2,E2⟩
  have hz:(flatE numE [(l.length:Int)]).length≤8:=by
   rw [flatE_cons,flatE_nil,List.append_nil]
   exact numE_len (by unfold isNum;omega)
  replace hp:=hp.ownRow E2 ho2
  refine so ?_
  refine Lp [4,17,18,19] (fun L' w' mes=> ∃(k:Nat) (A3:Option Addr) (c3:Nat) (out:List UInt8),L'= [(4, .slice A3 out.length c3),(17, .slice Al l.length cl),(18,iv (l.length:Int)),(19,iv (k:Int))]∧k≤l.length∧out.length≤8+k*100∧(∀i,i<k→WishMay (l.getD i wish0))∧HP w (fun _=>False) (fun b=>b<w.heap.size) w' [itR 5 1 A3 out.length c3 (out.map bv)]∧l.length-k=mes) (l.length-0) ⟨0,A2,c2,_,rfl,Nat.zero_le _,hz,fun i h=>absurd h (Nat.not_lt_zero _),hp,rfl⟩ ?_
  rintro _ wr _ ⟨k,A3,c3,out,rfl,hk,hz3,hw,hp,rfl⟩ KL hKL
  refine so ?_
  refine Cd ?_ ?_<;>intro hc
  ·have hk9 : k < l.length := by omega
   obtain ⟨ae,p0,q0,p1,q1,hA,hat,hI,e0,e1⟩:=wishR_el (hl.now.keep hp.chg (fun _ _ _ h=>h)) k hk9
   refine so ?_
   refine Alo hp (h:=fun g w3 hp E3=> ?_)
   refine Hs 0 hp (h:=fun w4 hp C4=>so ?_)
   refine Ce (wBytesF_ok (x:=l.getD k wish0) ⟨hI,_,_,_,_,rfl,e0.to,e1.to⟩) ?_
   rintro _ w5 ⟨A5,c5,e,rfl,he,ho5,E5⟩
   replace hp:=hp.ext E5
   refine so ?_
   refine Cd ?_ ?_<;>intro hn<;>refine so ?_
   ·refine P2 results79 ?_
    rw [hs]
    exact ⟨_,rfl,_,_,_,rfl,⟨fun h=>absurd h hn,fun h=>absurd h hm⟩,OwnRow.nil _ _ _ _ _,hp.chg⟩
   ·have hmx : WishMay (l.getD k wish0) := he.1 (by omega)
    rw [if_pos hmx] at ho5
    have hl5:=wish_len hmx
    rw [if_pos hmx]
    refine Ce (str_ok ho5.bs) ?_
    rintro _ w6 ⟨A6,c6,rfl,ho6,E6⟩
    replace hp:=hp.ext E6
    have hsl:=strS_len (wishE (l.getD k wish0))
    have hs0:(strS (wishE (l.getD k wish0))).2=0:=by unfold strS;rw [if_neg (by omega)]
    refine so ?_
    refine aF ?_ (hb:=by exact decide_eq_false (fun h=>h hs0))
    refine so ?_
    refine Ar1 (l2:=(strS (wishE (l.getD k wish0))).1) hp ho6.bs (by omega) fun A7 c7 w7 hp C7=>so ?_
    refine Kl [4,17,18,19] hKL (l.length-(k+1)) ⟨k+1,A7,c7,_,rfl,hk9,by rw [List.length_append];omega, ?_,hp.tail,rfl⟩ (by omega)
    intro i hi
    by_cases h:i=k
    ·rw [h];exact hmx
    ·exact hw i (by omega)
  exfalso
  refine hm ⟨by omega,fun x hx=> ?_⟩
  obtain ⟨i,hi,rfl⟩:=List.mem_iff_getElem.1 hx
  have:=hw i (by omega)
  rwa [List.getD_eq_getElem?_getD,List.getElem?_eq_getElem hi] at this
end Go.Proofs.YtmbpneaibmldfaaGreat
namespace Go.Proofs.YtmbpneaibmldfaaGreat
open Go.RowKit Go.Eng Go.Eng _root_.Go.Proofs.Tryz
set_option maxRecDepth 100000
variable {w0 w:World} {M0 Fz:Nat→Prop} {H:List It} {A:Option Addr} {c:Nat}
set_option maxHeartbeats 40000000 in
theorem r22Same_ok {csa:List Value} {a:Rpl} {Sa:Nat→Prop} {csb:List Value} {b:Rpl} {Sb:Nat→Prop} (ha:rplR.rd Sa w csa a) (hb:rplR.rd Sb w csb b):Ret prog 20 #[.agg csa.toArray, .agg csb.toArray] w (fun v w'=>v= .bool (decide (a=b))∧Ext w w'):=by
 obtain ⟨hIa,Aa0,ca0,Aa1,ca1,Aa2,ca2,Aa3,ca3,Aa4,ca4,Aa5,ca5,Aa6,ca6,Aa7,ca7,Aa8,ca8,Aa9,ca9,rfl,ha0,ha1,ha2,ha3,ha4,ha5,ha6,ha7,ha8,ha9⟩:=ha
 obtain ⟨hIb,Ab0,cb0,Ab1,cb1,Ab2,cb2,Ab3,cb3,Ab4,cb4,Ab5,cb5,Ab6,cb6,Ab7,cb7,Ab8,cb8,Ab9,cb9,rfl,hb0,hb1,hb2,hb3,hb4,hb5,hb6,hb7,hb8,hb9⟩:=hb
 have mha0:=ha0.mx
 have mha1:=ha1.mx
 have mha2:=ha2.mx
 have mha3:=ha3.mx
 have mha4:=ha4.mx
 have mha5:=ha5.mx
 have mha6:=ha6.mx
 have mha7:=ha7.mx
 have mha8:=ha8.mx
 have mha9:=ha9.mx
 have mhb0:=hb0.mx
 have mhb1:=hb1.mx
 have mhb2:=hb2.mx
 have mhb3:=hb3.mx
 have mhb4:=hb4.mx
 have mhb5:=hb5.mx
 have mhb6:=hb6.mx
 have mhb7:=hb7.mx
 have mhb8:=hb8.mx
 have mhb9:=hb9.mx
 refine ret_of_wk func20 rfl ntmps20 leB_ ?_
 have hp:=HP.begin_ w
 replace ha0:=ha0.now
 replace ha1:=ha1.now
 replace ha2:=ha2.now
 replace ha3:=ha3.now
 replace ha4:=ha4.now
 replace ha5:=ha5.now
 replace ha6:=ha6.now
 replace ha7:=ha7.now
 replace ha8:=ha8.now
 replace ha9:=ha9.now
 replace hb0:=hb0.now
 replace hb1:=hb1.now
 replace hb2:=hb2.now
 replace hb3:=hb3.now
 replace hb4:=hb4.now
 replace hb5:=hb5.now
 replace hb6:=hb6.now
 replace hb7:=hb7.now
 replace hb8:=hb8.now
 replace hb9:=hb9.now
 refine go ?_
 refine wl_hbox (by decide) rfl hp ?_
 rintro gs2 w1 hp1 hE1
 have q0:=hE1
 replace hp:=hp1
 replace hp:=hp.ay (itB gs2 47 ([iv a.group,iv a.epoch,iv a.faults, .slice Aa0 a.nodes.length ca0,iv a.img.view, .bool a.img.active,iv a.img.low.seq]++(digC a.img.low.dig++([.slice Aa1 a.img.own.length ca1, .slice Aa2 a.img.p.length ca2, .slice Aa3 a.img.q.length ca3,iv a.img.ran, .slice Aa4 a.img.done.length ca4, .bool a.img.ended, .slice Aa5 a.img.batches.length ca5, .bool a.left,iv a.change.node,iv a.change.view,iv a.change.low, .slice Aa6 a.change.marks.length ca6, .slice Aa7 a.change.p.length ca7, .slice Aa8 a.change.q.length ca8, .slice Aa9 a.state.length ca9])))::_)
 refine wl_hbox (by decide) rfl hp ?_
 rintro gs3 w2 hp2 hE2
 replace q0:=q0.trans hE2
 replace hp:=hp2
 replace hp:=hp.ay (itB gs3 47 ([iv b.group,iv b.epoch,iv b.faults, .slice Ab0 b.nodes.length cb0,iv b.img.view, .bool b.img.active,iv b.img.low.seq]++(digC b.img.low.dig++([.slice Ab1 b.img.own.length cb1, .slice Ab2 b.img.p.length cb2, .slice Ab3 b.img.q.length cb3,iv b.img.ran, .slice Ab4 b.img.done.length cb4, .bool b.img.ended, .slice Ab5 b.img.batches.length cb5, .bool b.left,iv b.change.node,iv b.change.view,iv b.change.low, .slice Ab6 b.change.marks.length cb6, .slice Ab7 b.change.p.length cb7, .slice Ab8 b.change.q.length cb8, .slice Ab9 b.state.length cb9])))::_)
 refine go ?_
 refine Fd_ 0 fld47_0 rfl rfl ?_
 refine Hl_ 1 sc3 rfl hp rfl rfl ?_
 refine Fd_ 0 fld47_0 rfl rfl ?_
 refine Hl_ 0 sc3 rfl hp rfl rfl ?_
 refine Eq_ rfl rfl (go ?_)
 refine Gs 10 (fun hg1=> ?_) fun hg1=> ?_
 refine go ?_
 refine Fd_ 1 fld47_1 rfl rfl (go ?_)
 refine Hl_ 1 sc3 rfl hp rfl rfl (go ?_)
 refine Fd_ 1 fld47_1 rfl rfl (go ?_)
 refine Hl_ 0 sc3 rfl hp rfl rfl (go ?_)
 refine Eq_ rfl rfl (go ?_)
 refine Gs 17 (fun hg2=> ?_) fun hg2=> ?_
 refine go ?_
 refine Fd_ 2 fld47_2 rfl rfl (go ?_)
 refine Hx_ ([iv a.faults, .slice Aa0 a.nodes.length ca0]) 1 ag24 rfl hp rfl rfl rfl (go ?_)
 refine Fd_ 2 fld47_2 rfl rfl (go ?_)
 refine Hx_ ([iv b.faults, .slice Ab0 b.nodes.length cb0]) 0 ag24 rfl hp rfl rfl rfl (go ?_)
 have hcl:=r08Same_ok ⟨(hIa.crew),_,_,rfl,(ha0.ext q0)⟩ ⟨(hIb.crew),_,_,rfl,(hb0.ext q0)⟩
 refine Cl_ cl59 rfl hcl ?_
 clear hcl
 rintro _ w3 ⟨rfl,hE3⟩
 replace q0:=q0.trans hE3
 replace hp:=hp.ext hE3
 refine go ?_
 refine Gs 24 (fun hg3=> ?_) fun hg3=> ?_
 refine go ?_
 refine Fd_ 4 fld47_3 rfl rfl (go ?_)
 refine Hx_ ([iv a.img.view, .bool a.img.active,iv a.img.low.seq]++(digC a.img.low.dig++([.slice Aa1 a.img.own.length ca1, .slice Aa2 a.img.p.length ca2, .slice Aa3 a.img.q.length ca3,iv a.img.ran, .slice Aa4 a.img.done.length ca4, .bool a.img.ended, .slice Aa5 a.img.batches.length ca5]))) 1 ag45 rfl hp rfl rfl rfl (go ?_)
 refine Fd_ 4 fld47_3 rfl rfl (go ?_)
 refine Hx_ ([iv b.img.view, .bool b.img.active,iv b.img.low.seq]++(digC b.img.low.dig++([.slice Ab1 b.img.own.length cb1, .slice Ab2 b.img.p.length cb2, .slice Ab3 b.img.q.length cb3,iv b.img.ran, .slice Ab4 b.img.done.length cb4, .bool b.img.ended, .slice Ab5 b.img.batches.length cb5]))) 0 ag45 rfl hp rfl rfl rfl (go ?_)
 have hcl:=r18Same_ok ⟨(hIa.img),_,_,_,_,_,_,_,_,_,_,rfl,(ha1.ext q0),(ha2.ext q0),(ha3.ext q0),(ha4.ext q0),(ha5.ext q0)⟩ ⟨(hIb.img),_,_,_,_,_,_,_,_,_,_,rfl,(hb1.ext q0),(hb2.ext q0),(hb3.ext q0),(hb4.ext q0),(hb5.ext q0)⟩
 refine Cl_ cl60 rfl hcl ?_
 clear hcl
 rintro _ w4 ⟨rfl,hE4⟩
 replace q0:=q0.trans hE4
 replace hp:=hp.ext hE4
 refine go ?_
 refine Gs 31 (fun hg4=> ?_) fun hg4=> ?_
 refine go ?_
 refine Fd_ 46 fld47_4 rfl rfl (go ?_)
 refine Hl_ 1 sc4 rfl hp rfl rfl (go ?_)
 refine Fd_ 46 fld47_4 rfl rfl (go ?_)
 refine Hl_ 0 sc4 rfl hp rfl rfl (go ?_)
 refine wl_eqlb (by decide) bo4 rfl rfl ?_
 refine go ?_
 refine Gs 38 (fun hg5=> ?_) fun hg5=> ?_
 refine go ?_
 refine Fd_ 47 fld47_5 rfl rfl (go ?_)
 refine Hx_ ([iv a.change.node,iv a.change.view,iv a.change.low, .slice Aa6 a.change.marks.length ca6, .slice Aa7 a.change.p.length ca7, .slice Aa8 a.change.q.length ca8]) 1 ag35 rfl hp rfl rfl rfl (go ?_)
 refine Fd_ 47 fld47_5 rfl rfl (go ?_)
 refine Hx_ ([iv b.change.node,iv b.change.view,iv b.change.low, .slice Ab6 b.change.marks.length cb6, .slice Ab7 b.change.p.length cb7, .slice Ab8 b.change.q.length cb8]) 0 ag35 rfl hp rfl rfl rfl (go ?_)
 have hcl:=r12SameChange_ok ⟨(hIa.change),_,_,_,_,_,_,rfl,(ha6.ext q0),(ha7.ext q0),(ha8.ext q0)⟩ ⟨(hIb.change),_,_,_,_,_,_,rfl,(hb6.ext q0),(hb7.ext q0),(hb8.ext q0)⟩
 refine Cl_ cl47 rfl hcl ?_
 clear hcl
 rintro _ w5 ⟨rfl,hE5⟩
 replace q0:=q0.trans hE5
 replace hp:=hp.ext hE5
 refine go ?_
 refine Gs 45 (fun hg6=> ?_) fun hg6=> ?_
 refine go ?_
 refine Fd_ 53 fld47_6 rfl rfl (go ?_)
 refine Hl_ 1 sc36 rfl hp rfl rfl (go ?_)
 refine Fd_ 53 fld47_6 rfl rfl (go ?_)
 refine Hl_ 0 sc36 rfl hp rfl rfl (go ?_)
 have hcl:=eqBytes_ok (ha9.ext q0) (hb9.ext q0)
 refine Cl_ cl13 rfl hcl ?_
 clear hcl
 rintro _ w6 ⟨rfl,hE6⟩
 replace hp:=hp.ext hE6
 refine go ?_
 refine P1 results20 ?_
 exact ⟨_,rfl,congrArg Value.bool (decide_eq_decide.2 (by rw [Rpl_eq];simp_all [Rpl.crew,Crw.mk.injEq])),hp.chg⟩
 refine go ?_
 refine P1 results20 ?_
 exact ⟨_,rfl,bool_f (by rw [Rpl_eq];simp_all [Rpl.crew,Crw.mk.injEq]),hp.chg⟩
 refine go ?_
 refine P1 results20 ?_
 exact ⟨_,rfl,bool_f (by rw [Rpl_eq];simp_all [Rpl.crew,Crw.mk.injEq]),hp.chg⟩
 refine go ?_
 refine P1 results20 ?_
 exact ⟨_,rfl,bool_f (by rw [Rpl_eq];simp_all [Rpl.crew,Crw.mk.injEq]),hp.chg⟩
 refine go ?_
 refine P1 results20 ?_
 exact ⟨_,rfl,bool_f (by rw [Rpl_eq];simp_all [Rpl.crew,Crw.mk.injEq]),hp.chg⟩
 refine go ?_
 refine P1 results20 ?_
 exact ⟨_,rfl,bool_f (by rw [Rpl_eq];simp_all),hp.chg⟩
 refine go ?_
 refine P1 results20 ?_
 exact ⟨_,rfl,bool_f (by rw [Rpl_eq];simp_all),hp.chg⟩
set_option maxHeartbeats 40000000 in
theorem nBatch_ok {gr:Nat} {l:List UInt8} {bad:Bool} {X:List Value→It} {pX:Addr} (hp:HP w0 M0 Fz w (itB gr 223 [.slice A l.length c, .bool bad]::X ([.slice none 0 0])::H)) (hS:Slot X pX 1) (hl:GS byteR Fz w A c l):Ret prog 247 #[.pointer (some ⟨gr,0,none⟩), .pointer (some pX)] w (RdP 223 gr w0 M0 Fz w H X (sliceR wishR) batchP bad l):=by
 refine ret_of_wk func247 rfl ntmps247 leB_ ?_
 refine so ?_
 refine Alo hp (h:=fun gs4 w1 hp hE1=>so ?_)
 replace hp:=((hp.up 0 rfl).up 1 rfl).as_ (H':=itB gr 223 [.slice A l.length c, .bool bad]::itB gs4 36 ([s0])::X ([s0])::H) rfl
 refine Ce (nStr_ok (X:=(fun cs=>itB gs4 36 (([])++(cs++([]))))) (pX:=⟨gs4,0,none⟩) (most:=65536) hp (Slot.blk ([]) ([])) hl.to) ?_
 rintro _ w2 ⟨F2,A2,c2,l2,b2,cs2,x2,hp,hF2,hl2,hrd2,hst2⟩
 obtain ⟨B2,d2,rfl,hg2⟩:=hrd2
 refine so ?_
 refine Ce (wUnb_ok hp hg2) ?_
 rintro _ w3 ⟨F3,A3,c3,x3,e3,rfl,hp,hF3,hg3,hu3⟩
 refine so ?_
 refine Gs 19 ?_ ?_<;>intro hg1<;>refine so ?_
 refine H1 0 hp (h:=fun w4 hp hC4=>so ?_)
 refine aF (so ?_)
 refine wk_post0 (.inr rfl) results247 ?_
 exact ⟨_,rfl,_,A2,c2,l2,true,_, [],(((hp.up 1 rfl).tail.up 1 rfl).up 1 rfl),mv,hl2.to,sliceR_mk (GS.nil _ _ _ none 0),step_batch hst2 hu3 (by first|(simp_all;done)|rfl) (fun h=>by first|rfl|(simp_all;done))⟩
 refine H1 0 hp (h:=fun w5 hp hC5=>so ?_)
 refine Cd ?_ ?_<;>intro hc2<;>refine so ?_
 refine wl_sstore1 0 (i:=2) hS (by rw [add_zero'];rfl) rfl hp rfl rfl sz84 (by decide) rfl ?_
 rintro w6 hp hC6
 refine so ?_
 refine wk_post0 (.inr rfl) results247 ?_
 exact ⟨_,rfl,_,A2,c2,l2,(decide (e3≠0)),_,x3,(((hp.up 1 rfl).tail.up 1 rfl).up 1 rfl),mv,hl2.to,sliceR_mk hg3.to,step_batch hst2 hu3 (by first|(simp_all;done)|rfl) (fun h=>by first|rfl|(simp_all;done))⟩
 refine wk_post0 (.inr rfl) results247 ?_
 exact ⟨_,rfl,_,A2,c2,l2,(decide (e3≠0)),_, [],(((hp.up 1 rfl).tail.up 1 rfl).up 1 rfl),mv,hl2.to,sliceR_mk (GS.nil _ _ _ none 0),step_batch hst2 hu3 (by first|(simp_all;done)|rfl) (fun h=>by first|rfl|(simp_all;done))⟩
set_option maxHeartbeats 40000000 in
theorem rShow1_ok {gr:Nat} {l:List UInt8} {bad:Bool} {X:List Value→It} {pX pc:Addr} (hp:HP w0 M0 Fz w (itB gr 223 [.slice A l.length c, .bool bad]::X ([.int .i64 0, .int .i64 0, .int .i64 0, .slice none 0 0, .slice none 0 0, .slice none 0 0])::H)) (hS:Slot X pX 6) (hl:GS byteR Fz w A c l) (hcap:AtF Fz w pc [.iface 221 (.pointer (some ⟨gr,0,none⟩))]):Ret prog 191 #[.pointer (some pX), .pointer (some pc)] w (RdP 223 gr w0 M0 Fz w H X changeR changeP bad l):=by
 refine ret_of_wk func191 rfl ntmps191 leB_ ?_
 refine so ?_
 refine Ce (rChange_ok (X:=X) (pX:=pX) hp hS hl) ?_
 rintro _ w1 ⟨F1,A1,c1,l1,b1,cs1,x1,hp,hF1,hl1,hrd1,hst1⟩
 obtain ⟨hI1,A1_0,c1_0,A1_1,c1_1,A1_2,c1_2,rfl,hr1_0,hr1_1,hr1_2⟩:=hrd1
 replace hp:=(hp.ay (itB gr 223 ([.slice A1 l1.length c1, .bool b1])::X ([iv x1.node,iv x1.view,iv x1.low, .slice A1_0 x1.marks.length c1_0, .slice A1_1 x1.p.length c1_1, .slice A1_2 x1.q.length c1_2])::H))
 refine so ?_
 refine wk_post0 (.inr rfl) results191 ?_
 exact ⟨_,rfl,_,A1,c1,l1,b1,_,x1,((hp.up 1 rfl).up 1 rfl),mv,hl1,⟨hI1,_,_,_,_,_,_,rfl,hr1_0,hr1_1,hr1_2⟩,hst1⟩
set_option maxHeartbeats 40000000 in
theorem nChgB_ok {csx:List Value} {x:Chn} {Sx:Nat→Prop} (hx:changeR.rd Sx w csx x):Ret prog 34 #[.agg csx.toArray] w (fun v w'=> ∃A' c',v= .tuple #[.slice A' (chgS x).1.length c', .int .i64 (chgS x).2]∧OwnB 5 w.heap.size w' A' c' (chgS x).1∧Ext w w'):=by
 obtain ⟨hIx,Ax0,cx0,Ax1,cx1,Ax2,cx2,rfl,hx0,hx1,hx2⟩:=hx
 have mhx0:=hx0.mx
 have mhx1:=hx1.mx
 have mhx2:=hx2.mx
 refine ret_of_wk func34 rfl ntmps34 leB_ ?_
 have hp:=HP.begin_ w
 replace hx0:=hx0.now
 replace hx1:=hx1.now
 replace hx2:=hx2.now
 refine go ?_
 refine wl_hbox (by decide) rfl hp ?_
 rintro gs1 w1 hp1 hE1
 have q0:=hE1
 replace hp:=hp1
 replace hp:=hp.ay (itB gs1 35 ([iv x.node,iv x.view,iv x.low, .slice Ax0 x.marks.length cx0, .slice Ax1 x.p.length cx1, .slice Ax2 x.q.length cx2])::_)
 refine go ?_
 refine Hx_ ([iv x.node,iv x.view,iv x.low, .slice Ax0 x.marks.length cx0, .slice Ax1 x.p.length cx1, .slice Ax2 x.q.length cx2]) 0 ag35 rfl hp rfl rfl rfl ?_
 have hcl:=nChangeMay_ok ⟨hIx,_,_,_,_,_,_,rfl,(hx0.ext q0),(hx1.ext q0),(hx2.ext q0)⟩
 refine Cl_ cl80 rfl hcl ?_
 clear hcl
 rintro _ w2 ⟨rfl,hE2⟩
 replace q0:=q0.trans hE2
 replace hp:=hp.ext hE2
 first|refine Nd_ rfl ?_|refine Nn_ rfl ?_
 have hbk:=hp.blkAt (i:=0) rfl
 obtain ⟨Fz3,hp3,hs3,hat3⟩:=(hp.as_ (H':=itB gs1 35 ([iv x.node,iv x.view,iv x.low, .slice Ax0 x.marks.length cx0, .slice Ax1 x.p.length cx1, .slice Ax2 x.q.length cx2])::_) rfl).frzBlk
 have hmb:=MutF.of hbk hat3 rfl
 replace hp:=hp3
 have q1:=hx0.tk.ext q0
 replace q1:=q1.wid hs3
 refine go ?_
 refine Cd (fun hm=> ?_) fun hm=> ?_
 have hsn:chgS x=([],2):=if_neg (by simpa using hm)
 refine go ?_
 refine P2 results34 ?_
 rw [hsn]
 exact ⟨_,rfl,_,_,rfl,OwnRow.nil _ _ _ _ _,hp.chg⟩
 have hmm:ChangeMay x:=by simpa using hm
 have hsn:chgS x=(changeE x,0):=if_pos hmm
 have hok:=change_fine hmm
 have hlen0:=changeE_len hok
 refine go ?_
 refine wl_builtS (ps:= []) (by decide) bld132 rfl rfl ?_
 refine wl_hbox (by decide) rfl hp ?_
 rintro gs9 w4 hp4 hE4
 replace q1:=q1.ext hE4
 have q2:=hE4
 replace hp:=hp4
 refine go ?_
 replace hp:=(hp.noRow 5 1).as_ (H':=itR 5 1 none ([]:List UInt8).length 0 (([]:List UInt8).map bv)::_:: []) rfl
 replace hp:=(HP.comm [itR 5 1 none ([]:List UInt8).length 0 (([]:List UInt8).map bv)] [_] ([]) hp).as_ (H':=itB gs9 132 [.slice none ([]:List UInt8).length 0]::itR 5 1 none ([]:List UInt8).length 0 (([]:List UInt8).map bv):: []) rfl
 refine go ?_
 refine wl_iface (by decide) (by kernel_rfl) rfl ?_
 have hcl:=gChange_ok hp (hat3.ext q2) ⟨hIx,_,_,_,_,_,_,rfl,(hx0.fr q1),(hx1.fr q1),(hx2.fr q1)⟩ hok (by show (0:Nat)+_≤_;omega)
 refine Cl_ cl81 rfl hcl ?_
 clear hcl
 rintro _ w5 ⟨A5,c5,hp5,hF5⟩
 replace hp:=(hp5.ay (itB gs9 132 [.slice A5 (([]:List UInt8)++changeE x).length c5]::itR 5 1 A5 (([]:List UInt8)++changeE x).length c5 ((([]:List UInt8)++changeE x).map bv):: []))
 refine go ?_
 refine Fd_ 0 fld132_0 rfl rfl ?_
 refine Hl_ 0 sc36 rfl hp rfl rfl (go ?_)
 refine P2 results34 ?_
 rw [hsn]
 exact ⟨_,rfl,_,_,rfl,hp.rowLo (i:=1) rfl,hp.chg⟩
end Go.Proofs.YtmbpneaibmldfaaGreat
namespace Go.Proofs.YtmbpneaibmldfaaGreat
open Go.RowKit Go.Eng _root_.Go.Proofs.Tryz Go.Eng _root_.Go.Proofs.Tryz
set_option maxRecDepth 100000
variable {w0 w:World} {M0 Fz:Nat→Prop} {H:List It} {A:Option Addr} {c:Nat}
set_option maxHeartbeats 1000000 in
theorem tBatch_ok {w0 w:World} {M0 Fz:Nat→Prop} {H:List It} {A:Option Addr} {c:Nat} {gt:Nat} {l:List UInt8} {bad:Bool} (hp:HP w0 M0 Fz w (itB gt 94 [.slice A l.length c, .bool bad]::H)) (hl:GS byteR Fz w A c l):Ret prog 105 #[pt gt 0] w (TkP gt w0 M0 Fz w H aggV batR batP bad l):=by
 refine ret_of_wk func105 rfl ntmps105 leB_ ?_
 refine so ?_
 refine Alo hp (h:=fun g2 w1 hp E1=> ?_)
 replace hp:=hp.swp.as_ (H':=itB gt 94 [.slice A l.length c, .bool bad]::itB g2 89 (digC dig0++ [.slice none 0 0])::H) rfl
 refine so ?_
 refine Ce (tDig_ok hp (hl.ext E1)) ?_
 rintro _ w2 ⟨F2,A2,c2,l2,b2,cs,x,rfl,hp,F3,hg,rfl,hs⟩
 refine so ?_
 refine Alo hp (h:=fun g3 w3 hp E3=> ?_)
 refine Hs 0 hp (h:=fun w4 hp C4=> ?_)
 obtain ⟨F5,hp,s5,hat⟩:=hp.frzBlk
 have f15:Frz F2 F5 w2 w4:=mv
 have hg4:GS byteR F5 w4 A2 c2 l2:=hg.to
 refine so ?_
 refine Ce (tStr_ok (most:=65536) (by decide) hp hg4) ?_
 rintro _ w5 ⟨F6,A6,c6,l6,b6,B6,d6,s,rfl,hp,F56,hg6,hs6,_,_,hst⟩
 refine so ?_
 refine Ce (wUnb_ok hp hs6) ?_
 rintro _ w7 ⟨F7,A7,c7,xs,e,rfl,hp,F67,hw,hu⟩
 have hg7:=hg6.to F67
 have hat7:AtF F7 w7 ⟨g3,0,none⟩ (digC x):=(hat.to F56).to F67
 have hsb:=step_batch (x:=xs) hst hu rfl (fun _=>rfl)
 refine so ?_
 cases b6
 ·refine so ?_
  refine H1 0 hp (h:=fun w8 hp C8=>so ?_)
  refine wl_builtS (ps:= [(0, .tmp 25),(1, .tmp 26)]) (by decide) bld89 rfl rfl ?_
  refine Hs 1 hp (h:=fun w9 hp C9=>so ?_)
  refine wk_postR (rs:= [.cell 2 89]) (.inl rfl) results105 ⟨_,_,_,rfl,rfl,loadVar_agg ag89 (hp.blkAt (i:=1) rfl).at0 rfl,rfl⟩ ?_
  exact ⟨_,rfl,F7,A6,c6,l6,_,_,⟨x,xs⟩,rfl,hp.swp.tail,mv,hg7.to,⟨_,_,rfl,hw.to⟩,hs.bind (hsb.bind (StepP.pure _ _))⟩
 ·refine so ?_
  refine H1 0 hp (h:=fun w8 hp C8=>so ?_)
  refine wl_builtS (ps:= [(0, .tmp 25),(1, .tmp 26)]) (by decide) bld89 rfl rfl ?_
  refine Hs 1 hp (h:=fun w9 hp C9=>so ?_)
  refine wk_postR (rs:= [.cell 2 89]) (.inl rfl) results105 ⟨_,_,_,rfl,rfl,loadVar_agg ag89 (hp.blkAt (i:=1) rfl).at0 rfl,rfl⟩ ?_
  exact ⟨_,rfl,F7,A6,c6,l6,_,_,⟨x,xs⟩,rfl,hp.swp.tail,mv,hg7.to,⟨_,_,rfl,hw.to⟩,hs.bind (hsb.bind (StepP.pure _ _))⟩
end Go.Proofs.YtmbpneaibmldfaaGreat
