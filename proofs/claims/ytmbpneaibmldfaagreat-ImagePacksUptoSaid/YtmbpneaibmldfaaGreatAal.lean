/- What each of these functions computes, for every argument that its theorem names; a part of what the proof of ImageOnce stands on. -/
import Derived.Test.YtmbpneaibmldfaaGreatAac
import Derived.Test.YtmbpneaibmldfaaGreatAad
import Derived.Test.YtmbpneaibmldfaaGreatAaf
import Derived.Test.YtmbpneaibmldfaaGreatAag
import Derived.Test.YtmbpneaibmldfaaGreatAah
import Derived.Test.YtmbpneaibmldfaaGreatAai
import Derived.Test.YtmbpneaibmldfaaGreatAaj
namespace Go.Proofs.YtmbpneaibmldfaaGreat
open Go.RowKit Go.Eng Go.Eng _root_.Go.Proofs.Tryz
set_option maxRecDepth 100000
variable {w0 w:World} {M0 Fz:Nat→Prop} {H:List It} {A:Option Addr} {c:Nat}
theorem changeR_el {S:Nat→Prop} {w:World} {A:Option Addr} {c:Nat} {l:List Chn} (h:GS changeR S w A c l) (i:Nat) (hi:i<l.length): ∃a A0 c0 A1 c1 A2 c2,A=some a∧AtF S w (a.add (i*6)) ([.int .i64 (l.getD i change0).node, .int .i64 (l.getD i change0).view, .int .i64 (l.getD i change0).low, .slice A0 (l.getD i change0).marks.length c0, .slice A1 (l.getD i change0).p.length c1, .slice A2 (l.getD i change0).q.length c2])∧ChnI (l.getD i change0)∧GS markR S w A0 c0 (l.getD i change0).marks∧GS standR S w A1 c1 (l.getD i change0).p∧GS standR S w A2 c2 (l.getD i change0).q:=by
 obtain ⟨a,cs,h1,h2,hI,A0,c0,A1,c1,A2,c2,rfl,k0,k1,k2⟩:=GS.el h i hi
 have e:(l.getD i change0)=l[i]:=by rw [List.getD_eq_getElem?_getD,List.getElem?_eq_getElem hi];rfl
 rw [e]
 exact ⟨a,_,_,_,_,_,_,h1,h2,hI,k0,k1,k2⟩
theorem pickR_el {S:Nat→Prop} {w:World} {A:Option Addr} {c:Nat} {l:List Pck} (h:GS pickR S w A c l) (i:Nat) (hi:i<l.length): ∃a A0 c0,A=some a∧AtF S w (a.add (i*34)) ([.int .i64 (l.getD i pick0).seq]++(digC (l.getD i pick0).dig++([.slice A0 (l.getD i pick0).batch.length c0])))∧PckI (l.getD i pick0)∧GS wishR S w A0 c0 (l.getD i pick0).batch:=by
 obtain ⟨a,cs,h1,h2,hI,A0,c0,rfl,k0⟩:=GS.el h i hi
 have e:(l.getD i pick0)=l[i]:=by rw [List.getD_eq_getElem?_getD,List.getElem?_eq_getElem hi];rfl
 rw [e]
 exact ⟨a,_,_,h1,h2,hI,k0⟩
theorem batR_el {S:Nat→Prop} {w:World} {A:Option Addr} {c:Nat} {l:List Bat} (h:GS batR S w A c l) (i:Nat) (hi:i<l.length): ∃a A0 c0,A=some a∧AtF S w (a.add (i*33)) (digC (l.getD i bat0).dig++([.slice A0 (l.getD i bat0).wishes.length c0]))∧GS wishR S w A0 c0 (l.getD i bat0).wishes:=by
 obtain ⟨a,cs,h1,h2,A0,c0,rfl,k0⟩:=GS.el h i hi
 have e:(l.getD i bat0)=l[i]:=by rw [List.getD_eq_getElem?_getD,List.getElem?_eq_getElem hi];rfl
 rw [e]
 exact ⟨a,_,_,h1,h2,k0⟩
theorem RplI0:RplI rpl0:=by unfold RplI i64;decide
theorem RplI.img {r:Rpl} (h:RplI r):ImgI r.img:=by unfold RplI i64 at h;unfold ImgI i64;omega
theorem RplI.change {r:Rpl} (h:RplI r):ChnI r.change:=by unfold RplI i64 at h;unfold ChnI i64;omega
end Go.Proofs.YtmbpneaibmldfaaGreat
namespace Go.Proofs.YtmbpneaibmldfaaGreat
open Go.RowKit Go.Eng _root_.Go.Proofs.Tryz Go.Eng _root_.Go.Proofs.Tryz
set_option maxRecDepth 100000
variable {w0 w:World} {M0 Fz:Nat→Prop} {H:List It} {A:Option Addr} {c:Nat}
theorem schB_len (l:List Int) (h:l.length=64) (k:Nat):(schB l k).length=64:=by
 induction k with
 |zero=>exact h
 |succ k ih=>rw [schB,List.length_set,ih]
def rndA (S W : List Int) : Nat → List Int
 |0=>S
 |t+1=>rStep (rndA S W t) (rootsL.getD t 0) (W.getD t 0)
theorem padded_ok {w:World} {A:Option Addr} {c:Nat} {l:List UInt8} {Sa:Nat→Prop} (h:BS Sa w A c l) (hz:l.length≤65536):Ret prog 181 #[.slice A l.length c] w (fun v w'=> ∃A' c',v= .slice A' (padV l).length c'∧OwnB 5 w.heap.size w' A' c' (padV l)∧Ext w w'):=by
 refine ret_of_wk func181 rfl ntmps181 leB_ ?_
 have hp:=HP.begin_ w
 refine so ?_
 refine Ce (copyBytes_ok h) ?_
 rintro _ w1 ⟨A1,c1,rfl,ho1,hE1⟩
 replace hp:=hp.ownRow hE1 ho1
 refine so ?_
 refine wl_bsliceB (bs:= [128]) (xs:= [.const (.int .u8 128)]) (by decide) sl36 rfl rfl rfl leB_ w1.heap.size (Nat.le_refl _) ?_
 intro g2 w2 hg2 ho2 hE2
 refine wl_happendB (l2:= [128]) (i:=0) (by decide) sl36 rfl rfl (hp.ext hE2) rfl ho2.bs (by simp;omega) ?_
 intro A3 c3 w3 hp C3
 replace hp:=hp.as_ (H':= [itR 5 1 A3 ((l++ [128])++List.replicate 0 0).length c3 (((l++ [128])++List.replicate 0 0).map bv)]) (by rw [List.replicate_zero,List.append_nil];rfl)
 rw [show (l++ [(128:UInt8)]).length=((l++ [128])++List.replicate 0 0).length from by simp]
 refine so ?_
 refine Lp [0,3] (fun L' w' mes=> ∃(j:Nat) (A4:Option Addr) (c4:Nat),L'= [(0, .slice A l.length c),(3, .slice A4 ((l++ [128])++List.replicate j 0).length c4)]∧j≤padZ l.length∧HP w (fun _=>False) (fun b=>b<w.heap.size) w' [itR 5 1 A4 ((l++ [128])++List.replicate j 0).length c4 (((l++ [128])++List.replicate j 0).map bv)]∧mes=padZ l.length-j) (padZ l.length) ⟨0,A3,c3,rfl,Nat.zero_le _,hp,rfl⟩ ?_ (by rfl)
 rintro _ wr _ ⟨j,A4,c4,rfl,hj,hp,rfl⟩ KL hKL
 have hle:((l++ [128])++List.replicate j (0:UInt8)).length=l.length+1+j:=by simp;omega
 have hZ:padZ l.length=(119-l.length%64)%64:=rfl
 refine so ?_
 refine wl_rem (z:=(((((l++ [128])++List.replicate j (0:UInt8)).length%64:Nat)):Int)) (by decide) rfl rfl (by decide) (Int.ofNat_tmod _ _).symm ?_
 refine so ?_
 refine Cd ?_ ?_<;>intro hc
 ·have hjZ : j < padZ l.length := by
   rw [hle] at hc
   omega
  refine so ?_
  refine wl_bsliceB (bs:= [0]) (xs:= [.const (.int .u8 0)]) (by decide) sl36 rfl rfl rfl leB_ wr.heap.size (Nat.le_refl _) ?_
  intro g2 w2 hg2 ho2 hE2
  refine wl_happendB (l2:= [0]) (i:=0) (by decide) sl36 rfl rfl (hp.ext hE2) rfl ho2.bs (by rw [hle];simp;omega) ?_
  intro A5 c5 w5 hp C5
  have e:((l++ [128])++List.replicate j (0:UInt8))++ [0]=(l++ [128])++List.replicate (j+1) 0:=by rw [List.append_assoc,←List.replicate_succ']
  rw [e] at hp⊢
  refine so ?_
  exact Kl [0,3] hKL (padZ l.length-(j+1)) ⟨j+1,A5,c5,rfl,by omega,hp,rfl⟩ (by omega)
 obtain rfl:j=padZ l.length:=by
  rw [hle] at hc
  omega
 refine so ?_
 refine wl_conv (k1:= .i64) (k2:= .u64) (by decide) (by kernel_rfl) (by kernel_rfl) rfl rfl ?_
 refine wl_mul (z:=bitsL l.length) (by decide) rfl rfl rfl ?_
 generalize hb:bitsL l.length=bits
 generalize hq:(l++ [128])++List.replicate (padZ l.length) (0:UInt8)=q at hp hle
 replace hp:=hp.as_ (H':= [itR 5 1 A4 (q++tailB bits 0).length c4 ((q++tailB bits 0).map bv)]) (by rw [tailB,List.append_nil])
 rw [show q.length=(q++tailB bits 0).length from by rw [tailB,List.append_nil]]
 refine so ?_
 refine Lp [3,4,5] (fun L' w' mes=> ∃(j:Nat) (A4:Option Addr) (c4:Nat),L'= [(3, .slice A4 (q++tailB bits j).length c4),(4, .int .u64 bits),(5,iv (7-(j:Int)))]∧j≤8∧HP w (fun _=>False) (fun b=>b<w.heap.size) w' [itR 5 1 A4 (q++tailB bits j).length c4 ((q++tailB bits j).map bv)]∧mes=8-j) 8 ⟨0,A4,c4,rfl,Nat.zero_le _,hp,rfl⟩ ?_ (by rfl)
 clear hp
 rintro _ wr2 _ ⟨j,A4,c4,rfl,hj8,hp,rfl⟩ KL hKL
 refine so ?_
 refine Cd ?_ ?_<;>intro hc
 ·have hj7 : j ≤ 7 := by omega
  refine so ?_
  refine wl_mul (by decide) rfl rfl (idN (k:=8*(7-j)) (by omega) (by omega)) ?_
  refine wl_shr (by decide) rfl rfl (by omega) rfl ?_
  refine wl_conv (k1:= .u64) (k2:= .u8) (by decide) (by kernel_rfl) (by kernel_rfl) rfl (wrap_u8 _) ?_
  refine wl_bsliceB (bs:= [lenB bits (7-j)]) (xs:= [.tmp 30]) (by decide) sl36 rfl rfl rfl leB_ wr2.heap.size (Nat.le_refl _) ?_
  intro g2 w2 hg2 ho2 hE2
  refine wl_happendB (l2:= [lenB bits (7-j)]) (i:=0) (by decide) sl36 rfl rfl (hp.ext hE2) rfl ho2.bs (by rw [List.length_append,tailB_len,hle];simp;omega) ?_
  intro A5 c5 w5 hp C5
  have e:(q++tailB bits j)++ [lenB bits (7-j)]=q++tailB bits (j+1):=by rw [tailB,List.append_assoc]
  rw [e] at hp⊢
  refine so ?_
  exact Kl [3,4,5] hKL (8-(j+1)) ⟨j+1,A5,c5,congrArg (fun z:Int=> [(3,Value.slice A5 (q++tailB bits (j+1)).length c5),(4,Value.int .u64 bits),(5,iv z)]) (show 7-(j:Int)-1=7-((j+1:Nat):Int) by omega),by omega,hp,rfl⟩ (by omega)
 obtain rfl:j=8:=by omega
 have hP:q++tailB bits 8=padV l:=by rw [←hq,←hb];rfl
 rw [hP] at hp⊢
 refine so ?_
 refine Pt ?_
 exact ⟨_,rfl,_,_,rfl,hp.rowLo (i:=0) rfl,hp.chg⟩
end Go.Proofs.YtmbpneaibmldfaaGreat
namespace Go.Proofs.YtmbpneaibmldfaaGreat
open Go.RowKit Go.Eng Go.Eng _root_.Go.Proofs.Tryz
set_option maxRecDepth 100000
variable {w0 w:World} {M0 Fz:Nat→Prop} {H:List It} {A:Option Addr} {c:Nat}
set_option maxHeartbeats 40000000 in
theorem sameStands_ok {Aa:Option Addr} {ca:Nat} {a:List Stn} {Sa:Nat→Prop} {Ab:Option Addr} {cb:Nat} {b:List Stn} {Sb:Nat→Prop} (ha:GS standR Sa w Aa ca a) (hb:GS standR Sb w Ab cb b):Ret prog 97 #[.slice Aa a.length ca, .slice Ab b.length cb] w (fun v w'=>v= .bool (decide (a=b))∧Ext w w'):=by
 have mha:=ha.mx
 have mhb:=hb.mx
 refine ret_of_wk func97 rfl ntmps97 leB_ ?_
 refine so ?_
 refine Cd ?_ ?_<;>intro hne
 refine so ?_
 refine Pt ?_
 exact ⟨_,rfl,bool_f (fun e=>hne (by rw [e])),me⟩
 have hll:a.length=b.length:=by omega
 refine so ?_
 refine Lp [0, 1, 5] (fun L' w' mes => ∃ (k : Nat), L' = [(0, .slice Aa a.length ca), (1, .slice Ab b.length cb), (5, iv (k : Int))] ∧ (k ≤ a.length) ∧ (a.take k = b.take k) ∧ Ext w w' ∧ a.length - k = mes) (a.length - 0) (by
     refine ⟨0,rfl, ?_, ?_,me,rfl⟩
     omega
     simp) ?_
 rintro _ wr _ ⟨k,rfl,hk,htk,hEq0,rfl⟩ KL1 hKL1
 refine so ?_
 refine Cd ?_ ?_<;>intro hlt
 refine so ?_
 obtain ⟨aw2,hAw2,hatw2,hIw2⟩:=standR_el (ha.to (w':=wr)) k (by omega)
 obtain ⟨aw6,hAw6,hatw6,hIw6⟩:=standR_el (hb.to (w':=wr)) k (by omega)
 refine wdE 9 (fun wD hED=>by refine pm ?_;exact .op rfl (wl_neqK (m:=6) ((a.getD k stand0)=(b.getD k stand0)) (by decide) key110 eg110 rfl rfl hIw2.fit hIw6.fit stand_inj (wl_nil qp)) pl) fun wD hED=> ?_
 refine so ?_
 refine Cd ?_ ?_<;>intro hne2<;>refine so ?_
 refine Pt ?_
 exact ⟨_,rfl,bool_f (fun e=>hne2 (by rw [e])),me⟩
 refine Kl [0,1,5] hKL1 (a.length-(k+1)) ⟨(k+1),rfl,by omega, ?_,me,rfl⟩ (by omega)
 rw [take_snoc stand0 (by omega:k<a.length),take_snoc stand0 (by omega:k<b.length),htk,Decidable.not_not.1 hne2]
 have hkl:k=a.length:=by omega
 refine so ?_
 refine Pt ?_
 exact ⟨_,rfl,bool_t (by rw [hkl,List.take_length,hll,List.take_length] at htk;exact htk),me⟩
set_option maxHeartbeats 40000000 in
theorem seqM_ok {Aa:Option Addr} {ca:Nat} {a:List Mrk} {Sa:Nat→Prop} {Ab:Option Addr} {cb:Nat} {b:List Mrk} {Sb:Nat→Prop} (ha:GS markR Sa w Aa ca a) (hb:GS markR Sb w Ab cb b):Ret prog 69 #[.slice Aa a.length ca, .slice Ab b.length cb] w (fun v w'=>v= .bool (decide (a=b))∧Ext w w'):=by
 have mha:=ha.mx
 have mhb:=hb.mx
 refine ret_of_wk func69 rfl ntmps69 leB_ ?_
 refine so ?_
 refine Cd ?_ ?_<;>intro hne
 refine so ?_
 refine Pt ?_
 exact ⟨_,rfl,bool_f (fun e=>hne (by rw [e])),me⟩
 have hll:a.length=b.length:=by omega
 refine so ?_
 refine Lp [0, 1, 12, 13] (fun L' w' mes => ∃ (k : Nat), L' = [(0, .slice Aa a.length ca), (1, .slice Ab b.length cb), (12, iv (a.length : Int)), (13, iv (k : Int))] ∧ (k ≤ a.length) ∧ (a.take k = b.take k) ∧ Ext w w' ∧ a.length - k = mes) (a.length - 0) (by
     refine ⟨0,rfl, ?_, ?_,me,rfl⟩
     omega
     simp) ?_
 rintro _ wr _ ⟨k,rfl,hk,htk,hEq0,rfl⟩ KL1 hKL1
 refine so ?_
 refine Cd ?_ ?_<;>intro hlt
 refine so ?_
 obtain ⟨aw2,hAw2,hatw2,hIw2⟩:=markR_el (ha.to (w':=wr)) k (by omega)
 obtain ⟨aw6,hAw6,hatw6,hIw6⟩:=markR_el (hb.to (w':=wr)) k (by omega)
 refine wdE 9 (fun wD hED=>by refine pm ?_;exact .op rfl (wl_neqK (m:=6) ((a.getD k mark0)=(b.getD k mark0)) (by decide) key28 eg28 rfl rfl hIw2.fit hIw6.fit mark_inj (wl_nil qp)) pl) fun wD hED=> ?_
 refine so ?_
 refine Cd ?_ ?_<;>intro hne2<;>refine so ?_
 refine Pt ?_
 exact ⟨_,rfl,bool_f (fun e=>hne2 (by rw [e])),me⟩
 refine Kl [0,1,12,13] hKL1 (a.length-(k+1)) ⟨(k+1),rfl,by omega, ?_,me,rfl⟩ (by omega)
 rw [take_snoc mark0 (by omega:k<a.length),take_snoc mark0 (by omega:k<b.length),htk,Decidable.not_not.1 hne2]
 have hkl:k=a.length:=by omega
 refine so ?_
 refine Pt ?_
 exact ⟨_,rfl,bool_t (by rw [hkl,List.take_length,hll,List.take_length] at htk;exact htk),me⟩
set_option maxHeartbeats 40000000 in
theorem seqS_ok {Aa:Option Addr} {ca:Nat} {a:List Stn} {Sa:Nat→Prop} {Ab:Option Addr} {cb:Nat} {b:List Stn} {Sb:Nat→Prop} (ha:GS standR Sa w Aa ca a) (hb:GS standR Sb w Ab cb b):Ret prog 70 #[.slice Aa a.length ca, .slice Ab b.length cb] w (fun v w'=>v= .bool (decide (a=b))∧Ext w w'):=by
 have mha:=ha.mx
 have mhb:=hb.mx
 refine ret_of_wk func70 rfl ntmps70 leB_ ?_
 refine so ?_
 refine Cd ?_ ?_<;>intro hne
 refine so ?_
 refine Pt ?_
 exact ⟨_,rfl,bool_f (fun e=>hne (by rw [e])),me⟩
 have hll:a.length=b.length:=by omega
 refine so ?_
 refine Lp [0, 1, 12, 13] (fun L' w' mes => ∃ (k : Nat), L' = [(0, .slice Aa a.length ca), (1, .slice Ab b.length cb), (12, iv (a.length : Int)), (13, iv (k : Int))] ∧ (k ≤ a.length) ∧ (a.take k = b.take k) ∧ Ext w w' ∧ a.length - k = mes) (a.length - 0) (by
     refine ⟨0,rfl, ?_, ?_,me,rfl⟩
     omega
     simp) ?_
 rintro _ wr _ ⟨k,rfl,hk,htk,hEq0,rfl⟩ KL1 hKL1
 refine so ?_
 refine Cd ?_ ?_<;>intro hlt
 refine so ?_
 obtain ⟨aw2,hAw2,hatw2,hIw2⟩:=standR_el (ha.to (w':=wr)) k (by omega)
 obtain ⟨aw6,hAw6,hatw6,hIw6⟩:=standR_el (hb.to (w':=wr)) k (by omega)
 refine wdE 9 (fun wD hED=>by refine pm ?_;exact .op rfl (wl_neqK (m:=6) ((a.getD k stand0)=(b.getD k stand0)) (by decide) key110 eg110 rfl rfl hIw2.fit hIw6.fit stand_inj (wl_nil qp)) pl) fun wD hED=> ?_
 refine so ?_
 refine Cd ?_ ?_<;>intro hne2<;>refine so ?_
 refine Pt ?_
 exact ⟨_,rfl,bool_f (fun e=>hne2 (by rw [e])),me⟩
 refine Kl [0,1,12,13] hKL1 (a.length-(k+1)) ⟨(k+1),rfl,by omega, ?_,me,rfl⟩ (by omega)
 rw [take_snoc stand0 (by omega:k<a.length),take_snoc stand0 (by omega:k<b.length),htk,Decidable.not_not.1 hne2]
 have hkl:k=a.length:=by omega
 refine so ?_
 refine Pt ?_
 exact ⟨_,rfl,bool_t (by rw [hkl,List.take_length,hll,List.take_length] at htk;exact htk),me⟩
set_option maxHeartbeats 40000000 in
theorem wCheck_ok {csw0:List Value} {w0:Wsh} {Sw0:Nat→Prop} (hw0:wishR.rd Sw0 w csw0 w0):Ret prog 157 #[.agg csw0.toArray] w (fun v w'=>v= .int .i64 (if WishMay w0 then 0 else 2)∧Ext w w'):=by
 have qhw0:=hw0
 obtain ⟨hIw0,Aw00,cw00,Aw01,cw01,rfl,hw00,hw01⟩:=hw0
 refine ret_of_wk func157 rfl ntmps157 leB_ ?_
 have hp:=HP.begin_ w
 refine so ?_
 refine Bx hp (h:=fun gs1 w1 hp hE1=> ?_)
 replace hp:=hp.ay (itB gs1 112 ([iv w0.client,iv w0.stamp,iv w0.group,iv w0.epoch,iv w0.kind,iv w0.block, .slice Aw00 w0.data.length cw00,iv w0.old,iv w0.new, .slice Aw01 w0.next.length cw01])::_)
 refine so ?_
 refine Cx hp (wmay_ok (rdTn qhw0)) fun w2 hp hE2=>so ?_
 refine Cd ?_ ?_<;>intro hc1<;>refine so ?_
 refine Pt ?_
 exact ⟨_,rfl,by simp_all,hp.chg⟩
 refine Pt ?_
 exact ⟨_,rfl,by simp_all,hp.chg⟩
set_option maxHeartbeats 4000000 in
theorem WishMay_iff {w:Wsh}:WishMay w↔WQ w∧WKd w:=by
 unfold WishMay WQ WKd
 rw [ownW_iff]
 by_cases hnm:nextMay w.next<;>simp only [hnm,and_true,and_false,or_false,false_or]<;>omega
set_option maxHeartbeats 40000000 in
theorem fWIdx_ok {Al:Option Addr} {cl:Nat} {l:List Wsh} {Sl:Nat→Prop} {fid:Nat} {first cap:List Value} {p0:Wsh→Prop} [DecidablePred p0] (hl:GS wishR Sl w Al cl l) (hcl0:callable prog fid=true) (hf: ∀w1 cs x,Ext w w1→wishR.rd Sl w1 cs x→Ret prog fid (first++ [Value.agg cs.toArray]++cap).toArray w1 fun v w2=>v=Value.bool (decide (p0 x))∧Ext w1 w2):Ret prog 224 #[.slice Al l.length cl, .func (.func fid) first.toArray cap.toArray] w (fun v w'=> ∃r:Int,v= .int .i64 r∧(0≤r↔∃x∈l,p0 x)∧Ext w w'):=by
 have mhl:=hl.mx
 refine ret_of_wk func224 rfl ntmps224 leB_ ?_
 refine so ?_
 refine Lp [0,1,7,8] (fun L' w' mes=> ∃(k:Nat),L'= [(0, .slice Al l.length cl),(1, .func (.func fid) first.toArray cap.toArray),(7,iv (l.length:Int)),(8,iv (k:Int))]∧(k≤l.length)∧(∀x∈l.take k,¬p0 x)∧(GS wishR Sl w' Al cl l)∧(Ext w w')∧l.length-k=mes) (l.length-0) ⟨0,rfl,by omega,by simp,hl,me,rfl⟩ ?_
 rintro _ wr _ ⟨k,rfl,hk,hall,hl,hEc,rfl⟩ KL1 hKL1
 refine so ?_
 refine Cd ?_ ?_<;>intro hc1<;>refine so ?_
 obtain ⟨ae1,pe1_0,qe1_0,pe1_1,qe1_1,hAe1,hate1,hIe1,he1_0,he1_1⟩:=wishR_el hl k (by omega)
 refine so ?_
 have hcl:=hf _ _ _ hEc ⟨hIe1,_,_,_,_,rfl,he1_0,he1_1⟩
 refine wl_callv (f:=fid) (first:=first) (cap:=cap) (vs:= [_]) (by decide) hcl0 rfl rfl hcl ?_
 clear hcl
 rintro _ w7 ⟨rfl,hE7⟩
 refine so ?_
 refine Cd ?_ ?_<;>intro hq<;>refine so ?_
 refine Pt ?_
 exact ⟨_,rfl,_,rfl,⟨fun _=>⟨_,getD_mem (by omega),hq⟩,fun _=>by omega⟩,me⟩
 exact Kl [0,1,7,8] hKL1 (l.length-(k+1)) ⟨(k+1),rfl,by omega,forall_take hall (by omega) hq,hl.to,me,rfl⟩ (by omega)
 refine Pt ?_
 exact ⟨_,rfl,_,rfl,⟨fun h=>absurd h (by decide),fun ⟨x,hx,hpx⟩=>absurd hpx (hall x (by rw [show k=l.length by omega,List.take_length];exact hx))⟩,hEc⟩
set_option maxHeartbeats 40000000 in
theorem order_ok {csa:List Value} {a:Stn} {Sa:Nat→Prop} {csb:List Value} {b:Stn} {Sb:Nat→Prop} (ha:standR.rd Sa w csa a) (hb:standR.rd Sb w csb b):Ret prog 158 #[.agg csa.toArray, .agg csb.toArray] w (fun v w'=>v= .int .i64 (ordS a b)∧Ext w w'):=by
 obtain ⟨hIa,rfl⟩:=ha
 obtain ⟨hIb,rfl⟩:=hb
 refine ret_of_wk func158 rfl ntmps158 leB_ ?_
 have hp:=HP.begin_ w
 refine so ?_
 refine Bx hp (h:=fun gs2 w1 hp hE1=> ?_)
 replace hp:=hp.ay (itB gs2 110 ([iv a.seq]++(digC a.dig++([iv a.view])))::_)
 refine Bx hp (h:=fun gs3 w2 hp hE2=> ?_)
 replace hp:=hp.ay (itB gs3 110 ([iv b.seq]++(digC b.dig++([iv b.view])))::_)
 refine so ?_
 have hba:=(((hp.blkAt (i:=1) rfl).at_ 1).take 32).bs (d:=a.dig) (S:=fun _=>True) rfl trivial (hp.blkAt (i:=1) rfl).lt
 have hbb:=(((hp.blkAt (i:=0) rfl).at_ 1).take 32).bs (d:=b.dig) (S:=fun _=>True) rfl trivial (hp.blkAt (i:=0) rfl).lt
 apply wdL [.eq _,.eq _,.eq _,.eq _,.eq _,.eq _,.eq _,.eq _,.eq _,.eq _,.eq _,.eq _,.eq _,.eq _,.eq (iv (Lib.compareBytes a.dig.l b.dig.l)),SP.gs intR (fun _=>True) [cmpI a.seq b.seq,cmpI a.view b.view,Lib.compareBytes a.dig.l b.dig.l],.eq _,.eq _]
 refine ⟨?_,?_,?_,?_,?_,?_,?_,?_,?_,?_,?_,?_,?_,?_,?_,?_,?_,?_,trivial⟩<;>intro F wF hER hk
 exact Fd_ 0 fld110_0 (hk.qi 2) rfl qz
 exact Hl_ 1 sc3 (hk.qe 0) (hp.ext hER) rfl rfl qz
 exact Fd_ 0 fld110_0 (hk.qi 3) rfl qz
 exact Hl_ 0 sc3 (hk.qe 2) (hp.ext hER) rfl rfl qz
 have e6:=hk.qe 1
 have e8:=hk.qe 3
 refine Cl_ cl186 (by simp only [evs,ev,e6,e8];first|done|rfl) (cmpI_ok) ?_
 rintro _ _ ⟨rfl,rfl⟩
 exact qz
 exact Fd_ 33 fld110_2 (hk.qi 2) rfl qz
 exact Hl_ 1 sc3 (hk.qe 5) (hp.ext hER) rfl rfl qz
 exact Fd_ 33 fld110_2 (hk.qi 3) rfl qz
 exact Hl_ 0 sc3 (hk.qe 7) (hp.ext hER) rfl rfl qz
 have e11:=hk.qe 6
 have e13:=hk.qe 8
 refine Cl_ cl186 (by simp only [evs,ev,e11,e13];first|done|rfl) (cmpI_ok) ?_
 rintro _ _ ⟨rfl,rfl⟩
 exact qz
 exact Fd_ 1 fld110_1 (hk.qi 2) rfl qz
 exact wl_sliceA (by decide) ar26 (hk.qe 10) qz
 exact Fd_ 1 fld110_1 (hk.qi 3) rfl qz
 exact wl_sliceA (by decide) ar26 (hk.qe 12) qz
 have e16:=hk.qe 11
 have e18:=hk.qe 13
 have hcl:=bcompare_ok (hba.ext hER) (hbb.ext hER)
 refine Cl_ cl187 (by simp only [evs,ev,e16,e18,a.dig.h,b.dig.h]) hcl ?_
 clear hcl
 rintro _ w7 ⟨rfl,hE7⟩
 exact qz ⟨hE7,rfl⟩
 have e9:=hk.qe 4
 have e14:=hk.qe 9
 have e19:=hk.qe 14
 refine wl_bsliceI (xs:= [.tmp 9, .tmp 14, .tmp 19]) (l:= [cmpI a.seq b.seq,cmpI a.view b.view,Lib.compareBytes a.dig.l b.dig.l]) (by decide) sl22 rfl (by simp only [evs,ev,e9,e14,e19];rfl) rfl (by simp) ?_
 intro g7 w7 hg7 hE7
 exact qz ⟨hE7,_,_,rfl,hg7⟩
 obtain ⟨u20,e20,h20⟩:=hk.qp 15
 obtain ⟨A15,c15,rfl,h15⟩:=h20
 have hcl:=orI_ok h15
 refine Cl_ cl185 (by simp only [evs,ev,e20];first|done|rfl) hcl ?_
 clear hcl
 rintro _ _ ⟨rfl,rfl⟩
 exact qz
 exact wl_assign (by decide) (hk.qe 16) qz
 intro F wD hED hini hdo
 refine wk_drop [(4,_)] ⟨dq hdo 17,trivial⟩ ?_
 clear hini hdo
 replace hp:=hp.ext hED
 refine so ?_
 refine Pt ?_
 exact ⟨_,rfl,by rfl,hp.chg⟩
theorem marks_back {cg:Chn} (h1:RiseI (mseq cg cg.marks.length)) (h2:(cg.marks.getD (cg.marks.length-1) mark0).seq≤9007199254740991):MarksRise cg.marks:=fun i hi h0=>by
 have hlen:=mseq_len (cg:=cg) (Nat.le_refl _)
 have h3:=h1 i (by omega) h0
 have h4:=rise_last h1 (cg.marks.length-1-i) i (by omega)
 rw [show i+(cg.marks.length-1-i)=cg.marks.length-1 by omega] at h4
 rw [mseq_get (by omega),mseq_get (by omega)] at h3 h4
 exact ⟨h3,by omega⟩
set_option maxHeartbeats 40000000 in
theorem nStr_ok {gr:Nat} {l:List UInt8} {bad:Bool} {X:List Value→It} {pX:Addr} {most:Int} (hp:HP w0 M0 Fz w (itB gr 223 [.slice A l.length c, .bool bad]::X ([.slice none 0 0])::H)) (hS:Slot X pX 1) (hl:GS byteR Fz w A c l):Ret prog 251 #[.pointer (some ⟨gr,0,none⟩), .pointer (some pX), .int .i64 most] w (RdP 223 gr w0 M0 Fz w H X (sliceR byteR) (strP most) bad l):=by
 refine ret_of_wk func251 rfl ntmps251 leB_ ?_
 refine so ?_
 refine Ce (takeStr_ok (most:=most) hl) ?_
 rintro _ w1 ⟨A1,c1,B1,d1,rfl,ho1,hq1,hE1⟩
 replace ho1:=ho1.bs
 replace hq1:=hq1.bs
 have hsz2:=hp.chg.size
 obtain ⟨Fz2,hp2,hsub2,hnew2,hup2⟩:=hp.frz hE1
 replace hp:=hp2
 replace ho1:=ho1.frz hnew2
 replace hq1:=hq1.frz hnew2
 refine so ?_
 refine Ce (nTook_ok (e:=(takeStrS l most).2.2) hp hl.to hq1) ?_
 rintro _ w3 ⟨b3,A3,c3,l3,rfl,hb3,hn3,hp,hF3,hl3⟩
 replace ho1:=ho1.fz hF3.chg
 refine so ?_
 refine Cd ?_ ?_<;>intro ht<;>refine so ?_
 refine wl_sstore1 0 (i:=1) hS (by rw [add_zero'];rfl) rfl hp rfl rfl sz36 (by decide) rfl ?_
 rintro w4 hp hC4
 replace hp:=hp.ay (_::X ([.slice A1 (takeStrS l most).1.length c1])::_)
 refine so ?_
 refine wk_post0 (.inr rfl) results251 ?_
 exact ⟨_,rfl,_,A3,c3,l3,b3,_,_,hp,mv,hl3.to,sliceR_mk ho1.to,step_str hb3 (fun h=>⟨hn3 h,rfl⟩)⟩
 refine wk_post0 (.inr rfl) results251 ?_
 exact ⟨_,rfl,_,A3,c3,l3,b3,_, [],hp,mv,hl3,sliceR_mk (GS.nil _ _ _ none 0),step_str hb3 (fun h=>absurd ht (by simp [h]))⟩
theorem t0_nMany_ok {p:Prop} (h:p:=by first|(simp_all;done)|(simp_all;omega)|(simp_all;intros;omega)):p:=h
set_option maxHeartbeats 40000000 in
theorem nMany_ok {gr:Nat} {l:List UInt8} {bad:Bool} {m0 most:Int} (hp:HP w0 M0 Fz w (itB gr 223 [.slice A l.length c, .bool bad]::H)) (hl:GS byteR Fz w A c l):Ret prog 249 #[.pointer (some ⟨gr,0,none⟩), .int .i64 m0, .int .i64 most] w (fun v w2=> ∃F2 A' c' l' bad' x,v= .int .i64 x∧HP w0 M0 F2 w2 (itB gr 223 [.slice A' (l':List UInt8).length c', .bool bad']::H)∧Frz Fz F2 w w2∧GS byteR F2 w2 A' c' l'∧StepP (manyP most) (rst bad l) (rst bad' l') x∧(bad'=true→x=0)):=by
 refine ret_of_wk func249 rfl ntmps249 leB_ ?_
 refine so ?_
 refine Alo hp (h:=fun gs7 w1 hp hE1=> ?_)
 refine H1 0 hp (h:=fun w2 hp hC2=>so ?_)
 replace hp:=((hp.up 0 rfl).up 1 rfl).as_ (H':=itB gr 223 [.slice A l.length c, .bool bad]::itB gs7 3 ([iv 0])::H) rfl
 refine Ce (nNum_ok (X:=(fun cs=>itB gs7 3 (([])++(cs++([]))))) (pX:=⟨gs7,0,none⟩) (v0:=0) hp (Slot.blk ([]) ([])) hl.to (by unfold i64;omega)) ?_
 rintro _ w3 ⟨F3,A3,c3,l3,b3,cs3,x3,hp,hF3,hl3,hrd3,hst3⟩
 obtain ⟨hI3,rfl⟩:=hrd3
 refine so ?_
 refine Gs 15 ?_ ?_<;>intro hg1<;>refine so ?_
 refine H1 0 hp (h:=fun w4 hp hC4=>so ?_)
 refine aT (so ?_)
 refine Pt ?_
 exact ⟨_,rfl,_,A3,c3,l3,true,_,rfl,((hp.up 1 rfl).tail.up 0 rfl),mv,hl3.to,many_fin hst3 (by simp_all) t0_nMany_ok,by first|(simp_all;done)|(simp_all;omega)|(simp_all;intros;omega)⟩
 refine H1 0 hp (h:=fun w5 hp hC5=>so ?_)
 refine Cd ?_ ?_<;>intro hc2<;>refine so ?_
 refine Pt ?_
 exact ⟨_,rfl,_,A3,c3,l3,(decide (x3>most)),_,rfl,((hp.up 1 rfl).tail.up 0 rfl),mv,hl3.to,many_fin hst3 (by simp_all) t0_nMany_ok,by first|(simp_all;done)|(simp_all;omega)|(simp_all;intros;omega)⟩
 refine Pt ?_
 exact ⟨_,rfl,_,A3,c3,l3,(decide (x3>most)),_,rfl,((hp.up 1 rfl).tail.up 0 rfl),mv,hl3.to,many_fin hst3 (by simp_all) t0_nMany_ok,by first|(simp_all;done)|(simp_all;omega)|(simp_all;intros;omega)⟩
theorem t0_gStand_ok {p:Prop} (h:p:=by simp only [standE,digE,List.length_append] at hlen⊢;omega):p:=h
set_option maxHeartbeats 40000000 in
theorem gStand_ok {gw:Nat} {out:List UInt8} {pa:Addr} {pc:Addr} {cs:List Value} {x:Stn} (hp:HP w0 M0 Fz w (itB gw 132 [.slice A out.length c]::itR 5 1 A out.length c (out.map bv)::H)) (hatx:AtF Fz w pa cs) (hrd:standR.rd Fz w cs x) (hok:standOk x) (hlen:out.length+(standE x).length≤1000000) (hcap:AtF Fz w pc [.iface 130 (.pointer (some ⟨gw,0,none⟩))]):Ret prog 159 #[.pointer (some pa), .pointer (some pc)] w (WrP 5 132 gw w0 M0 Fz w H (out++standE x)):=by
 obtain ⟨hIx,rfl⟩:=hrd
 refine ret_of_wk func159 rfl ntmps159 leB_ ?_
 refine so ?_
 refine wP 7 hp (h:=fun wD hp hED=> ?_)
 refine Ci rfl (gNum_ok hp (hatx.to.sub 0 1) (hok.1) t0_gStand_ok) ?_
 rintro _ w1 ⟨A1,c1,hp,hF1⟩
 refine so ?_
 refine wP 7 hp (h:=fun wD hp hED=> ?_)
 refine Ci rfl (gDig_ok hp (hatx.to.sub 1 32) t0_gStand_ok) ?_
 rintro _ w2 ⟨A2,c2,hp,hF2⟩
 refine so ?_
 refine wP 7 hp (h:=fun wD hp hED=> ?_)
 refine Ci rfl (gNum_ok hp (hatx.to.sub 33 1) (hok.2.2) t0_gStand_ok) ?_
 rintro _ w3 ⟨A3,c3,hp,hF3⟩
 refine so ?_
 refine wk_post0 (.inr rfl) results159 ?_
 rw [show out++standE x=(((out++numE x.seq)++x.dig.l)++numE x.view) from by simp only [standE,digE,←List.append_assoc]]
 exact ⟨_,rfl,_,_,hp,mv⟩
set_option maxHeartbeats 40000000 in
theorem gMark_ok {gw:Nat} {out:List UInt8} {pa:Addr} {pc:Addr} {cs:List Value} {x:Mrk} (hp:HP w0 M0 Fz w (itB gw 132 [.slice A out.length c]::itR 5 1 A out.length c (out.map bv)::H)) (hatx:AtF Fz w pa cs) (hrd:markR.rd Fz w cs x) (hok:markOk x) (hlen:out.length+(markE x).length≤1000000) (hcap:AtF Fz w pc [.iface 130 (.pointer (some ⟨gw,0,none⟩))]):Ret prog 131 #[.pointer (some pa), .pointer (some pc)] w (WrP 5 132 gw w0 M0 Fz w H (out++markE x)):=by
 obtain ⟨hIx,rfl⟩:=hrd
 refine ret_of_wk func131 rfl ntmps131 leB_ ?_
 refine so ?_
 refine wP 7 hp (h:=fun wD hp hED=> ?_)
 refine Ci rfl (gNum_ok hp (hatx.to.sub 0 1) (hok.1) (by simp only [markE,digE,List.length_append] at hlen⊢;omega)) ?_
 rintro _ w1 ⟨A1,c1,hp,hF1⟩
 refine so ?_
 refine wP 7 hp (h:=fun wD hp hED=> ?_)
 refine Ci rfl (gDig_ok hp (hatx.to.sub 1 32) (by simp only [markE,digE,List.length_append] at hlen⊢;omega)) ?_
 rintro _ w2 ⟨A2,c2,hp,hF2⟩
 refine so ?_
 refine wk_post0 (.inr rfl) results131 ?_
 rw [show out++markE x=((out++numE x.seq)++x.dig.l) from by simp only [markE,digE,←List.append_assoc]]
 exact ⟨_,rfl,_,_,hp,mv⟩
theorem rnum_is {n:Int} {w:World} (hn:isNum n):Ret Tryz.prog 83 #[.int .i64 n] w (fun v w'=> ∃A c,v= .tuple #[.slice A (numE n).length c, .int .i64 0]∧OwnB 5 w.heap.size w' A c (numE n)∧Ext w w'):=by
 have h:=rnum_ok (n:=n) (w:=w) (by have:=hn.1;omega) (by have:=hn.2;omega)
 rw [num_is hn] at h
 exact h
end Go.Proofs.YtmbpneaibmldfaaGreat
namespace Go.Proofs.YtmbpneaibmldfaaGreat
open Go.RowKit Go.Eng _root_.Go.Proofs.Tryz Go.Eng _root_.Go.Proofs.Tryz
set_option maxRecDepth 100000
variable {w0 w:World} {M0 Fz:Nat→Prop} {H:List It} {A:Option Addr} {c:Nat}
set_option maxHeartbeats 1000000 in
theorem iStr_ok {w0 w:World} {M0 Fz:Nat→Prop} {H:List It} {A:Option Addr} {c:Nat} {go:Nat} {o:List UInt8} {bd:Bool} {b:List UInt8} {Bb:Option Addr} {d:Nat} {e most:Int} (hp:HP w0 M0 Fz w (itB go 72 [.slice A o.length c, .bool bd]::itR 5 1 A o.length c (o.map bv)::H)) (hb:GS byteR Fz w Bb d b) (hl:o.length+8+b.length≤1099511627776):Ret prog 35 #[pt go 0, .slice Bb b.length d, .int .i64 e, .int .i64 most] w (WoP go w0 M0 Fz w H (strW (o,bd) b e most)):=by
 have hz:=strS_len b
 refine ret_of_wk func35 rfl ntmps35 leB_ ?_
 refine so ?_
 cases bd
 ·refine so ?_
  refine Gs 17 ?_ ?_<;>intro hg<;>refine so ?_
  ·refine H1 0 hp (h := fun w2 hp C2 => so ?_)
   refine Ce (str_ok (hb.to (F:=Fz) (w':=w2))) ?_
   rintro _ w3 ⟨B3,d3,rfl,ho,hE⟩
   replace hp:=hp.ext hE
   refine so ?_
   refine Cw (iAdd_ok hp ho.bs (by omega)) fun v A3 c3 w4 hp F4=>so ?_
   refine wk_post0 (.inr rfl) results35 ?_
   have e:strW (o,false) b e most=addW (o,true) (strS b).1 (strS b).2:=by unfold strW;rw [decide_eq_true hg];rfl
   rw [e]
   exact ⟨_,rfl,A3,c3,hp,mv⟩
  ·refine H1 0 hp (h := fun w2 hp C2 => so ?_)
   refine Ce (str_ok (hb.to (F:=Fz) (w':=w2))) ?_
   rintro _ w3 ⟨B3,d3,rfl,ho,hE⟩
   replace hp:=hp.ext hE
   refine so ?_
   refine Cw (iAdd_ok hp ho.bs (by omega)) fun v A3 c3 w4 hp F4=>so ?_
   refine wk_post0 (.inr rfl) results35 ?_
   have e:strW (o,false) b e most=addW (o,decide ((b.length:Int)>most)) (strS b).1 (strS b).2:=by unfold strW;rw [decide_eq_false hg];rfl
   rw [e]
   exact ⟨_,rfl,A3,c3,hp,mv⟩
 ·refine so ?_
  refine H1 0 hp (h:=fun w2 hp C2=>so ?_)
  refine Ce (str_ok (hb.to (F:=Fz) (w':=w2))) ?_
  rintro _ w3 ⟨B3,d3,rfl,ho,hE⟩
  replace hp:=hp.ext hE
  refine so ?_
  refine Cw (iAdd_ok hp ho.bs (by omega)) fun v A3 c3 w4 hp F4=>so ?_
  refine wk_post0 (.inr rfl) results35 ?_
  exact ⟨_,rfl,A3,c3,hp,mv⟩
theorem eachM_ok {w0 w:World} {M0 Fz:Nat→Prop} {H:List It} {A:Option Addr} {c:Nat} {go:Nat} {o:List UInt8} {bd:Bool} {l:List Mrk} {B:Option Addr} {d:Nat} {most:Int} {f:WS→Mrk→WS} {k:Nat} {FV:Value} (hp:HP w0 M0 Fz w (itB go 72 [.slice A o.length c, .bool bd]::itR 5 1 A o.length c (o.map bv)::H)) (hl:GS markR Fz w B d l) (hf:FnW FV go w0 M0 Fz w markR f k) (hk: ∀s x,(f s x).1.length≤s.1.length+k) (hr:o.length+8+l.length*k≤1099511627776):Ret prog 74 #[pt go 0, .slice B l.length d, .int .i64 most,FV] w (WoP go w0 M0 Fz w H (eachW f (o,bd) l most)):=by
 have mx:=hl.mx
 refine ret_of_wk func74 rfl ntmps74 leB_ ?_
 refine so ?_
 refine Cw (iNum_ok (n:=(l.length:Int)) hp ⟨by omega,by omega⟩ (by omega)) fun v A1 c1 w1 hp F1=>so ?_
 refine Lp [3,15,16,17] (fun L' w' mes=> ∃(j:Nat) (A2:Option Addr) (c2:Nat),L'= [(3,FV),(15, .slice B l.length d),(16,iv (l.length:Int)),(17,iv (j:Int))]∧j≤l.length∧Frz Fz Fz w w'∧HP w0 M0 Fz w' (itB go 72 [.slice A2 ((l.take j).foldl f (numW (o,bd) l.length most)).1.length c2, .bool ((l.take j).foldl f (numW (o,bd) l.length most)).2]::itR 5 1 A2 ((l.take j).foldl f (numW (o,bd) l.length most)).1.length c2 (((l.take j).foldl f (numW (o,bd) l.length most)).1.map bv)::H)∧l.length-j=mes) (l.length-0) ⟨0,A1,c1,rfl,Nat.zero_le _,mv,hp,rfl⟩ ?_
 rintro _ wr _ ⟨j,A2,c2,rfl,hj,F2,hp,rfl⟩ KL hKL
 refine so ?_
 refine Cd ?_ ?_<;>intro hc
 ·have hj9 : j < l.length := by omega
  obtain ⟨ae,hA,hat,hI⟩:=markR_el (hl.to (F:=Fz) (w':=wr)) j hj9
  refine so ?_
  refine Alo hp (h:=fun g w2 hp E2=> ?_)
  replace hp:=hp.rot3
  refine Hs 2 hp (h:=fun w3 hp C3=>so ?_)
  have hlen:=fold_room hk o bd l most j hj9 hr
  refine wl_callF (vs:= [_]) (by decide) rfl rfl (fun _ h=>by cases h) (hf w3 _ A2 c2 _ _ _ _ mv hp ⟨hI,rfl⟩ hlen) ?_
  rintro _ w4 ⟨A5,c5,hp,F5⟩
  refine so ?_
  refine Kl [3,15,16,17] hKL (l.length-(j+1)) ⟨j+1,A5,c5,rfl,hj9,mv, ?_,rfl⟩ (by omega)
  rw [fold_take f _ l j mark0 hj9]
  exact hp.rot3.rot3.tail
 obtain rfl:j=l.length:=by omega
 refine so ?_
 refine wk_post0 (.inr rfl) results74 ?_
 rw [List.take_length] at hp
 exact ⟨_,rfl,A2,c2,hp,mv⟩
theorem eachI_ok {w0 w:World} {M0 Fz:Nat→Prop} {H:List It} {A:Option Addr} {c:Nat} {go:Nat} {o:List UInt8} {bd:Bool} {l:List Int} {B:Option Addr} {d:Nat} {most:Int} {f:WS→Int→WS} {k:Nat} {FV:Value} (hp:HP w0 M0 Fz w (itB go 72 [.slice A o.length c, .bool bd]::itR 5 1 A o.length c (o.map bv)::H)) (hl:GS intR Fz w B d l) (hi: ∀y∈l,i64 y) (hf:FnI FV go w0 M0 Fz w f k) (hk: ∀s x,(f s x).1.length≤s.1.length+k) (hr:o.length+8+l.length*k≤1099511627776):Ret prog 30 #[pt go 0, .slice B l.length d, .int .i64 most,FV] w (WoP go w0 M0 Fz w H (eachW f (o,bd) l most)):=by
 have mx:=hl.mx
 refine ret_of_wk func30 rfl ntmps30 leB_ ?_
 refine so ?_
 refine Cw (iNum_ok (n:=(l.length:Int)) hp ⟨by omega,by omega⟩ (by omega)) fun v A1 c1 w1 hp F1=>so ?_
 refine Lp [3,15,16,17] (fun L' w' mes=> ∃(j:Nat) (A2:Option Addr) (c2:Nat),L'= [(3,FV),(15, .slice B l.length d),(16,iv (l.length:Int)),(17,iv (j:Int))]∧j≤l.length∧Frz Fz Fz w w'∧HP w0 M0 Fz w' (itB go 72 [.slice A2 ((l.take j).foldl f (numW (o,bd) l.length most)).1.length c2, .bool ((l.take j).foldl f (numW (o,bd) l.length most)).2]::itR 5 1 A2 ((l.take j).foldl f (numW (o,bd) l.length most)).1.length c2 (((l.take j).foldl f (numW (o,bd) l.length most)).1.map bv)::H)∧l.length-j=mes) (l.length-0) ⟨0,A1,c1,rfl,Nat.zero_le _,mv,hp,rfl⟩ ?_
 rintro _ wr _ ⟨j,A2,c2,rfl,hj,F2,hp,rfl⟩ KL hKL
 refine so ?_
 refine Cd ?_ ?_<;>intro hc
 ·have hj9 : j < l.length := by omega
  obtain ⟨ae,hA,hat⟩:=GS.el1 (hl.to (F:=Fz) (w':=wr)) j hj9
  have hI:=hi l[j] (List.getElem_mem hj9)
  refine so ?_
  have hlen:=fold_room hk o bd l most j hj9 hr
  refine wl_callF (vs:= [_]) (by decide) rfl rfl (fun _ h=>by cases h) (hf wr _ A2 c2 _ _ l[j] mv hp hI hlen) ?_
  rintro _ w4 ⟨A5,c5,hp,F5⟩
  refine so ?_
  refine Kl [3,15,16,17] hKL (l.length-(j+1)) ⟨j+1,A5,c5,rfl,hj9,mv, ?_,rfl⟩ (by omega)
  rw [fold_take f _ l j 0 hj9,show l.getD j 0=l[j] by rw [List.getD_eq_getElem?_getD,List.getElem?_eq_getElem hj9];rfl]
  exact hp
 obtain rfl:j=l.length:=by omega
 refine so ?_
 refine wk_post0 (.inr rfl) results30 ?_
 rw [List.take_length] at hp
 exact ⟨_,rfl,A2,c2,hp,mv⟩
end Go.Proofs.YtmbpneaibmldfaaGreat
namespace Go.Proofs.YtmbpneaibmldfaaGreat
open Go.RowKit Go.Eng Go.Eng _root_.Go.Proofs.Tryz
set_option maxRecDepth 100000
variable {w0 w:World} {M0 Fz:Nat→Prop} {H:List It} {A:Option Addr} {c:Nat}
theorem unpack_bad {l:List UInt8} {x:Nte} (h:ReadR l x false):unpackS l=(note0,4):=by
 unfold unpackS
 cases hn:noteP l with
 |none=>rfl
 | some y =>
  obtain ⟨y,u⟩:=y
  have:=h.2 rfl y
  cases u with
  |nil=>exact absurd hn this
  |cons a u=>simp
end Go.Proofs.YtmbpneaibmldfaaGreat
namespace Go.Proofs.YtmbpneaibmldfaaGreat
open Go.RowKit Go.Eng _root_.Go.Proofs.Tryz Go.Eng _root_.Go.Proofs.Tryz
set_option maxRecDepth 100000
variable {w0 w:World} {M0 Fz:Nat→Prop} {H:List It} {A:Option Addr} {c:Nat}
theorem tYes_ok {w0 w:World} {M0 Fz:Nat→Prop} {H:List It} {A:Option Addr} {c:Nat} {gt:Nat} {l:List UInt8} {bad:Bool} (hp:HP w0 M0 Fz w (itB gt 94 [.slice A l.length c, .bool bad]::H)) (hl:GS byteR Fz w A c l):Ret prog 52 #[pt gt 0] w (fun v w2=> ∃F2 A' c' l' bad' x,v= .bool x∧HP w0 M0 F2 w2 (itB gt 94 [.slice A' (l':List UInt8).length c', .bool bad']::H)∧Frz Fz F2 w w2∧GS byteR F2 w2 A' c' l'∧StepP yesP (rst bad l) (rst bad' l') x):=by
 refine ret_of_wk func52 rfl ntmps52 leB_ ?_
 refine so ?_
 refine Ce (tNum_ok (most:=1) hp hl) ?_
 rintro _ w2 ⟨F2,A',c',l',bad',n,rfl,hp,F3,hg,hn,hs⟩
 refine so ?_
 refine Pt ?_
 exact ⟨_,rfl,F2,A',c',l',bad',_,rfl,hp,mv,hg,hs.bind (StepP.pure _ _)⟩
theorem tAllM_ok {w0 w:World} {M0 Fz:Nat→Prop} {H:List It} {A:Option Addr} {c:Nat} {gt:Nat} {l:List UInt8} {bad:Bool} {most:Int} {FV:Value} (hm:most≤100) (hp:HP w0 M0 Fz w (itB gt 94 [.slice A l.length c, .bool bad]::H)) (hl:GS byteR Fz w A c l) (hf:FnT FV gt w0 M0 Fz w markR markP):Ret prog 101 #[pt gt 0, .int .i64 most,FV] w (TlP gt w0 M0 Fz w H markR markP most bad l):=by
 refine ret_of_wk func101 rfl ntmps101 leB_ ?_
 refine so ?_
 refine Ce (tNum_ok (most:=most) hp hl) ?_
 rintro _ w1 ⟨F1,A1,c1,l1,b1,n,rfl,hp,F3,hg,hn,hs⟩
 obtain ⟨N,rfl⟩: ∃N:Nat,n=(N:Int):=⟨n.toNat,by omega⟩
 replace hp:=(hp.noRow 28 33).swp
 refine so ?_
 refine Lp [0,2,6,9,10] (fun L' w' mes=> ∃(k:Nat) (F2:Nat→Prop) (A2:Option Addr) (c2:Nat) (l2:List UInt8) (b2:Bool) (A3:Option Addr) (c3:Nat) (rows:List (List Value)) (xs:List Mrk),L'= [(0,pt gt 0),(2,FV),(6, .slice A3 k c3),(9,iv (N:Int)),(10,iv (k:Int))]∧k≤N∧xs.length=k∧HP w0 M0 F2 w' (itB gt 94 [.slice A2 l2.length c2, .bool b2]::itR 28 33 A3 k c3 rows.flatten::H)∧RF markR F2 w' rows xs∧Frz F1 F2 w1 w'∧GS byteR F2 w' A2 c2 l2∧StepP (repP markP k) (rst b1 l1) (rst b2 l2) xs∧N-k=mes) (N-0) ⟨0,F1,A1,c1,l1,b1,none,0, [], [],rfl,Nat.zero_le _,rfl,hp,RF.nil _ _ _,Frz.start _ _,hg,StepP.pure _ _,rfl⟩ ?_
 rintro _ wr _ ⟨k,F2,A2,c2,l2,b2,A3,c3,rows,xs,rfl,hk,hxl,hp,hR,F12,hg2,hs2,rfl⟩ KL hKL
 refine so ?_
 refine Cd ?_ ?_<;>intro hc
 ·refine so ?_
  cases b2
  ·refine so ?_
   refine aF (so ?_)
   refine wl_callF (vs:= []) (by decide) rfl rfl (fun _ h=>by cases h) (hf wr F2 _ A2 c2 l2 false mv hp hg2) ?_
   rintro _ w2 ⟨F5,A5,c5,l5,b5,cs,x,rfl,hp,F25,hg5,hx,hs5⟩
   have hlc:=markR.len hx
   have hoc:=markR.one hx
   refine wl_oneOf (by decide) sl29 rfl rfl hlc leB_ ?_
   rintro _ w3 hOn hE3
   obtain ⟨gu,rfl,hat9⟩:=hOn
   replace hp:=hp.ext hE3
   refine wl_happend (i:=1) (m:=1) (size:=33) (news:=cs) (by decide) sl29 rfl rfl hp rfl (by rw [hlc];rfl) (fun b hb=>by cases hb;exact hat9) (by simp) hoc (by omega) ?_
   rintro A9 c9 w4 hp hC4
   have f4:Frz F2 F5 wr w4:=mv
   have f5:Frz F5 F5 w2 w4:=mv
   refine so ?_
   refine Kl [0,2,6,9,10] hKL (N-(k+1)) ⟨k+1,F5,A5,c5,l5,b5,A9,c9,rows++ [cs],xs++ [x],rfl,by omega,by rw [List.length_append,hxl];rfl, ?_,(hR.to f4).append (RF.one (rdTo hx f5)),Frz.bF f4 F12,hg5.to f5,StepP.bind hs2 (StepP.bind hs5 (StepP.pure _ _)),rfl⟩ (by omega)
   rw [flat_snoc,List.append_nil]
   exact hp
  ·refine so ?_
   refine aT (so ?_)
   refine Pt ?_
   refine ⟨_,rfl, ?_⟩
   subst hxl
   refine tl_end (r:=markR) hp hR hg2 mv (hs.bind ?_)
   have h9:=rep_none (show StepP (repP markP xs.length) (rst b1 l1) none xs from hs2) (N-xs.length) xs
   rw [show xs.length+(N-xs.length)=N by omega] at h9
   rw [Int.toNat_natCast]
   exact h9
 obtain rfl:k=N:=by omega
 refine so ?_
 refine Pt ?_
 refine ⟨_,rfl, ?_⟩
 subst hxl
 refine tl_end (r:=markR) hp hR hg2 mv (hs.bind ?_)
 rw [Int.toNat_natCast]
 exact hs2
theorem tAllB_ok {w0 w:World} {M0 Fz:Nat→Prop} {H:List It} {A:Option Addr} {c:Nat} {gt:Nat} {l:List UInt8} {bad:Bool} {most:Int} {FV:Value} (hm:most≤100) (hp:HP w0 M0 Fz w (itB gt 94 [.slice A l.length c, .bool bad]::H)) (hl:GS byteR Fz w A c l) (hf:FnT FV gt w0 M0 Fz w batR batP):Ret prog 104 #[pt gt 0, .int .i64 most,FV] w (TlP gt w0 M0 Fz w H batR batP most bad l):=by
 refine ret_of_wk func104 rfl ntmps104 leB_ ?_
 refine so ?_
 refine Ce (tNum_ok (most:=most) hp hl) ?_
 rintro _ w1 ⟨F1,A1,c1,l1,b1,n,rfl,hp,F3,hg,hn,hs⟩
 obtain ⟨N,rfl⟩: ∃N:Nat,n=(N:Int):=⟨n.toNat,by omega⟩
 replace hp:=(hp.noRow 89 33).swp
 refine so ?_
 refine Lp [0,2,6,9,10] (fun L' w' mes=> ∃(k:Nat) (F2:Nat→Prop) (A2:Option Addr) (c2:Nat) (l2:List UInt8) (b2:Bool) (A3:Option Addr) (c3:Nat) (rows:List (List Value)) (xs:List Bat),L'= [(0,pt gt 0),(2,FV),(6, .slice A3 k c3),(9,iv (N:Int)),(10,iv (k:Int))]∧k≤N∧xs.length=k∧HP w0 M0 F2 w' (itB gt 94 [.slice A2 l2.length c2, .bool b2]::itR 89 33 A3 k c3 rows.flatten::H)∧RF batR F2 w' rows xs∧Frz F1 F2 w1 w'∧GS byteR F2 w' A2 c2 l2∧StepP (repP batP k) (rst b1 l1) (rst b2 l2) xs∧N-k=mes) (N-0) ⟨0,F1,A1,c1,l1,b1,none,0, [], [],rfl,Nat.zero_le _,rfl,hp,RF.nil _ _ _,Frz.start _ _,hg,StepP.pure _ _,rfl⟩ ?_
 rintro _ wr _ ⟨k,F2,A2,c2,l2,b2,A3,c3,rows,xs,rfl,hk,hxl,hp,hR,F12,hg2,hs2,rfl⟩ KL hKL
 refine so ?_
 refine Cd ?_ ?_<;>intro hc
 ·refine so ?_
  cases b2
  ·refine so ?_
   refine aF (so ?_)
   refine wl_callF (vs:= []) (by decide) rfl rfl (fun _ h=>by cases h) (hf wr F2 _ A2 c2 l2 false mv hp hg2) ?_
   rintro _ w2 ⟨F5,A5,c5,l5,b5,cs,x,rfl,hp,F25,hg5,hx,hs5⟩
   have hlc:=batR.len hx
   have hoc:=batR.one hx
   refine wl_oneOf (by decide) sl31 rfl rfl hlc leB_ ?_
   rintro _ w3 hOn hE3
   obtain ⟨gu,rfl,hat9⟩:=hOn
   replace hp:=hp.ext hE3
   refine wl_happend (i:=1) (m:=1) (size:=33) (news:=cs) (by decide) sl31 rfl rfl hp rfl (by rw [hlc];rfl) (fun b hb=>by cases hb;exact hat9) (by simp) hoc (by omega) ?_
   rintro A9 c9 w4 hp hC4
   have f4:Frz F2 F5 wr w4:=mv
   have f5:Frz F5 F5 w2 w4:=mv
   refine so ?_
   refine Kl [0,2,6,9,10] hKL (N-(k+1)) ⟨k+1,F5,A5,c5,l5,b5,A9,c9,rows++ [cs],xs++ [x],rfl,by omega,by rw [List.length_append,hxl];rfl, ?_,(hR.to f4).append (RF.one (rdTo hx f5)),Frz.bF f4 F12,hg5.to f5,StepP.bind hs2 (StepP.bind hs5 (StepP.pure _ _)),rfl⟩ (by omega)
   rw [flat_snoc,List.append_nil]
   exact hp
  ·refine so ?_
   refine aT (so ?_)
   refine Pt ?_
   refine ⟨_,rfl, ?_⟩
   subst hxl
   refine tl_end (r:=batR) hp hR hg2 mv (hs.bind ?_)
   have h9:=rep_none (show StepP (repP batP xs.length) (rst b1 l1) none xs from hs2) (N-xs.length) xs
   rw [show xs.length+(N-xs.length)=N by omega] at h9
   rw [Int.toNat_natCast]
   exact h9
 obtain rfl:k=N:=by omega
 refine so ?_
 refine Pt ?_
 refine ⟨_,rfl, ?_⟩
 subst hxl
 refine tl_end (r:=batR) hp hR hg2 mv (hs.bind ?_)
 rw [Int.toNat_natCast]
 exact hs2
theorem parse_isM {l t:List UInt8} {r:Rpl} (h:rplP l=some (r,t)) (ht:t≠ []):Go.Eng.parseS l=(rpl0,4):=by
 unfold Go.Eng.parseS
 rw [h]
 cases t with
 |nil=>exact absurd rfl ht
 |cons a t=>rfl
theorem lWishi_ok {w0 w:World} {M0 Fz:Nat→Prop} {H:List It} (hp:HP w0 M0 Fz w H):Ret prog 66 #[] w (fun v w2=> ∃F2 A c,v= .slice A ([wshi]:List Wsh).length c∧HP w0 M0 F2 w2 H∧Frz Fz F2 w w2∧GS wishR F2 w2 A c [wshi]):=by
 refine ret_of_wk func66 rfl ntmps66 leB_ ?_
 refine so ?_
 apply wl_make (k:=16) (z:= .int .u8 0) (hT:=sl36) (hd:=by decide)
 case hz=>kernel_rfl
 case hx=>rfl
 case hy=>rfl
 case hb=>decide
 case hlo=>exact Nat.le_refl _
 rintro g1 w1 hg1 ho E1
 replace ho:=OwnRow.bs (l:=List.replicate 16 (0:UInt8)) ho.zeros
 obtain ⟨F1,hp,s1,n1,_⟩:=hp.frz E1
 have h1:=ho.frz n1
 refine wl_builtS (ps:= [(0, .const (.int .i64 31)),(1, .const (.int .i64 5)),(2, .const (.int .i64 1)),(3, .const (.int .i64 2)),(4, .const (.int .i64 2)),(5, .const (.int .i64 3)),(6, .tmp 1)]) (by decide) bld112 rfl rfl ?_
 have hw:wishR.rd F1 w1 [.int .i64 31, .int .i64 5, .int .i64 1, .int .i64 2, .int .i64 2, .int .i64 3, .slice (some ⟨g1,0,none⟩) 16 16, .int .i64 0, .int .i64 0, .slice none 0 0] wshi:=⟨by unfold WshI i64 wshi;decide,some ⟨g1,0,none⟩,16,none,0,rfl,h1,GS.nil _ _ _ _ _⟩
 refine wl_bsliceR (r:=wishR) (css:= [_]) (l:= [wshi]) (xs:= [.tmp 2]) (by decide) sl84 rfl rfl (RF.one hw) rfl (by simp) leB_ ?_
 rintro g2 w2 hg2 hs E2
 obtain ⟨F2,hp,s2,n2,_⟩:=hp.frz E2
 replace hs:=hs.mono (fun b hb h=>h.elim (fun x=>s2 b x.1) (fun e=>n2 b (by rw [e,hg2];exact Nat.le_refl _) hb))
 refine so ?_
 refine Pt ?_
 exact ⟨_,rfl,F2,_,_,rfl,hp,mv,hs⟩
def imgS (lo : Nat) (D : Dig) (As : Option Addr) (cs : Nat) : SP := ⟨fun v w => ∃ A1 c1 A2 c2 A3 c3, v = .agg (imC 3 true 4 (dgi 2) (.slice A1 1 c1) (.slice As 2 cs) (.slice As 2 cs) (iv 5) (.slice A2 1 c2) (.bool true) (.slice A3 1 c3)).toArray ∧ GS markR (nT lo 45 w) w A1 c1 [⟨8, dgi 3⟩] ∧ GS markR (nT lo 45 w) w A2 c2 [⟨5, D⟩] ∧ GS batR (nT lo 45 w) w A3 c3 [⟨D, [wshi]⟩], by
 rintro _ w w' ch ⟨A1,c1,A2,c2,A3,c3,rfl,h1,h2,h3⟩
 exact ⟨A1,c1,A2,c2,A3,c3,rfl,(h1.mono (fun b hb hs=>nT_ext ch hb hs)).ext ch,(h2.mono (fun b hb hs=>nT_ext ch hb hs)).ext ch,(h3.mono (fun b hb hs=>nT_ext ch hb hs)).ext ch⟩⟩
end Go.Proofs.YtmbpneaibmldfaaGreat
