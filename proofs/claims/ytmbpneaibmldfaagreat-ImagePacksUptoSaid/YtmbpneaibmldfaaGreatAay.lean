/- What each of these functions computes, for every argument that its theorem names; a part of what the proof of ImageOnce stands on. -/
import Derived.Test.YtmbpneaibmldfaaGreatAac
import Derived.Test.YtmbpneaibmldfaaGreatAad
import Derived.Test.YtmbpneaibmldfaaGreatAaf
import Derived.Test.YtmbpneaibmldfaaGreatAag
import Derived.Test.YtmbpneaibmldfaaGreatAai
import Derived.Test.YtmbpneaibmldfaaGreatAaj
import Derived.Test.YtmbpneaibmldfaaGreatAak
import Derived.Test.YtmbpneaibmldfaaGreatAal
import Derived.Test.YtmbpneaibmldfaaGreatAap
import Derived.Test.YtmbpneaibmldfaaGreatAaq
import Derived.Test.YtmbpneaibmldfaaGreatAat
import Derived.Test.YtmbpneaibmldfaaGreatAav
namespace Go.Proofs.YtmbpneaibmldfaaGreat
open Go.RowKit Go.Eng _root_.Go.Proofs.Tryz Go.Eng _root_.Go.Proofs.Tryz
set_option maxRecDepth 100000
variable {w0 w:World} {M0 Fz:Nat→Prop} {H:List It} {A:Option Addr} {c:Nat}
set_option maxHeartbeats 4000000 in
theorem of_ok {w:World} {A:Option Addr} {c:Nat} {l:List UInt8} {Sa:Nat→Prop} (h:BS Sa w A c l) (hz:l.length≤65536):Ret prog 156 #[.slice A l.length c] w (fun v w'=>v= .agg (digC (shaV l)).toArray∧Ext w w'):=by
 refine ret_of_wk func156 rfl ntmps156 leB_ ?_
 have hp:=HP.begin_ w
 refine so ?_
 refine Alo hp (h:=fun g2 w1 hp E1=>so ?_)
 refine Ce (padded_ok (h.ext E1) hz) ?_
 rintro _ w2 ⟨A1,c1,rfl,ho,hE2⟩
 obtain ⟨hP64,hPle⟩:=padV_len l
 have hD:shaV l=⟨outA (shaS (padV l) ((padV l).length/64)) 32,outA_len _ _⟩:=rfl
 generalize padV l=p at *
 have hp2:=hp.ownRow hE2 ho
 clear hp
 obtain ⟨F1,hp,hF1,hF2⟩:=hp2.frzRow
 have hpb:BS F1 w2 A1 c1 p:=OwnRow.gsF ho hF2
 replace hp:=hp.as_ (H':= [itB g2 26 ((List.replicate 32 (0:UInt8)).map bv)]) rfl
 refine so ?_
 refine Cx hp first_ok (fun w3 hp hE3=> ?_)
 refine Alo hp (h:=fun g4 w4 hp E4=> ?_)
 refine Hs 0 hp (xs:=firstL.map uv) (ds:=firstL.map uv) (hc:=⟨rfl⟩) (h:=fun w5 hp C5=> ?_)
 replace hp:=hp.as_ (H':= [itB g4 230 ((shaS p 0).map uv),itB g2 26 ((List.replicate 32 (0:UInt8)).map bv)]) rfl
 have hpb5:BS F1 w5 A1 c1 p:=hpb.to
 refine so ?_
 refine Lp [2,3,4,5] (fun L' w' mes=> ∃m:Nat,L'= [(2,pt g2 0),(3, .slice A1 p.length c1),(4,pt g4 0),(5,iv ((64*m:Nat):Int))]∧m≤p.length/64∧HP w (fun _=>False) F1 w' [itB g4 230 ((shaS p m).map uv),itB g2 26 ((List.replicate 32 (0:UInt8)).map bv)]∧BS F1 w' A1 c1 p∧mes=p.length/64-m) (p.length/64) ⟨0,rfl,Nat.zero_le _,hp,hpb5,rfl⟩ ?_ (by rfl)
 clear hp hpb hpb5
 rintro _ wr _ ⟨m,rfl,hm,hp,hpb,rfl⟩ KL hKL
 have hlS:=shaS_len p m
 refine so ?_
 refine Cd ?_ ?_<;>intro hc
 ·have hm1 : m < p.length / 64 := by omega
  refine so ?_
  refine Alo hp (h:=fun g6 w6 hp E6=> ?_)
  replace hp:=hp.as_ (H':= [itB g6 232 ((fillA p m 0).map bv),itB g4 230 ((shaS p m).map uv),itB g2 26 ((List.replicate 32 (0:UInt8)).map bv)]) rfl
  have hpb6:BS F1 w6 A1 c1 p:=hpb.to
  refine so ?_
  refine Lp [2,3,4,5,6,7] (fun L' w' mes=> ∃i:Nat,L'= [(2,pt g2 0),(3, .slice A1 p.length c1),(4,pt g4 0),(5,iv ((64*m:Nat):Int)),(6,pt g6 0),(7,iv (i:Int))]∧i≤64∧HP w (fun _=>False) F1 w' [itB g6 232 ((fillA p m i).map bv),itB g4 230 ((shaS p m).map uv),itB g2 26 ((List.replicate 32 (0:UInt8)).map bv)]∧BS F1 w' A1 c1 p∧mes=64-i) 64 ⟨0,rfl,Nat.zero_le _,hp,hpb6,rfl⟩ ?_ (by rfl)
  clear hp hpb hpb6
  rintro _ wq _ ⟨i,rfl,hi,hp,hpb,rfl⟩ KM hKM
  have hlf:=fillA_len p m i
  refine so ?_
  refine Cd ?_ ?_<;>intro hc2
  ·have hi1 : i < 64 := by omega
   refine so ?_
   refine wl_idx (r:=byteR) (by decide) sl36 rfl rfl hpb (64*m+i) (by omega) (by omega) (fun a cs ha hS hat hr=> ?_)
   obtain rfl:=hr
   refine wl_load (by decide) sc5 rfl hat.head ?_
   refine wl_ixA (by decide) ar232 rfl rfl i rfl hi1 ?_
   refine H1 0 hp (hl:=by rw [List.length_map,hlf];exact hi1) (h:=fun w9 hp C9=> ?_)
   have eg:p[64*m+i]'(by omega)=p.getD (64*m+i) 0:=by rw [List.getD_eq_getElem?_getD,List.getElem?_eq_getElem];rfl
   rw [eg] at hp
   replace hp:=hp.as_ (H':= [itB g6 232 ((fillA p m (i+1)).map bv),itB g4 230 ((shaS p m).map uv),itB g2 26 ((List.replicate 32 (0:UInt8)).map bv)]) (by rw [fillA,←map_set])
   have hpb9:BS F1 w9 A1 c1 p:=hpb.to
   refine so ?_
   exact Kl [2,3,4,5,6,7] hKM (64-(i+1)) ⟨i+1,rfl,by omega,hp,hpb9,rfl⟩ (by omega)
  obtain rfl:i=64:=by omega
  have hsS:shaS p (m+1)=roundV (shaS p m) (fillA p m 64):=rfl
  generalize fillA p m 64=B at hp hlf hsS
  generalize shaS p m=S at hp hlS hsS
  refine so ?_
  refine wl_hloadA (by decide) ag230 rfl hp (i:=1) rfl (by rw [whole hlS];simp [hlS]) ?_
  rw [whole hlS]
  refine wl_hloadA (by decide) ag232 rfl hp (i:=0) rfl (by rw [whole hlf];simp [hlf]) ?_
  rw [whole hlf]
  refine Cx hp (round_ok hlS hlf) (fun w7 hp hE7=> ?_)
  have hlR:=roundV_len (B:=B) hlS
  rw [←hsS] at hlR⊢
  refine Hs 1 hp (xs:=(shaS p (m+1)).map uv) (ds:=(shaS p (m+1)).map uv) (hc:=⟨rfl⟩) (hk:=by rw [List.length_map];exact hlR) (hl:=by simp [hlR,hlS]) (h1:=by intro u hu;obtain ⟨_,_,rfl⟩:=List.mem_map.1 hu;rfl) (hq:=putL_all (by simp [hlR,hlS])) (h:=fun w9 hp C9=> ?_)
  have hpb9:BS F1 w9 A1 c1 p:=hpb.to
  refine so ?_
  exact Kl [2,3,4,5] hKL (p.length/64-(m+1)) ⟨m+1,rfl,by omega,hp.tail,hpb9,rfl⟩ (by omega)
 obtain rfl:m=p.length/64:=by omega
 have hD2:digC (shaV l)=(outA (shaS p (p.length/64)) 32).map bv:=by rw [hD,digC_map]
 generalize digC (shaV l)=dv at hD2⊢
 generalize shaS p (p.length/64)=S at hp hlS hD2
 clear hpb hD
 refine so ?_
 refine Alo hp (h:=fun g8 w8 hp E8=> ?_)
 replace hp:=hp.as_ (H':= [itB g8 26 ((outA S 0).map bv),itB g4 230 (S.map uv),itB g2 26 ((List.replicate 32 (0:UInt8)).map bv)]) rfl
 refine so ?_
 refine Lp [2,4,8,9] (fun L' w' mes=> ∃i:Nat,L'= [(2,pt g2 0),(4,pt g4 0),(8,pt g8 0),(9,iv (i:Int))]∧i≤32∧HP w (fun _=>False) F1 w' [itB g8 26 ((outA S i).map bv),itB g4 230 (S.map uv),itB g2 26 ((List.replicate 32 (0:UInt8)).map bv)]∧mes=32-i) 32 ⟨0,rfl,Nat.zero_le _,hp,rfl⟩ ?_ (by rfl)
 clear hp
 rintro _ wq _ ⟨i,rfl,hi,hp,rfl⟩ KM hKM
 have hlo:=outA_len S i
 refine so ?_
 refine Cd ?_ ?_<;>intro hc2
 ·have hi1 : i < 32 := by omega
  refine so ?_
  refine wl_quo (z:=((i/4:Nat):Int)) (by decide) rfl rfl (by decide) (by rw [show (i:Int).tdiv 4=((i/4:Nat):Int) from (Int.ofNat_tdiv _ _).symm];exact w64 (by omega) (by omega)) ?_
  refine wl_ixA (by decide) ar230 rfl rfl (i/4) rfl (by omega) ?_
  refine wl_ldM 1 (by decide) sc229 rfl hp rfl (z:=(0:Int)) (by omega) ?_
  refine wl_move (by decide) rfl ?_
  refine wl_rem (z:=((i%4:Nat):Int)) (by decide) rfl rfl (by decide) (Int.ofNat_tmod _ _).symm ?_
  refine wl_mul (by decide) rfl rfl (idN (k:=8*(i%4)) (by omega) (by omega)) ?_
  refine wl_sub (by decide) rfl rfl (idN (k:=24-8*(i%4)) (by omega) (by omega)) ?_
  refine wl_shr (by decide) rfl rfl (by omega) rfl ?_
  refine wl_conv (k1:= .u32) (k2:= .u8) (by decide) (by kernel_rfl) (by kernel_rfl) rfl (wrap_u8 _) ?_
  refine wl_ixA (by decide) ar26w rfl rfl i rfl hi1 ?_
  refine H1 0 hp (hl:=by rw [List.length_map,hlo];exact hi1) (h:=fun w9 hp C9=> ?_)
  replace hp:=hp.as_ (H':= [itB g8 26 ((outA S (i+1)).map bv),itB g4 230 (S.map uv),itB g2 26 ((List.replicate 32 (0:UInt8)).map bv)]) (by rw [outA,←map_set])
  refine so ?_
  exact Kl [2,4,8,9] hKM (32-(i+1)) ⟨i+1,rfl,by omega,hp,rfl⟩ (by omega)
 obtain rfl:i=32:=by omega
 generalize outA S 32=D at hp hlo hD2
 clear hKM
 refine so ?_
 refine wl_hloadA (by decide) ag26 rfl hp (i:=0) rfl (by rw [whole hlo];simp [hlo]) ?_
 rw [whole hlo]
 refine Hs 2 hp (xs:=D.map bv) (ds:=D.map bv) (hc:=⟨rfl⟩) (hk:=by rw [List.length_map];exact hlo) (hl:=by simp [hlo]) (h1:=by intro u hu;obtain ⟨_,_,rfl⟩:=List.mem_map.1 hu;rfl) (hq:=putL_all (by simp [hlo])) (h:=fun w9 hp C9=>so ?_)
 refine wk_postR (rs:= [.cell 2 26]) (.inl rfl) results156 ⟨_,_,_,rfl,rfl,loadVar_agg ag26 (hp.blkAt (i:=2) rfl).at0 (by rw [List.length_map];exact hlo),rfl⟩ ?_
 exact ⟨_,rfl,by rw [hD2];rfl,hp.chg⟩
end Go.Proofs.YtmbpneaibmldfaaGreat
namespace Go.Proofs.YtmbpneaibmldfaaGreat
open Go.RowKit Go.Eng Go.Eng _root_.Go.Proofs.Tryz
set_option maxRecDepth 100000
variable {w0 w:World} {M0 Fz:Nat→Prop} {H:List It} {A:Option Addr} {c:Nat}
set_option maxHeartbeats 40000000 in
theorem efB_ok {Aa:Option Addr} {ca:Nat} {a:List Bat} {Sa:Nat→Prop} {Ab:Option Addr} {cb:Nat} {b:List Bat} {Sb:Nat→Prop} (ha:GS batR Sa w Aa ca a) (hb:GS batR Sb w Ab cb b):Ret prog 122 #[.slice Aa a.length ca, .slice Ab b.length cb, .func (.func 119) #[] #[]] w (fun v w'=>v= .bool (decide (a=b))∧Ext w w'):=by
 have mha:=ha.mx
 have mhb:=hb.mx
 refine ret_of_wk func122 rfl ntmps122 leB_ ?_
 have hp:=HP.begin_ w
 replace ha:=ha.now
 replace hb:=hb.now
 refine go ?_
 refine Ln_ underlying31 rfl (go ?_)
 refine Ln_ underlying31 rfl ?_
 refine Ne_ rfl rfl (go ?_)
 refine Cd (fun hne=> ?_) fun hne=> ?_
 refine go ?_
 refine P1 results122 ?_
 exact ⟨_,rfl,bool_f (fun e=>hne (by rw [e])),hp.chg⟩
 have hll:a.length=b.length:=by omega
 refine go ?_
 refine Ln_ underlying31 rfl (go ?_)
 refine wc_loop (fun L' w' mes => ∃ (k : Nat), L' = [(1, .slice Ab b.length cb), (2, .func (.func 119) #[] #[]), (15, .slice Aa a.length ca), (16, iv (a.length : Int)), (17, iv (k : Int))] ∧ (k ≤ a.length) ∧ (a.take k = b.take k) ∧ (GS batR (fun b => b < w.heap.size) w' Aa ca a) ∧ (GS batR (fun b => b < w.heap.size) w' Ab cb b) ∧ (HP w (fun _ => False) (fun b => b < w.heap.size) w' ([])) ∧ a.length - k = mes) [(1, .slice Ab b.length cb), (2, .func (.func 119) #[] #[]), (15, .slice Aa a.length ca), (16, iv (a.length : Int)), (17, iv (0 : Int))] (a.length - 0) (by
     refine ⟨0,rfl, ?_, ?_, ?_, ?_, ?_,rfl⟩
     · omega
     · simp
     · exact ha
     · exact hb
     · exact hp) ⟨rfl,rfl,rfl,rfl,rfl,trivial⟩ ?_
 rintro _ wr _ ⟨k,rfl,hk,htk,ha,hb,hp,rfl⟩ KL1 hKL1
 refine go ?_
 refine Ls_ rfl rfl (go ?_)
 refine Cd (fun hlt=> ?_) fun hlt=> ?_
 refine go ?_
 obtain ⟨ae1,pe1_0,qe1_0,hAe1,hate1,he1_0⟩:=batR_el ha k (by omega)
 refine wl_idx0 (by decide) sl31 rfl rfl hAe1 k rfl (by omega) ?_
 refine wl_loadA (by decide) ag89 rfl hate1.at_ rfl ?_
 refine wl_halloc (e:=89) (z:= .agg #[.int .u8 0, .int .u8 0, .int .u8 0, .int .u8 0, .int .u8 0, .int .u8 0, .int .u8 0, .int .u8 0, .int .u8 0, .int .u8 0, .int .u8 0, .int .u8 0, .int .u8 0, .int .u8 0, .int .u8 0, .int .u8 0, .int .u8 0, .int .u8 0, .int .u8 0, .int .u8 0, .int .u8 0, .int .u8 0, .int .u8 0, .int .u8 0, .int .u8 0, .int .u8 0, .int .u8 0, .int .u8 0, .int .u8 0, .int .u8 0, .int .u8 0, .int .u8 0,s0]) (by decide) (by kernel_rfl) hp ?_
 rintro gs8 w2 hp2 hE2
 have q0:=hE2
 replace hp:=hp2
 replace hp:=hp.ay (itB gs8 89 (digC bat0.dig++([s0]))::_)
 refine go ?_
 refine wl_hstore (i:=0) rfl rfl hp rfl sz89 leB_ (List.all_eq_true.1 rfl) ?_
 rintro w3 hp3 hC3
 have q1:=ha.tk.ext q0
 replace q1:=q1.fz hC3
 replace hp:=hp3
 replace hp:=hp.ay (itB gs8 89 (digC ((a.getD k bat0).dig)++([.slice pe1_0 ((a.getD k bat0).wishes).length qe1_0]))::_)
 refine go ?_
 obtain ⟨ae4,pe4_0,qe4_0,hAe4,hate4,he4_0⟩:=batR_el (hb.fr q1) k (by omega)
 refine wl_idx0 (by decide) sl31 rfl rfl hAe4 k rfl (by omega) ?_
 refine wl_loadA (by decide) ag89 rfl hate4.at_ rfl ?_
 refine wl_halloc (e:=89) (z:= .agg #[.int .u8 0, .int .u8 0, .int .u8 0, .int .u8 0, .int .u8 0, .int .u8 0, .int .u8 0, .int .u8 0, .int .u8 0, .int .u8 0, .int .u8 0, .int .u8 0, .int .u8 0, .int .u8 0, .int .u8 0, .int .u8 0, .int .u8 0, .int .u8 0, .int .u8 0, .int .u8 0, .int .u8 0, .int .u8 0, .int .u8 0, .int .u8 0, .int .u8 0, .int .u8 0, .int .u8 0, .int .u8 0, .int .u8 0, .int .u8 0, .int .u8 0, .int .u8 0,s0]) (by decide) (by kernel_rfl) hp ?_
 rintro gs9 w5 hp5 hE5
 replace q1:=q1.ext hE5
 have q2:=hE5
 replace hp:=hp5
 replace hp:=hp.ay (itB gs9 89 (digC bat0.dig++([s0]))::_)
 refine wl_hstore (i:=0) rfl rfl hp rfl sz89 leB_ (List.all_eq_true.1 rfl) ?_
 rintro w6 hp6 hC6
 replace q1:=q1.fz hC6
 have q3:=he4_0.tk.ext q2
 replace q3:=q3.fz hC6
 replace hp:=hp6
 replace hp:=hp.ay (itB gs9 89 (digC ((b.getD k bat0).dig)++([.slice pe4_0 ((b.getD k bat0).wishes).length qe4_0]))::_)
 refine go ?_
 refine Hx_ (digC ((a.getD k bat0).dig)++([.slice pe1_0 ((a.getD k bat0).wishes).length qe1_0])) 1 ag89 rfl hp rfl rfl rfl ?_
 refine Hx_ (digC ((b.getD k bat0).dig)++([.slice pe4_0 ((b.getD k bat0).wishes).length qe4_0])) 0 ag89 rfl hp rfl rfl rfl ?_
 have hcl:=iSame1_ok ⟨_,_,rfl,(he1_0.fr q1)⟩ ⟨_,_,rfl,(he4_0.fr q3)⟩
 refine wl_callv (f:=119) (first:= []) (cap:= []) (by decide) cl119 rfl rfl hcl ?_
 clear hcl
 rintro _ w7 ⟨rfl,hE7⟩
 replace q1:=q1.ext hE7
 replace hp:=hp.ext hE7
 first|refine Nd_ rfl ?_|refine Nn_ rfl ?_
 refine go ?_
 refine Cd (fun hne2=> ?_) fun hne2=> ?_
 refine go ?_
 refine P1 results122 ?_
 exact ⟨_,rfl,bool_f (fun e=>hne2 (by rw [e])),hp.chg⟩
 replace hne2:=Decidable.not_not.1 hne2
 refine go ?_
 refine wl_add (by decide) rfl rfl (w64 (by omega) (by omega)) (gl ?_)
 refine wk_drop [(1, .slice Ab b.length cb),(2, .func (.func 119) #[] #[]),(15, .slice Aa a.length ca),(16,iv (a.length:Int)),(17,iv ((k+1):Int))] ⟨rfl,rfl,rfl,rfl,rfl,trivial⟩ (hKL1 _ _ (m2:=a.length-(k+1)) ?_ ?_)
 refine ⟨(k+1),rfl, ?_, ?_, ?_, ?_, ?_,rfl⟩
 omega
 rw [take_snoc bat0 (by omega:k<a.length),take_snoc bat0 (by omega:k<b.length),htk,hne2]
 exact (ha.fr q1)
 exact (hb.fr q1)
 exact hp.tail.tail
 omega
 have hkl:k=a.length:=by omega
 refine go ?_
 refine P1 results122 ?_
 exact ⟨_,rfl,bool_t (by rw [hkl,List.take_length,hll,List.take_length] at htk;exact htk),hp.chg⟩
end Go.Proofs.YtmbpneaibmldfaaGreat
namespace Go.Proofs.YtmbpneaibmldfaaGreat
open Go.RowKit Go.Eng _root_.Go.Proofs.Tryz Go.Eng _root_.Go.Proofs.Tryz
set_option maxRecDepth 100000
variable {w0 w:World} {M0 Fz:Nat→Prop} {H:List It} {A:Option Addr} {c:Nat}
theorem iNorm1_ok {w0 w:World} {M0 Fz:Nat→Prop} {H:List It} {A:Option Addr} {c:Nat} {go:Nat} {o:List UInt8} {bd:Bool} {x:Bat} {cs:List Value} {g2:Nat} (hp:HP w0 M0 Fz w (itB go 72 [.slice A o.length c, .bool bd]::itR 5 1 A o.length c (o.map bv)::H)) (hx:batR.rd Fz w cs x) (hat:AtF Fz w ⟨g2,0,none⟩ [pt go 0]) (hl:o.length+698≤1099511627776):Ret prog 78 #[.agg cs.toArray,pt g2 0] w (WoP go w0 M0 Fz w H (batW (o,bd) x)):=by
 obtain ⟨B0,d0,rfl,h0⟩:=hx
 have hd:=x.dig.h
 have hz:=wbS_len x.wishes
 refine ret_of_wk func78 rfl ntmps78 leB_ ?_
 refine so ?_
 refine Bx hp (h:=fun g w1 hp E1=> ?_)
 replace hp:=hp.rot3
 have hat1:=hat.ext E1
 refine so ?_
 refine wdP 3 hp (fun wD hp hED=>by refine pm ?_;exact .op rfl (wl_sliceA (by decide) ar26 rfl (wl_nil qp)) pl) fun wD hp hED=> ?_
 have hb:=hp.blkAt (i:=2) rfl
 refine Cw (iAdd_ok (b:=x.dig.l) (S:=fun _=>True) hp (((hb.at_ 0).take 32).bs rfl trivial hb.lt) (by omega)) (fun v A5 c5 w5 hp F5=>so ?_) (hx:=by rw [Dig.h];rfl)
 refine Ce (wBatchF_ok (h0.to (F:=Fz) (w':=w5))) ?_
 rintro _ w6 ⟨A6,c6,e,rfl,he,ho,E6⟩
 have z5:=hp.chg.size
 obtain ⟨F2,hp,s2,n2,l2⟩:=hp.frz E6
 have hg:=ho.bs.frz n2
 have hat6:=hat.to (F:=F2) (w':=w6)
 refine so ?_
 refine Cw (iStr_ok (e:=e) (most:=65536) hp hg (by simp only [addW,List.length_append];omega)) fun v A7 c7 w7 hp F7=>so ?_
 refine wk_post0 (.inr rfl) results78 ?_
 refine ⟨_,rfl, ?_⟩
 rw [←batW_is he]
 exact WoP.less hp.rot3.rot3.tail
end Go.Proofs.YtmbpneaibmldfaaGreat
namespace Go.Proofs.YtmbpneaibmldfaaGreat
open Go.RowKit Go.Eng Go.Eng _root_.Go.Proofs.Tryz
set_option maxRecDepth 100000
variable {w0 w:World} {M0 Fz:Nat→Prop} {H:List It} {A:Option Addr} {c:Nat}
set_option maxHeartbeats 40000000 in
theorem rPick_ok {gr:Nat} {l:List UInt8} {bad:Bool} {X:List Value→It} {pX pc:Addr} (hp:HP w0 M0 Fz w (itB gr 223 [.slice A l.length c, .bool bad]::X ([.int .i64 0]++(digC dig0++([.slice none 0 0])))::H)) (hS:Slot X pX 34) (hl:GS byteR Fz w A c l) (hcap:AtF Fz w pc [.iface 221 (.pointer (some ⟨gr,0,none⟩))]):Ret prog 193 #[.pointer (some pX), .pointer (some pc)] w (RdP 223 gr w0 M0 Fz w H X pickR pickP bad l):=by
 refine ret_of_wk func193 rfl ntmps193 leB_ ?_
 refine so ?_
 apply wdT 7 [.eq _,.eq _,.eq _,.eq _,.eq _,.eq _,.eq _]
 refine ⟨?_,?_,?_,?_,?_,?_,?_,trivial⟩<;>intro F wF hER hk
 exact Ld_ sc179 (hk.qi 1) (hcap.ext hER).head qz
 exact dm (hk.qi 0)
 exact Nc_ (hk.qe 1) qz
 have e5:=hk.qe 2
 refine Fe_ fld248_0 e5 ?_
 rw [add_zero']
 exact qz
 have e3:=hk.qe 0
 exact wl_makeFunc (first:= [.tmp 3]) (cap:= []) (by decide) (by simp only [evs,ev,e3];rfl) rfl qz
 exact wl_nilCheckM (t:=221) (by decide) mt250 (hk.qe 4) qz
 exact dm (hk.qe 0)
 intro F wD hED hini hdo
 refine wl_drop [(0,_),(1,_),(6,_),(9,_)] ⟨di hini 0,di hini 1,dr hdo 3,dr hdo 6,trivial⟩ ?_
 clear hini hdo
 replace hp:=hp.ext hED
 refine Ci rfl (nNum_ok (X:=(fun cs=>X (([])++(cs++(digC dig0++([s0])))))) (pX:=pX) (v0:=0) hp (hS.sub ([]) (digC dig0++([s0])) rfl) hl.to (by unfold i64;omega)) ?_
 rintro _ w1 ⟨F1,A1,c1,l1,b1,cs1,x1,hp,hF1,hl1,hrd1,hst1⟩
 obtain ⟨hI1,rfl⟩:=hrd1
 refine so ?_
 refine wP 7 hp (h:=fun wD hp hED=> ?_)
 refine Ci rfl (nDigest_ok (X:=(fun cs=>X (([iv x1])++(cs++([s0]))))) (pX:=(pX.add 1)) (d0:=dig0) hp (hS.sub ([iv x1]) ([s0]) rfl) hl1.to) ?_
 rintro _ w2 ⟨F2,A2,c2,l2,b2,cs2,x2,hp,hF2,hl2,hrd2,hst2⟩
 obtain rfl:=hrd2
 refine so ?_
 refine wP 7 hp (h:=fun wD hp hED=> ?_)
 refine Ci rfl (nBatch_ok (X:=(fun cs=>X (([iv x1]++(digC x2))++(cs++([]))))) (pX:=(pX.add 33)) hp (hS.sub ([iv x1]++(digC x2)) ([]) rfl) hl2.to) ?_
 rintro _ w3 ⟨F3,A3,c3,l3,b3,cs3,x3,hp,hF3,hl3,hrd3,hst3⟩
 obtain ⟨B3,d3,rfl,hg3⟩:=hrd3
 refine so ?_
 refine wk_post0 (.inr rfl) results193 ?_
 exact ⟨_,rfl,_,A3,c3,l3,b3,_,({seq:=x1,dig:=x2,batch:=x3}:Pck),((hp.up 1 rfl).up 1 rfl),mv,hl3,⟨hI1,_,_,rfl,hg3⟩,StepP.bind hst1 (StepP.bind hst2 (StepP.bind hst3 (StepP.pure _ _)))⟩
end Go.Proofs.YtmbpneaibmldfaaGreat
namespace Go.Proofs.YtmbpneaibmldfaaGreat
open Go.RowKit Go.Eng _root_.Go.Proofs.Tryz Go.Eng _root_.Go.Proofs.Tryz
set_option maxRecDepth 100000
variable {w0 w:World} {M0 Fz:Nat→Prop} {H:List It} {A:Option Addr} {c:Nat}
set_option maxHeartbeats 4000000 in
theorem tNormal_ok {w0 w:World} {M0 Fz:Nat→Prop} {H:List It} {A:Option Addr} {c:Nat} {gt:Nat} {l:List UInt8} {bad:Bool} (hp:HP w0 M0 Fz w (itB gt 94 [.slice A l.length c, .bool bad]::H)) (hl:GS byteR Fz w A c l):Ret prog 51 #[pt gt 0] w (TkP gt w0 M0 Fz w H aggV imgR imgP bad l):=by
 have fM: ∀(w:World) (Fz:Nat→Prop),FnT (.func (.func 100) [pt gt 0].toArray ([]:List Value).toArray) gt w0 M0 Fz w markR markP:=fun _ _ w1 F1 H1 A1 c1 l1 b1 _ hp1 hl1=>RetV.func (first:= [pt gt 0]) (cap:= []) (vs:= []) (ClC.h (P:=prog) (f:=100)) (tMark_ok hp1 hl1)
 have fS: ∀(w:World) (Fz:Nat→Prop),FnT (.func (.func 103) [pt gt 0].toArray ([]:List Value).toArray) gt w0 M0 Fz w standR istandP:=fun _ _ w1 F1 H1 A1 c1 l1 b1 _ hp1 hl1=>RetV.func (first:= [pt gt 0]) (cap:= []) (vs:= []) (ClC.h (P:=prog) (f:=103)) (tStand_ok hp1 hl1)
 have fB: ∀(w:World) (Fz:Nat→Prop),FnT (.func (.func 105) [pt gt 0].toArray ([]:List Value).toArray) gt w0 M0 Fz w batR batP:=fun _ _ w1 F1 H1 A1 c1 l1 b1 _ hp1 hl1=>RetV.func (first:= [pt gt 0]) (cap:= []) (vs:= []) (ClC.h (P:=prog) (f:=105)) (tBatch_ok hp1 hl1)
 refine ret_of_wk func51 rfl ntmps51 leB_ ?_
 refine so ?_
 refine Alo hp (h:=fun g2 w1 hp E1=> ?_)
 replace hp:=hp.swp.as_ (H':=itB gt 94 [.slice A l.length c, .bool bad]::itB g2 33 (imC 0 false 0 dig0 s0 s0 s0 (iv 0) s0 (.bool false) s0)::H) rfl
 refine so ?_
 refine Ce (tNum_ok (most:=1048576) hp (hl.ext E1)) ?_
 rintro _ w2 ⟨F2,A2,c2,l2,b2,n2,rfl,hp,f2,hg,hn2,hs2⟩
 refine so ?_
 refine H1 1 hp (h:=fun w3 hp C3=> ?_)
 replace hp:=hp.as_ (H':=itB gt 94 [.slice A2 l2.length c2, .bool b2]::itB g2 33 (imC n2 false 0 dig0 s0 s0 s0 (iv 0) s0 (.bool false) s0)::H) rfl
 refine so ?_
 refine Ce (tYes_ok hp hg.to) ?_
 rintro _ w4 ⟨F4,A4,c4,l4,b4,x4,rfl,hp,f4,hg,hs4⟩
 refine so ?_
 refine H1 1 hp (h:=fun w5 hp C5=> ?_)
 replace hp:=hp.as_ (H':=itB gt 94 [.slice A4 l4.length c4, .bool b4]::itB g2 33 (imC n2 x4 0 dig0 s0 s0 s0 (iv 0) s0 (.bool false) s0)::H) rfl
 refine so ?_
 refine Ce (tMark_ok hp hg.to) ?_
 rintro _ w6 ⟨F6,A6,c6,l6,b6,cs,x6,rfl,hp,f6,hg,⟨hI6,rfl⟩,hs6⟩
 refine so ?_
 refine Hs 1 hp (h:=fun w7 hp C7=> ?_)
 replace hp:=hp.as_ (H':=itB gt 94 [.slice A6 l6.length c6, .bool b6]::itB g2 33 (imC n2 x4 x6.seq x6.dig s0 s0 s0 (iv 0) s0 (.bool false) s0)::H) rfl
 refine so ?_
 refine Ce (tAllM_ok (most:=4) (by decide) hp hg.to (fM _ _)) ?_
 rintro _ w8 ⟨F8,A8,c8,l8,b8,B8,d8,x8,rfl,hp,f8,hg,hx8,hs8⟩
 refine so ?_
 refine H1 1 hp (h:=fun w9 hp C9=> ?_)
 replace hp:=hp.as_ (H':=itB gt 94 [.slice A8 l8.length c8, .bool b8]::itB g2 33 (imC n2 x4 x6.seq x6.dig (.slice B8 x8.length d8) s0 s0 (iv 0) s0 (.bool false) s0)::H) rfl
 refine so ?_
 refine Ce (tAllS_ok (most:=8) (by decide) hp hg.to (fS _ _)) ?_
 rintro _ w10 ⟨F10,A10,c10,l10,b10,B10,d10,x10,rfl,hp,f10,hg,hx10,hs10⟩
 refine so ?_
 refine H1 1 hp (h:=fun w11 hp C11=> ?_)
 replace hp:=hp.as_ (H':=itB gt 94 [.slice A10 l10.length c10, .bool b10]::itB g2 33 (imC n2 x4 x6.seq x6.dig (.slice B8 x8.length d8) (.slice B10 x10.length d10) s0 (iv 0) s0 (.bool false) s0)::H) rfl
 refine so ?_
 refine Ce (tAllS_ok (most:=32) (by decide) hp hg.to (fS _ _)) ?_
 rintro _ w12 ⟨F12,A12,c12,l12,b12,B12,d12,x12,rfl,hp,f12,hg,hx12,hs12⟩
 refine so ?_
 refine H1 1 hp (h:=fun w13 hp C13=> ?_)
 replace hp:=hp.as_ (H':=itB gt 94 [.slice A12 l12.length c12, .bool b12]::itB g2 33 (imC n2 x4 x6.seq x6.dig (.slice B8 x8.length d8) (.slice B10 x10.length d10) (.slice B12 x12.length d12) (iv 0) s0 (.bool false) s0)::H) rfl
 refine so ?_
 refine Ce (tNum_ok (most:=9007199254740991) hp hg.to) ?_
 rintro _ w14 ⟨F14,A14,c14,l14,b14,n14,rfl,hp,f14,hg,hn14,hs14⟩
 refine so ?_
 refine H1 1 hp (h:=fun w15 hp C15=> ?_)
 replace hp:=hp.as_ (H':=itB gt 94 [.slice A14 l14.length c14, .bool b14]::itB g2 33 (imC n2 x4 x6.seq x6.dig (.slice B8 x8.length d8) (.slice B10 x10.length d10) (.slice B12 x12.length d12) (iv n14) s0 (.bool false) s0)::H) rfl
 refine so ?_
 refine Ce (tAllM_ok (most:=8) (by decide) hp hg.to (fM _ _)) ?_
 rintro _ w16 ⟨F16,A16,c16,l16,b16,B16,d16,x16,rfl,hp,f16,hg,hx16,hs16⟩
 refine so ?_
 refine H1 1 hp (h:=fun w17 hp C17=> ?_)
 replace hp:=hp.as_ (H':=itB gt 94 [.slice A16 l16.length c16, .bool b16]::itB g2 33 (imC n2 x4 x6.seq x6.dig (.slice B8 x8.length d8) (.slice B10 x10.length d10) (.slice B12 x12.length d12) (iv n14) (.slice B16 x16.length d16) (.bool false) s0)::H) rfl
 refine so ?_
 refine Ce (tYes_ok hp hg.to) ?_
 rintro _ w18 ⟨F18,A18,c18,l18,b18,x18,rfl,hp,f18,hg,hs18⟩
 refine so ?_
 refine H1 1 hp (h:=fun w19 hp C19=> ?_)
 replace hp:=hp.as_ (H':=itB gt 94 [.slice A18 l18.length c18, .bool b18]::itB g2 33 (imC n2 x4 x6.seq x6.dig (.slice B8 x8.length d8) (.slice B10 x10.length d10) (.slice B12 x12.length d12) (iv n14) (.slice B16 x16.length d16) (.bool x18) s0)::H) rfl
 refine so ?_
 refine Ce (tAllB_ok (most:=40) (by decide) hp hg.to (fB _ _)) ?_
 rintro _ w20 ⟨F20,A20,c20,l20,b20,B20,d20,x20,rfl,hp,f20,hg,hx20,hs20⟩
 refine so ?_
 refine H1 1 hp (h:=fun w21 hp C21=> ?_)
 replace hp:=hp.as_ (H':=itB gt 94 [.slice A20 l20.length c20, .bool b20]::itB g2 33 (imC n2 x4 x6.seq x6.dig (.slice B8 x8.length d8) (.slice B10 x10.length d10) (.slice B12 x12.length d12) (iv n14) (.slice B16 x16.length d16) (.bool x18) (.slice B20 x20.length d20))::H) rfl
 rw [many_num] at hs14
 refine so ?_
 refine Hs 1 hp (h:=fun w22 hp C22=> ?_)
 replace hp:=hp.as_ (H':=itB gt 94 [.slice A20 l20.length c20, .bool b20]::itB g2 33 (imC n2 x4 x6.seq x6.dig (.slice B8 x8.length d8) (.slice B10 x10.length d10) (.slice B12 x12.length d12) (iv n14) (.slice B16 x16.length d16) (.bool x18) (.slice B20 x20.length d20))::H) rfl
 refine so ?_
 refine wk_postR (rs:= [.cell 2 33]) (.inl rfl) results51 ⟨_,_,_,rfl,rfl,loadVar_agg ag33 (hp.blkAt (i:=1) rfl).at0 rfl,rfl⟩ ?_
 refine ⟨_,rfl,F20,A20,c20,l20,b20,_,⟨n2,x4,x6,x8,x10,x12,n14,x16,x18,x20⟩,rfl,hp.swp.tail,mv,hg.to,⟨?_,_,_,_,_,_,_,_,_,_,_,rfl,hx8.to,hx10.to,hx12.to,hx16.to,hx20.to⟩,hs2.bind (hs4.bind (hs6.bind (hs8.bind (hs10.bind (hs12.bind (hs14.bind (hs16.bind (hs18.bind (hs20.bind (StepP.pure _ _))))))))))⟩
 unfold MrkI i64 at hI6
 unfold ImgI i64
 dsimp only
 omega
def full0:Rpl:=full1 (shaV (blistE [wshi]))
end Go.Proofs.YtmbpneaibmldfaaGreat
