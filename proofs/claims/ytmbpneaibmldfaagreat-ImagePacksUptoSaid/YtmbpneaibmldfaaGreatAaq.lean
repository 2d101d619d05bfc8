/- What each of these functions computes, for every argument that its theorem names; a part of what the proof of ImageOnce stands on. -/
import Derived.Test.YtmbpneaibmldfaaGreatAac
import Derived.Test.YtmbpneaibmldfaaGreatAad
import Derived.Test.YtmbpneaibmldfaaGreatAaf
import Derived.Test.YtmbpneaibmldfaaGreatAag
import Derived.Test.YtmbpneaibmldfaaGreatAai
import Derived.Test.YtmbpneaibmldfaaGreatAaj
import Derived.Test.YtmbpneaibmldfaaGreatAak
import Derived.Test.YtmbpneaibmldfaaGreatAal
namespace Go.Proofs.YtmbpneaibmldfaaGreat
open Go.RowKit Go.Eng _root_.Go.Proofs.Tryz Go.Eng _root_.Go.Proofs.Tryz
set_option maxRecDepth 100000
variable {w0 w:World} {M0 Fz:Nat→Prop} {H:List It} {A:Option Addr} {c:Nat}
theorem sched_ok {w:World} {B:List UInt8} (hB:B.length=64):Ret prog 214 #[.agg (B.map bv).toArray] w (fun v w'=>v= .agg ((sched B).map uv).toArray∧Ext w w'):=by
 refine ret_of_wk func214 rfl ntmps214 leB_ ?_
 have hp:=HP.begin_ w
 refine so ?_
 refine Bx hp (h:=fun g1 w1 hp E1=>so ?_)
 refine Alo hp (h:=fun g2 w2 hp E2=>so ?_)
 refine Alo hp (h:=fun g3 w3 hp E3=> ?_)
 replace hp:=hp.as_ (H':= [itB g3 262 ((schA B 0).map uv),itB g2 262 ((List.replicate 64 (0:Int)).map uv),itB g1 232 (B.map bv)]) rfl
 refine so ?_
 refine Lp [1,2,3,4] (fun L' w' mes=> ∃k:Nat,L'= [(1,pt g1 0),(2,pt g2 0),(3,pt g3 0),(4,iv (k:Int))]∧k≤16∧HP w (fun _=>False) (fun b=>b<w.heap.size) w' [itB g3 262 ((schA B k).map uv),itB g2 262 ((List.replicate 64 (0:Int)).map uv),itB g1 232 (B.map bv)]∧mes=16-k) 16 ⟨0,rfl,by omega,hp,rfl⟩ ?_ (by rfl)
 rintro _ wr _ ⟨k,rfl,hk,hp,rfl⟩ KL hKL
 refine so ?_
 refine Cd ?_ ?_<;>intro hc
 ·have hkl : k < 16 := by omega
  refine so ?_
  refine wdP 31 hp (fun wD hp hED=>by
   apply PL.op;rfl;exact wl_move (by decide) rfl (wl_nil qp)
   apply PL.op;rfl;exact wl_move (by decide) rfl (wl_nil qp)
   apply PL.op;rfl;exact wl_mul (by decide) rfl rfl (idN (k:=4*k) (by omega) (by omega)) (wl_nil qp)
   apply PL.op;rfl;exact wl_ixA (by decide) ar232 rfl rfl (4*k) rfl (by omega) (wl_nil qp)
   apply PL.op;rfl;exact wl_ldM 2 (by decide) sc5 rfl hp rfl (z:=(0:UInt8)) (by rw [hB];omega) (wl_nil qp)
   apply PL.op;rfl;exact wl_conv (k1:= .u8) (k2:= .u32) (by decide) (by kernel_rfl) (by kernel_rfl) rfl rfl (wl_nil qp)
   apply PL.op;rfl;exact wl_mul (by decide) rfl rfl rfl (wl_nil qp)
   apply PL.op;rfl;exact wl_move (by decide) rfl (wl_nil qp)
   apply PL.op;rfl;exact wl_mul (by decide) rfl rfl (idN (k:=4*k) (by omega) (by omega)) (wl_nil qp)
   apply PL.op;rfl;exact wl_add (by decide) rfl rfl (idN (k:=4*k+1) (by omega) (by omega)) (wl_nil qp)
   apply PL.op;rfl;exact wl_ixA (by decide) ar232 rfl rfl (4*k+1) rfl (by omega) (wl_nil qp)
   apply PL.op;rfl;exact wl_ldM 2 (by decide) sc5 rfl hp rfl (z:=(0:UInt8)) (by rw [hB];omega) (wl_nil qp)
   apply PL.op;rfl;exact wl_conv (k1:= .u8) (k2:= .u32) (by decide) (by kernel_rfl) (by kernel_rfl) rfl rfl (wl_nil qp)
   apply PL.op;rfl;exact wl_mul (by decide) rfl rfl rfl (wl_nil qp)
   apply PL.op;rfl;exact wl_add (by decide) rfl rfl rfl (wl_nil qp)
   apply PL.op;rfl;exact wl_move (by decide) rfl (wl_nil qp)
   apply PL.op;rfl;exact wl_mul (by decide) rfl rfl (idN (k:=4*k) (by omega) (by omega)) (wl_nil qp)
   apply PL.op;rfl;exact wl_add (by decide) rfl rfl (idN (k:=4*k+2) (by omega) (by omega)) (wl_nil qp)
   apply PL.op;rfl;exact wl_ixA (by decide) ar232 rfl rfl (4*k+2) rfl (by omega) (wl_nil qp)
   apply PL.op;rfl;exact wl_ldM 2 (by decide) sc5 rfl hp rfl (z:=(0:UInt8)) (by rw [hB];omega) (wl_nil qp)
   apply PL.op;rfl;exact wl_conv (k1:= .u8) (k2:= .u32) (by decide) (by kernel_rfl) (by kernel_rfl) rfl rfl (wl_nil qp)
   apply PL.op;rfl;exact wl_mul (by decide) rfl rfl rfl (wl_nil qp)
   apply PL.op;rfl;exact wl_add (by decide) rfl rfl rfl (wl_nil qp)
   apply PL.op;rfl;exact wl_move (by decide) rfl (wl_nil qp)
   apply PL.op;rfl;exact wl_mul (by decide) rfl rfl (idN (k:=4*k) (by omega) (by omega)) (wl_nil qp)
   apply PL.op;rfl;exact wl_add (by decide) rfl rfl (idN (k:=4*k+3) (by omega) (by omega)) (wl_nil qp)
   apply PL.op;rfl;exact wl_ixA (by decide) ar232 rfl rfl (4*k+3) rfl (by omega) (wl_nil qp)
   apply PL.op;rfl;exact wl_ldM 2 (by decide) sc5 rfl hp rfl (z:=(0:UInt8)) (by rw [hB];omega) (wl_nil qp)
   apply PL.op;rfl;exact wl_conv (k1:= .u8) (k2:= .u32) (by decide) (by kernel_rfl) (by kernel_rfl) rfl rfl (wl_nil qp)
   apply PL.op;rfl;exact wl_add (by decide) rfl rfl rfl (wl_nil qp)
   apply PL.op;rfl;exact wl_ixA (by decide) ar262 rfl rfl k rfl (by omega) (wl_nil qp)
   exact .nil
   ) fun wD hp hED=> ?_
  refine H1 0 hp (hl:=by rw [List.length_map,schA_len];omega) (h:=fun w9 hp C9=> ?_)
  replace hp:=hp.as_ (H':= [itB g3 262 ((schA B (k+1)).map uv),itB g2 262 ((List.replicate 64 (0:Int)).map uv),itB g1 232 (B.map bv)]) (by rw [schA,←map_set];rfl)
  refine so ?_
  exact Kl [1,2,3,4] hKL (16-(k+1)) ⟨k+1,rfl,by omega,hp,rfl⟩ (by omega)
 obtain rfl:k=16:=by omega
 refine so ?_
 refine Lp [2,3,5] (fun L' w' mes=> ∃k:Nat,L'= [(2,pt g2 0),(3,pt g3 0),(5,iv ((16+k:Nat):Int))]∧k≤48∧HP w (fun _=>False) (fun b=>b<w.heap.size) w' [itB g3 262 ((schB (schA B 16) k).map uv),itB g2 262 ((List.replicate 64 (0:Int)).map uv),itB g1 232 (B.map bv)]∧mes=48-k) 48 ⟨0,rfl,by omega,hp,rfl⟩ ?_ (by rfl)
 rintro _ wr _ ⟨k,rfl,hk,hp,rfl⟩ KL hKL
 have hlB:(schB (schA B 16) k).length=64:=schB_len _ (schA_len B 16) k
 refine so ?_
 refine Cd ?_ ?_<;>intro hc
 ·have hkl : k < 48 := by omega
  refine so ?_
  refine wdP 10 hp (fun wD hp hED=>by
   apply PL.op;rfl;exact wl_move (by decide) rfl (wl_nil qp)
   apply PL.op;rfl;exact wl_sub (by decide) rfl rfl (idN (k:=16+k-15) (by omega) (by omega)) (wl_nil qp)
   apply PL.op;rfl;exact wl_ixA (by decide) ar262 rfl rfl (16+k-15) rfl (by omega) (wl_nil qp)
   apply PL.op;rfl;exact wl_ldM 0 (by decide) sc229 rfl hp rfl (z:=(0:Int)) (by rw [hlB];omega) (wl_nil qp)
   apply PL.op;rfl;exact wl_move (by decide) rfl (wl_nil qp)
   apply PL.op;rfl;exact wl_sub (by decide) rfl rfl (idN (k:=16+k-2) (by omega) (by omega)) (wl_nil qp)
   apply PL.op;rfl;exact wl_ixA (by decide) ar262 rfl rfl (16+k-2) rfl (by omega) (wl_nil qp)
   apply PL.op;rfl;exact wl_ldM 0 (by decide) sc229 rfl hp rfl (z:=(0:Int)) (by rw [hlB];omega) (wl_nil qp)
   apply PL.op;rfl;exact wl_assign (by decide) rfl (wl_nil qp)
   apply PL.op;rfl;exact wl_assign (by decide) rfl (wl_nil qp)
   exact .nil
   ) fun wD hp hED=> ?_
  refine so ?_
  refine wdP 29 hp (fun wD hp hED=>by
   apply PL.op;rfl;exact wl_move (by decide) rfl (wl_nil qp)
   apply PL.op;rfl;exact wl_move (by decide) rfl (wl_nil qp)
   apply PL.op;rfl;exact wl_sub (by decide) rfl rfl (idN (k:=16+k-16) (by omega) (by omega)) (wl_nil qp)
   apply PL.op;rfl;exact wl_ixA (by decide) ar262 rfl rfl (16+k-16) rfl (by omega) (wl_nil qp)
   apply PL.op;rfl;exact wl_ldM 0 (by decide) sc229 rfl hp rfl (z:=(0:Int)) (by rw [hlB];omega) (wl_nil qp)
   apply PL.op;rfl;exact wl_move (by decide) rfl (wl_nil qp)
   apply PL.op;rfl;exact Cy (ror_ok (n:=7) (by omega)) (fun wc hEc=>wl_nil (qpe hEc))
   apply PL.op;rfl;exact wl_move (by decide) rfl (wl_nil qp)
   apply PL.op;rfl;exact Cy (ror_ok (n:=18) (by omega)) (fun wc hEc=>wl_nil (qpe hEc))
   apply PL.op;rfl;exact wl_xor (by decide) rfl rfl rfl (wl_nil qp)
   apply PL.op;rfl;exact wl_move (by decide) rfl (wl_nil qp)
   apply PL.op;rfl;exact wl_shr (by decide) rfl rfl (by decide) rfl (wl_nil qp)
   apply PL.op;rfl;exact wl_xor (by decide) rfl rfl rfl (wl_nil qp)
   apply PL.op;rfl;exact wl_add (by decide) rfl rfl rfl (wl_nil qp)
   apply PL.op;rfl;exact wl_move (by decide) rfl (wl_nil qp)
   apply PL.op;rfl;exact wl_sub (by decide) rfl rfl (idN (k:=16+k-7) (by omega) (by omega)) (wl_nil qp)
   apply PL.op;rfl;exact wl_ixA (by decide) ar262 rfl rfl (16+k-7) rfl (by omega) (wl_nil qp)
   apply PL.op;rfl;exact wl_ldM 0 (by decide) sc229 rfl hp rfl (z:=(0:Int)) (by rw [hlB];omega) (wl_nil qp)
   apply PL.op;rfl;exact wl_add (by decide) rfl rfl rfl (wl_nil qp)
   apply PL.op;rfl;exact wl_move (by decide) rfl (wl_nil qp)
   apply PL.op;rfl;exact Cy (ror_ok (n:=17) (by omega)) (fun wc hEc=>wl_nil (qpe hEc))
   apply PL.op;rfl;exact wl_move (by decide) rfl (wl_nil qp)
   apply PL.op;rfl;exact Cy (ror_ok (n:=19) (by omega)) (fun wc hEc=>wl_nil (qpe hEc))
   apply PL.op;rfl;exact wl_xor (by decide) rfl rfl rfl (wl_nil qp)
   apply PL.op;rfl;exact wl_move (by decide) rfl (wl_nil qp)
   apply PL.op;rfl;exact wl_shr (by decide) rfl rfl (by decide) rfl (wl_nil qp)
   apply PL.op;rfl;exact wl_xor (by decide) rfl rfl rfl (wl_nil qp)
   apply PL.op;rfl;exact wl_add (by decide) rfl rfl rfl (wl_nil qp)
   apply PL.op;rfl;exact wl_ixA (by decide) ar262 rfl rfl (16+k) rfl (by omega) (wl_nil qp)
   exact .nil
   ) fun wD hp hED=> ?_
  refine H1 0 hp (hl:=by rw [List.length_map,hlB];omega) (h:=fun w9 hp C9=> ?_)
  replace hp:=hp.as_ (H':= [itB g3 262 ((schB (schA B 16) (k+1)).map uv),itB g2 262 ((List.replicate 64 (0:Int)).map uv),itB g1 232 (B.map bv)]) (by rw [schB,←map_set];rfl)
  refine so ?_
  exact Kl [2,3,5] hKL (48-(k+1)) ⟨k+1,rfl,by omega,hp,rfl⟩ (by omega)
 obtain rfl:k=48:=by omega
 have hW:sched B=schB (schA B 16) 48:=rfl
 generalize schB (schA B 16) 48=W at hp hlB hW
 rw [hW]
 clear hW
 refine so ?_
 refine wl_hloadA (by decide) ag262 rfl hp (i:=0) rfl (by rw [List.drop_zero,List.take_of_length_le]<;>simp [hlB]) ?_
 rw [show ((W.map uv).drop 0).take 64=W.map uv from by rw [List.drop_zero,List.take_of_length_le (by simp [hlB])]]
 refine Hs 1 hp (xs:=W.map uv) (ds:=W.map uv) (hc:=⟨rfl⟩) (hk:=by rw [List.length_map];exact hlB) (hl:=by simp [hlB]) (h1:=by intro u hu;obtain ⟨_,_,rfl⟩:=List.mem_map.1 hu;rfl) (hq:=putL_all (by simp [hlB])) (h:=fun w9 hp C9=>so ?_)
 refine wk_postR (rs:= [.cell 2 262]) (.inl rfl) results214 ⟨_,_,_,rfl,rfl,loadVar_agg ag262 (hp.blkAt (i:=1) rfl).at0 (by rw [List.length_map];exact hlB),rfl⟩ ?_
 exact ⟨_,rfl,rfl,hp.chg⟩
theorem rndA_len {S:List Int} (W:List Int) (h:S.length=8) (t:Nat):(rndA S W t).length=8:=by
 cases t with
 |zero=>exact h
 |succ t=>rfl
theorem sched_len (B:List UInt8):(sched B).length=64:=schB_len _ (schA_len B 16) 48
end Go.Proofs.YtmbpneaibmldfaaGreat
namespace Go.Proofs.YtmbpneaibmldfaaGreat
open Go.RowKit Go.Eng Go.Eng _root_.Go.Proofs.Tryz
set_option maxRecDepth 100000
variable {w0 w:World} {M0 Fz:Nat→Prop} {H:List It} {A:Option Addr} {c:Nat}
set_option maxHeartbeats 40000000 in
theorem batchMay1_ok {csw0:List Value} {w0:Wsh} {Sw0:Nat→Prop} {pn:Addr} {csn:List Value} {n:Nte} {Sn Pn:Nat→Prop} (hw0:wishR.rd Sw0 w csw0 w0) (hatn:AtF Pn w pn csn) (hn:noteR.rd Sn w csn n):Ret prog 221 #[.agg csw0.toArray, .pointer (some pn)] w (fun v w'=>v= .bool (decide (¬BM n.group n.epoch w0))∧Ext w w'):=by
 obtain ⟨hIw0,Aw00,cw00,Aw01,cw01,rfl,hw00,hw01⟩:=hw0
 obtain ⟨hIn,An0,cn0,An1,cn1,An2,cn2,An3,cn3,An4,cn4,An5,cn5,An6,cn6,An7,cn7,An8,cn8,An9,cn9,An10,cn10,rfl,hn0,hn1,hn2,hn3,hn4,hn5,hn6,hn7,hn8,hn9,hn10⟩:=hn
 have mhw00:=hw00.mx
 have mhw01:=hw01.mx
 have mhn0:=hn0.mx
 have mhn1:=hn1.mx
 have mhn2:=hn2.mx
 have mhn3:=hn3.mx
 have mhn4:=hn4.mx
 have mhn5:=hn5.mx
 have mhn6:=hn6.mx
 have mhn7:=hn7.mx
 have mhn8:=hn8.mx
 have mhn9:=hn9.mx
 have mhn10:=hn10.mx
 refine ret_of_wk func221 rfl ntmps221 leB_ ?_
 have hp:=HP.begin_ w
 replace hw00:=hw00.now
 replace hw01:=hw01.now
 replace hatn:=hatn.now
 refine go ?_
 refine wl_hbox (by decide) rfl hp ?_
 rintro gs2 w1 hp1 hE1
 have q0:=hE1
 replace hp:=hp1
 replace hp:=hp.ay (itB gs2 112 ([iv w0.client,iv w0.stamp,iv w0.group,iv w0.epoch,iv w0.kind,iv w0.block, .slice Aw00 w0.data.length cw00,iv w0.old,iv w0.new, .slice Aw01 w0.next.length cw01])::_)
 refine go ?_
 refine Hx_ ([iv w0.client,iv w0.stamp,iv w0.group,iv w0.epoch,iv w0.kind,iv w0.block, .slice Aw00 w0.data.length cw00,iv w0.old,iv w0.new, .slice Aw01 w0.next.length cw01]) 0 ag112 rfl hp rfl rfl rfl ?_
 have hcl:=wCheck_ok ⟨hIw0,_,_,_,_,rfl,(hw00.ext q0),(hw01.ext q0)⟩
 refine Cl_ cl157 rfl hcl ?_
 clear hcl
 rintro _ w2 ⟨rfl,hE2⟩
 replace q0:=q0.trans hE2
 replace hp:=hp.ext hE2
 refine Ne_ rfl rfl (go ?_)
 refine Gs 7 (fun hg1=> ?_) fun hg1=> ?_
 refine go ?_
 refine P1 results221 ?_
 exact ⟨_,rfl,bool_t (by unfold BM;simp_all;try omega),hp.chg⟩
 refine go ?_
 refine Fd_ 2 fld112_2 rfl rfl (go ?_)
 refine Hl_ 0 sc3 rfl hp rfl rfl (go ?_)
 refine Fe_ fld157_2 rfl (go ?_)
 refine Ld_ sc3 rfl ((hatn.ext q0).get rfl) (go ?_)
 refine Ne_ rfl rfl (go ?_)
 refine Gs 14 (fun hg2=> ?_) fun hg2=> ?_
 refine go ?_
 refine P1 results221 ?_
 exact ⟨_,rfl,bool_t (by unfold BM;simp_all;try omega),hp.chg⟩
 refine go ?_
 refine Fd_ 3 fld112_3 rfl rfl (go ?_)
 refine Hl_ 0 sc3 rfl hp rfl rfl (go ?_)
 refine Fe_ fld157_3 rfl (go ?_)
 refine Ld_ sc3 rfl ((hatn.ext q0).get rfl) (go ?_)
 refine Ne_ rfl rfl (go ?_)
 refine P1 results221 ?_
 exact ⟨_,rfl,congrArg Value.bool (decide_eq_decide.2 (by unfold BM;simp_all;try omega)),hp.chg⟩
theorem ChangeMay_prog {cg : Chn} : ChangeMay cg ↔ (1 ≤ cg.node ∧ cg.node ≤ 28) ∧ (1 ≤ cg.view ∧ cg.view ≤ 1048576) ∧ (0 ≤ cg.low ∧ cg.low ≤ 9007199254740983) ∧ (1 ≤ cg.marks.length ∧ cg.marks.length ≤ 5) ∧ (cg.marks.getD 0 mark0).seq = cg.low ∧
  RiseI (mseq cg cg.marks.length)∧(cg.marks.getD (cg.marks.length-1) mark0).seq≤9007199254740991∧StandsMay cg.p cg.low cg.view 1∧StandsMay cg.q cg.low cg.view 4:=by
 unfold ChangeMay
 constructor
 ·rintro ⟨a1, a2, a3, a4, a5, a6, a7, a8, a9, a10, a11, a12⟩
  refine ⟨⟨a1,a2⟩,⟨a3,a4⟩,⟨a5,a6⟩,⟨a7,a8⟩,a9,marks_fwd a10, ?_,a11,a12⟩
  by_cases h1:cg.marks.length=1
  ·rw [h1];show (cg.marks.getD 0 mark0).seq≤_;omega
  ·exact (a10 (cg.marks.length-1) (by omega) (by omega)).2
 ·rintro ⟨⟨a1, a2⟩, ⟨a3, a4⟩, ⟨a5, a6⟩, ⟨a7, a8⟩, a9, a10, a13, a11, a12⟩
  exact ⟨a1,a2,a3,a4,a5,a6,a7,a8,a9,marks_back a10 a13,a11,a12⟩
set_option maxHeartbeats 40000000 in
theorem gListS_ok {gw:Nat} {out:List UInt8} {pa:Addr} {B:Option Addr} {d:Nat} {l:List Stn} {E:Stn→List UInt8} {ok:Stn→Prop} {FV:Value} {most:Int} (hp:HP w0 M0 Fz w (itB gw 132 [.slice A out.length c]::itR 5 1 A out.length c (out.map bv)::H)) (hat:AtF Fz w pa [.slice B l.length d]) (hl:GS standR Fz w B d l) (hok: ∀x∈l,ok x) (hE:EachW prog 5 132 gw w0 M0 Fz w standR E ok FV) (hnl:isNum (l.length:Int)) (hlen:out.length+(listE E l).length≤1000000):Ret prog 132 #[.iface 130 (.pointer (some ⟨gw,0,none⟩)), .pointer (some pa), .int .i64 most,FV] w (WrP 5 132 gw w0 M0 Fz w H (out++listE E l)):=by
 have hnl2:=hnl
 unfold isNum at hnl2
 refine ret_of_wk func132 rfl ntmps132 leB_ ?_
 refine so ?_
 refine wP 9 hp (h:=fun wD hp hED=> ?_)
 refine Ci rfl (gMany_ok (v9:=iv most) hp hnl (by simp only [listE,List.length_append] at hlen⊢;omega)) ?_
 rintro _ w1 ⟨rfl,A1,c1,hp,hF1⟩
 refine so ?_
 refine Lp [1, 3, 21, 22] (fun L' w' mes => ∃ (k : Nat), ∃ (A2 : Option Addr), ∃ (c2 : Nat), L' = [(1, .pointer (some pa)), (3, FV), (21, iv (l.length : Int)), (22, iv (k : Int))] ∧ (k ≤ l.length) ∧ (Frz Fz Fz w w') ∧ (AtF Fz w' pa [.slice B l.length d]) ∧ (GS standR Fz w' B d l) ∧ (HP w0 M0 Fz w' (itB gw 132 [.slice A2 (out ++ numE (l.length : Int) ++ flatE E (l.take k)).length c2] :: itR 5 1 A2 (out ++ numE (l.length : Int) ++ flatE E (l.take k)).length c2 ((out ++ numE (l.length : Int) ++ flatE E (l.take k)).map bv) :: H)) ∧ l.length - k = mes) (l.length - 0) (by
     refine ⟨0,A1,c1,rfl,Nat.zero_le _,mv,hat.to,hl.to, ?_,rfl⟩
     simp only [List.take_zero,flatE_nil,List.append_nil];exact hp) ?_
 rintro _ wr _ ⟨k,A2,c2,rfl,hk,hFr,hat,hl,hp,rfl⟩ KL1 hKL1
 refine so ?_
 refine Cd ?_ ?_<;>intro hc1
 have hk9:k<l.length:=by omega
 refine so ?_
 refine aF (so ?_)
 obtain ⟨ax,csx,hax,hatx,hrdx⟩:=hl.el k hk9
 refine wl_idx0 (size:=34) (by decide) sl30 rfl rfl hax k rfl hk9 ?_
 have hcl:=hE _ _ _ _ _ _ _ _ hFr hp hatx hrdx (hok _ (List.getElem_mem hk9)) (flat_room (_out:=l) hk9 hlen)
 refine wl_callF (vs:= [.pointer (some (ax.add (k*34)))]) (by decide) rfl rfl (fun _ h=>by cases h) hcl ?_
 clear hcl
 rintro _ w9 ⟨A9,c9,hp,hF9⟩
 refine so ?_
 refine Kl [1,3,21,22] hKL1 (l.length-(k+1)) ⟨(k+1),A9,c9,rfl,by omega,mv,hat.to,hl.to, ?_,rfl⟩ (by omega)
 rw [flat_take E l k hk9,←List.append_assoc];exact hp
 refine so ?_
 refine wk_post0 (.inr rfl) results132 ?_
 have hkl:k=l.length:=by omega
 rw [hkl,List.take_length,List.append_assoc] at hp
 exact ⟨_,rfl,_,_,hp,hFr⟩
set_option maxHeartbeats 40000000 in
theorem wBytes_ok {csx:List Value} {x:Wsh} {Sx:Nat→Prop} (hx:wishR.rd Sx w csx x) (hm:WishMay x):Ret prog 125 #[.agg csx.toArray] w (fun v w'=> ∃A' c',v= .tuple #[.slice A' (wishE x).length c', .int .i64 0]∧OwnB 5 w.heap.size w' A' c' (wishE x)∧Ext w w'):=by
 have qhx:=hx
 obtain ⟨hIx,Ax0,cx0,Ax1,cx1,rfl,hx0,hx1⟩:=hx
 obtain ⟨⟨q0,q1,q2,q3,q4,q5,q6,q7,q8,q9⟩,hwl⟩:=wish_fine hm
 have hss:strS x.data=(strE x.data,0):=str_good (by omega)
 have hnl:isNum (x.next.length:Int):=by have:=q9.1;unfold isNum;omega
 have hok6: ∀y∈ [x.kind,x.client,x.stamp,x.group,x.epoch,x.block],isNum y:=by
   intro y hy
   simp only [List.mem_cons,List.not_mem_nil,or_false] at hy
   rcases hy with rfl|rfl|rfl|rfl|rfl|rfl<;>assumption
 have hok3: ∀y∈ [x.old,x.new,(x.next.length:Int)],isNum y:=by
   intro y hy
   simp only [List.mem_cons,List.not_mem_nil,or_false] at hy
   rcases hy with rfl|rfl|rfl<;>assumption
 have hokn: ∀y∈x.next,isNum y:=q9.2
 have hn7:=q9.1
 refine ret_of_wk func125 rfl ntmps125 leB_ ?_
 have hp:=HP.begin_ w
 refine so ?_
 refine Bx hp (h:=fun gs1 w1 hp hE1=> ?_)
 replace hp:=hp.ay (itB gs1 112 ([iv x.client,iv x.stamp,iv x.group,iv x.epoch,iv x.kind,iv x.block, .slice Ax0 x.data.length cx0,iv x.old,iv x.new, .slice Ax1 x.next.length cx1])::_)
 refine so ?_
 refine Cx hp (wCheck_ok (w0:=x) (rdTn qhx)) fun w2 hp hE2=>so ?_
 refine Cd ?_ ?_<;>intro hc<;>refine so ?_
 exact absurd hc (by simp [hm])
 refine Ce (str_ok hx0.tn) ?_
 rintro _ w3 ⟨A3,c3,rfl,ho3,hE3⟩
 replace ho3:=ho3.bs
 have hsz4:=hp.chg.size
 obtain ⟨Fz4,hp4,hsub4,hnew4,hup4⟩:=hp.frz hE3
 replace hp:=hp4
 replace ho3:=ho3.frz hnew4
 refine so ?_
 refine Cd ?_ ?_<;>intro hc2<;>refine so ?_
 exact absurd (by rw [hss]) hc2
 have hdat:=ho3
 have hnx:=(hx1.tn (w':=w3))
 apply wdL [SP.eq _,SP.eq _,SP.eq _,SP.eq _,SP.eq _,SP.eq _,SP.eq _,SP.eq _,SP.eq _,SP.eq _,SP.eq _,SP.eq _,SP.gs intR (fun _=>True) [x.kind,x.client,x.stamp,x.group,x.epoch,x.block],SP.gs byteR (fun _=>True) (flatE numE [x.kind,x.client,x.stamp,x.group,x.epoch,x.block]),SP.gs byteR (fun _=>True) (strE x.data),SP.eq _,SP.eq _,SP.eq _,SP.eq _,SP.eq _,SP.eq _,SP.eq _,SP.gs intR (fun _=>True) [x.old,x.new,(x.next.length:Int)],SP.gs byteR (fun _=>True) (flatE numE [x.old,x.new,(x.next.length:Int)]),SP.eq _,SP.eq _,SP.gs byteR (fun _=>True) (flatE numE x.next),SP.gs (sliceR byteR) (fun _=>True) [flatE numE [x.kind,x.client,x.stamp,x.group,x.epoch,x.block],strE x.data,flatE numE [x.old,x.new,(x.next.length:Int)],flatE numE x.next],SP.own 5 1 w.heap.size (wishE x).length ((wishE x).map bv),SP.own 5 1 w.heap.size (wishE x).length ((wishE x).map bv),SP.eq _]
 refine ⟨?_,?_,?_,?_,?_,?_,?_,?_,?_,?_,?_,?_,?_,?_,?_,?_,?_,?_,?_,?_,?_,?_,?_,?_,?_,?_,?_,?_,?_,?_,?_,trivial⟩<;>intro F wF hER hk
 exact Fd_ 4 fld112_4 (hk.pi 1) rfl qz
 exact Hl_ 0 sc3 (hk.pe 0) (hp.ext hER) rfl rfl qz
 exact Fd_ 0 fld112_0 (hk.pi 1) rfl qz
 exact Hl_ 0 sc3 (hk.pe 2) (hp.ext hER) rfl rfl qz
 exact Fd_ 1 fld112_1 (hk.pi 1) rfl qz
 exact Hl_ 0 sc3 (hk.pe 4) (hp.ext hER) rfl rfl qz
 exact Fd_ 2 fld112_2 (hk.pi 1) rfl qz
 exact Hl_ 0 sc3 (hk.pe 6) (hp.ext hER) rfl rfl qz
 exact Fd_ 3 fld112_3 (hk.pi 1) rfl qz
 exact Hl_ 0 sc3 (hk.pe 8) (hp.ext hER) rfl rfl qz
 exact Fd_ 5 fld112_5 (hk.pi 1) rfl qz
 exact Hl_ 0 sc3 (hk.pe 10) (hp.ext hER) rfl rfl qz
 have e22:=hk.pe 1
 have e24:=hk.pe 3
 have e26:=hk.pe 5
 have e28:=hk.pe 7
 have e30:=hk.pe 9
 have e32:=hk.pe 11
 refine wl_bsliceI (xs:= [.tmp 22, .tmp 24, .tmp 26, .tmp 28, .tmp 30, .tmp 32]) (l:= [x.kind,x.client,x.stamp,x.group,x.epoch,x.block]) (by decide) sl22 rfl (by simp only [evs,ev,e22,e24,e26,e28,e30,e32];rfl) rfl (by simp) ?_
 intro g7 w7 hg7 hE7
 exact qz ⟨hE7,_,_,rfl,hg7⟩
 obtain ⟨u33,e33,h33⟩:=hk.pp 12
 obtain ⟨A33,c33,rfl,h33⟩:=h33
 have hcl:=nums_ok h33 hok6 (by first|exact leB_|omega)
 refine Cl_ cl124 (by simp only [evs,ev,e33];first|done|rfl) hcl ?_
 clear hcl
 rintro _ w7 ⟨A7,c7,rfl,ho7,hE7⟩
 exact qz ⟨hE7,_,_,rfl,ho7.bs.mono (fun _ _ _=>trivial)⟩
 have e5:=hk.pi 5
 have h9:=(hdat.ext hER).mono (S':=fun _=>True) (fun _ _ _=>trivial)
 rw [hss] at h9
 refine Mv_ e5 ?_
 rw [hss]
 exact qz ⟨Chg.refl _ _,_,_,rfl,h9⟩
 exact Fd_ 7 fld112_7 (hk.pi 1) rfl qz
 exact Hl_ 0 sc3 (hk.pe 15) (hp.ext hER) rfl rfl qz
 exact Fd_ 8 fld112_8 (hk.pi 1) rfl qz
 exact Hl_ 0 sc3 (hk.pe 17) (hp.ext hER) rfl rfl qz
 exact Fd_ 9 fld112_9 (hk.pi 1) rfl qz
 exact Hl_ 0 sc22 (hk.pe 19) (hp.ext hER) rfl rfl qz
 exact Ln_ underlying22 (hk.pe 20) qz
 have e37:=hk.pe 16
 have e39:=hk.pe 18
 have e42:=hk.pe 21
 refine wl_bsliceI (xs:= [.tmp 37, .tmp 39, .tmp 42]) (l:= [x.old,x.new,(x.next.length:Int)]) (by decide) sl22 rfl (by simp only [evs,ev,e37,e39,e42];rfl) rfl (by simp) ?_
 intro g7 w7 hg7 hE7
 exact qz ⟨hE7,_,_,rfl,hg7⟩
 obtain ⟨u43,e43,h43⟩:=hk.pp 22
 obtain ⟨A43,c43,rfl,h43⟩:=h43
 have hcl:=nums_ok h43 hok3 (by first|exact leB_|omega)
 refine Cl_ cl124 (by simp only [evs,ev,e43];first|done|rfl) hcl ?_
 clear hcl
 rintro _ w7 ⟨A7,c7,rfl,ho7,hE7⟩
 exact qz ⟨hE7,_,_,rfl,ho7.bs.mono (fun _ _ _=>trivial)⟩
 exact Fd_ 9 fld112_9 (hk.pi 1) rfl qz
 exact Hl_ 0 sc22 (hk.pe 24) (hp.ext hER) rfl rfl qz
 have e46:=hk.pe 25
 have hcl:=nums_ok (hnx.ext hER) hokn (by first|exact leB_|omega)
 refine Cl_ cl124 (by simp only [evs,ev,e46];first|done|rfl) hcl ?_
 clear hcl
 rintro _ w7 ⟨A7,c7,rfl,ho7,hE7⟩
 exact qz ⟨hE7,_,_,rfl,ho7.bs.mono (fun _ _ _=>trivial)⟩
 obtain ⟨u34,e34,h34⟩:=hk.pp 13
 obtain ⟨A34,c34,rfl,h34⟩:=h34
 obtain ⟨u35,e35,h35⟩:=hk.pp 14
 obtain ⟨A35,c35,rfl,h35⟩:=h35
 obtain ⟨u44,e44,h44⟩:=hk.pp 23
 obtain ⟨A44,c44,rfl,h44⟩:=h44
 obtain ⟨u47,e47,h47⟩:=hk.pp 26
 obtain ⟨A47,c47,rfl,h47⟩:=h47
 refine wl_bsliceS (r:=byteR) (xs:= [.tmp 34, .tmp 35, .tmp 44, .tmp 47]) (ls:= [flatE numE [x.kind,x.client,x.stamp,x.group,x.epoch,x.block],strE x.data,flatE numE [x.old,x.new,(x.next.length:Int)],flatE numE x.next]) (by decide) sl173 rfl (by simp only [evs,ev,e34,e35,e44,e47];first|done|rfl) rfl (by decide) (SlicesOf.cons h34 (SlicesOf.cons h35 (SlicesOf.cons h44 (SlicesOf.cons h47 SlicesOf.nil)))) ?_
 intro g7 w7 hg7 hE7
 exact qz ⟨hE7,_,_,rfl,hg7⟩
 obtain ⟨u48,e48,h48⟩:=hk.pp 27
 obtain ⟨A48,c48,rfl,h48⟩:=h48
 have hcl:=join_ok h48 (by rw [wish_parts];omega)
 refine Cl_ cl134 (by simp only [evs,ev,e48];first|done|rfl) hcl ?_
 clear hcl
 rintro _ w7 ⟨A7,c7,rfl,ho7,hE7⟩
 rw [wish_parts] at ho7⊢
 exact qz ⟨hE7,_,_,rfl,ho7.lower (Nat.le_trans hp.chg.size hER.size)⟩
 obtain ⟨u49,e49,h49⟩:=hk.pp 28
 obtain ⟨A49,c49,rfl,h49⟩:=h49
 refine wl_assign (by decide) e49 ?_
 exact qz ⟨Chg.refl _ _,_,_,rfl,h49⟩
 exact wl_assign (by decide) rfl qz
 intro F wD hED hini hdo
 obtain ⟨u2,e2,h2⟩:=hdo 29 2 rfl
 obtain ⟨A2,c2,rfl,h2⟩:=h2
 refine wk_drop [(2,_),(3,_)] ⟨e2,dq hdo 30,trivial⟩ ?_
 clear e2 hini hdo
 replace hp:=hp.ext hED
 refine so ?_
 refine P2 results125 ?_
 exact ⟨_,rfl,A2,c2,rfl,h2,hp.chg⟩
set_option maxHeartbeats 4000000 in
theorem r11NumW_ok {n:Int} {w:World} (hn:isNum n):Ret Tryz.prog 84 #[.int .i64 n] w (fun v w'=> ∃A' c',v= .slice A' (numE n).length c'∧OwnB 5 w.heap.size w' A' c' (numE n)∧Ext w w'):=by
 refine ret_of_wk Tryz.func84 rfl Tryz.ntmps84 (Nat.le_of_ble_eq_true rfl) ?_
 have hEc:Ext w w:=Chg.refl _ _
 refine wc_seq ?_
 refine wc_region ?_
 refine wl_assign (by decide) rfl ?_
 refine wl_nil ?_
 refine wk_norm ?_
 refine wc_seq ?_
 refine wc_region ?_
 refine wl_move (by decide) rfl ?_
 refine wl_call (by decide) Tryz.cl83 rfl (rnum_is (n:=n) hn) ?_
 rintro _ w1 ⟨A1,c1,rfl,ho1,hE1⟩
 replace hEc:=hEc.trans hE1
 refine wl_move (by decide) rfl ?_
 refine wl_extract (by decide) rfl rfl ?_
 refine wl_extract (by decide) rfl rfl ?_
 refine wl_assign (by decide) rfl ?_
 refine wl_assign (by decide) rfl ?_
 refine wl_nil ?_
 refine wk_norm ?_
 refine wc_seq ?_
 refine wc_region ?_
 refine wl_move (by decide) rfl ?_
 refine wl_assign (by decide) rfl ?_
 refine wl_nil ?_
 refine wk_norm ?_
 refine wc_ret ?_
 refine wk_post1 (.inl rfl) Tryz.results84 rfl ?_
 exact ⟨_,rfl,A1,c1,rfl,ho1,hEc⟩
end Go.Proofs.YtmbpneaibmldfaaGreat
namespace Go.Proofs.YtmbpneaibmldfaaGreat
open Go.RowKit Go.Eng _root_.Go.Proofs.Tryz Go.Eng _root_.Go.Proofs.Tryz
set_option maxRecDepth 100000
variable {w0 w:World} {M0 Fz:Nat→Prop} {H:List It} {A:Option Addr} {c:Nat}
theorem eachB_ok {w0 w:World} {M0 Fz:Nat→Prop} {H:List It} {A:Option Addr} {c:Nat} {go:Nat} {o:List UInt8} {bd:Bool} {l:List Bat} {B:Option Addr} {d:Nat} {most:Int} {f:WS→Bat→WS} {k:Nat} {FV:Value} (hp:HP w0 M0 Fz w (itB go 72 [.slice A o.length c, .bool bd]::itR 5 1 A o.length c (o.map bv)::H)) (hl:GS batR Fz w B d l) (hf:FnW FV go w0 M0 Fz w batR f k) (hk: ∀s x,(f s x).1.length≤s.1.length+k) (hr:o.length+8+l.length*k≤1099511627776):Ret prog 77 #[pt go 0, .slice B l.length d, .int .i64 most,FV] w (WoP go w0 M0 Fz w H (eachW f (o,bd) l most)):=by
 have mx:=hl.mx
 refine ret_of_wk func77 rfl ntmps77 leB_ ?_
 refine so ?_
 refine Cw (iNum_ok (n:=(l.length:Int)) hp ⟨by omega,by omega⟩ (by omega)) fun v A1 c1 w1 hp F1=>so ?_
 refine Lp [3,15,16,17] (fun L' w' mes=> ∃(j:Nat) (A2:Option Addr) (c2:Nat),L'= [(3,FV),(15, .slice B l.length d),(16,iv (l.length:Int)),(17,iv (j:Int))]∧j≤l.length∧Frz Fz Fz w w'∧HP w0 M0 Fz w' (itB go 72 [.slice A2 ((l.take j).foldl f (numW (o,bd) l.length most)).1.length c2, .bool ((l.take j).foldl f (numW (o,bd) l.length most)).2]::itR 5 1 A2 ((l.take j).foldl f (numW (o,bd) l.length most)).1.length c2 (((l.take j).foldl f (numW (o,bd) l.length most)).1.map bv)::H)∧l.length-j=mes) (l.length-0) ⟨0,A1,c1,rfl,Nat.zero_le _,mv,hp,rfl⟩ ?_
 rintro _ wr _ ⟨j,A2,c2,rfl,hj,F2,hp,rfl⟩ KL hKL
 refine so ?_
 refine Cd ?_ ?_<;>intro hc
 ·have hj9 : j < l.length := by omega
  obtain ⟨ae,p0,q0,hA,hat,he0⟩:=batR_el (hl.to (F:=Fz) (w':=wr)) j hj9
  refine so ?_
  refine Alo hp (h:=fun g w2 hp E2=> ?_)
  replace hp:=hp.rot3
  refine Hs 2 hp (h:=fun w3 hp C3=>so ?_)
  have hlen:=fold_room hk o bd l most j hj9 hr
  refine wl_callF (vs:= [_]) (by decide) rfl rfl (fun _ h=>by cases h) (hf w3 _ A2 c2 _ _ _ _ mv hp ⟨_,_,rfl,he0.to⟩ hlen) ?_
  rintro _ w4 ⟨A5,c5,hp,F5⟩
  refine so ?_
  refine Kl [3,15,16,17] hKL (l.length-(j+1)) ⟨j+1,A5,c5,rfl,hj9,mv, ?_,rfl⟩ (by omega)
  rw [fold_take f _ l j bat0 hj9]
  exact hp.rot3.rot3.tail
 obtain rfl:j=l.length:=by omega
 refine so ?_
 refine wk_post0 (.inr rfl) results77 ?_
 rw [List.take_length] at hp
 exact ⟨_,rfl,A2,c2,hp,mv⟩
end Go.Proofs.YtmbpneaibmldfaaGreat
namespace Go.Proofs.YtmbpneaibmldfaaGreat
open Go.RowKit Go.Eng Go.Eng _root_.Go.Proofs.Tryz
set_option maxRecDepth 100000
variable {w0 w:World} {M0 Fz:Nat→Prop} {H:List It} {A:Option Addr} {c:Nat}
set_option maxHeartbeats 40000000 in
theorem rListM_ok {gr:Nat} {l:List UInt8} {bad:Bool} {X:List Value→It} {pX:Addr} {most:Int} {p:PR Mrk} {FV:Value} (hp:HP w0 M0 Fz w (itB gr 223 [.slice A l.length c, .bool bad]::X ([.slice none 0 0])::H)) (hS:Slot X pX 1) (hl:GS byteR Fz w A c l) (hE:EachR prog 223 gr w0 M0 Fz w markR ([Value.int .i64 0]++(digC dig0)) p FV) (hm:most≤100):Ret prog 130 #[.iface 221 (.pointer (some ⟨gr,0,none⟩)), .pointer (some pX), .int .i64 most,FV] w (RdP 223 gr w0 M0 Fz w H X (sliceR markR) (listP p most) bad l):=by
 refine ret_of_wk func130 rfl ntmps130 leB_ ?_
 refine so ?_
 refine wdP 9 hp (fun wD hp hED=>by refine pm ?_;exact .op rfl (Ld_ sc29 rfl (hp.slotAt (i:=1) hS rfl rfl).head (wl_nil qp)) pl) fun wD hp hED=> ?_
 refine Ci rfl (nMany_ok (m0:=0) (most:=most) hp hl.to) ?_
 rintro _ w1 ⟨F1,A1,c1,l1,b1,x1,rfl,hp,hF1,hl1,hst1,hz1⟩
 have hML: ∀q:Int,0≤q→q<x1→x1≤most:=by
   intro q h0 h1
   cases hq:b1 with
   |false=>exact (many_lim hst1 hq).2
   |true=>have:=hz1 hq;omega
 refine so ?_
 refine Lp [1, 3, 21, 22] (fun L' w' mes => ∃ (k : Nat), ∃ (F1 : Nat → Prop), ∃ (A2 : Option Addr), ∃ (c2 : Nat), ∃ (l2 : List UInt8), ∃ (b2 : Bool), ∃ (AL : Option Addr), ∃ (cL : Nat), ∃ (xs : List Mrk), ∃ (rows : List (List Value)), L' = [(1, .pointer (some pX)), (3, FV), (21, iv x1), (22, iv (k : Int))] ∧ (k ≤ x1.toNat) ∧ (xs.length = k) ∧ (RF markR F1 w' rows xs) ∧ (Frz Fz F1 w w') ∧ (GS byteR F1 w' A2 c2 l2) ∧ (StepP (repP p k) (rst b1 l1) (rst b2 l2) xs) ∧ (HP w0 M0 F1 w' (itB gr 223 [.slice A2 l2.length c2, .bool b2] :: X ([.slice AL xs.length cL]) :: itR 28 33 AL xs.length cL rows.flatten :: H)) ∧ x1.toNat - k = mes) (x1.toNat - 0) (by
     refine ⟨0,F1,A1,c1,l1,b1,none,0, [], [],rfl,Nat.zero_le _, ?_,RF.nil _ _ _,mv,hl1,StepP.pure _ _,((hp.noRow 28 33).as_ (H':=_::_::_::_) rfl).rot3,rfl⟩
     rfl) ?_
 rintro _ wr _ ⟨k,F1,A2,c2,l2,b2,AL,cL,xs,rows,rfl,hk,hxk,hRF,hFr,hl2,hstL,hp,rfl⟩ KL1 hKL1
 refine so ?_
 refine Cd ?_ ?_<;>intro hc1
 have hx9:=hML k (by omega) (by omega)
 refine so ?_
 refine Ld_ sc29 rfl (hp.slotAt (i:=1) hS rfl rfl).head (so ?_)
 refine aT (so ?_)
 refine Alo hp (h:=fun gs10 w2 hp hE2=> ?_)
 replace hp:=hp.ay (itB gs10 28 ([iv mark0.seq]++(digC mark0.dig))::_)
 refine so ?_
 obtain ⟨KM,⟨hRo,hRk⟩,hKF,hKlt,hpo,hup⟩:=hp.apart (i:=3) rfl
 apply wc_drawTM 7 6 KM [.eq _,.eq _,.eq _,.eq _,.eq _,SP.tmpR _ 28 33 1 ([Value.int .i64 0]++(digC dig0)),SP.turn KM _ 28 33 (xs.length+1) (rows.flatten++([Value.int .i64 0]++(digC dig0)))] (by kernel_rfl) (by kernel_rfl) ⟨.inr (fun _ _ _ _ h=>h),.inr (fun _ _ _ _ h=>h),.inr (fun _ _ _ _ h=>h),.inr (fun _ _ _ _ h=>h),.inr (fun _ _ _ _ h=>h),.inr (SP.tmpR_st hKlt),.inl rfl,trivial⟩
 refine ⟨?_,?_,?_,?_,?_,?_,?_,trivial⟩<;>intro F wF hER hEE hk
 exact dm (hk.qi 1)
 exact dm (hk.qi 1)
 exact Nc_ (hk.qe 1) qz
 exact Ld_ sc29 (hk.qe 2) ((hpo _ hER).slotAt (i:=2) hS rfl rfl).head qz
 exact Hx_ ([iv mark0.seq]++(digC mark0.dig)) 0 ag28 (hk.qi 10) (hpo _ hER) rfl rfl rfl qz
 have e35:=hk.qe 4
 refine wl_bslice (size:=33) (xs:= [.tmp 35]) (vs:= [.agg ([Value.int .i64 0]++(digC dig0)).toArray]) (by decide) sl29 rfl (by simp only [evs,ev,e35];first|done|rfl) rfl (by intro v hv;rw [List.mem_singleton.1 hv];rfl) leB_ 0 (Nat.zero_le _) ?_
 rintro gt wt hgt hot hEt
 exact qz ⟨hEt,gt,rfl,by rw [hgt];exact hER.size,hot⟩
 have hEx:=hEE rfl
 have e34:=hk.qe 3
 obtain ⟨u36,e36,h36⟩:=hk.qp 5
 obtain ⟨gt,rfl,hgt0,hot⟩:=h36
 refine wl_append (size:=33) (m:=1) (news:= [Value.int .i64 0]++(digC dig0)) (by decide) sl29 e34 e36 (hRo.ext hEx) rfl (fun b hb=>by cases hb;exact hot.at0) (by simp) (List.all_eq_true.1 rfl) (by omega) (Nat.zero_le _) ?_
 rintro A3 c3 w3 ho3 hch3 h43
 exact qz ⟨hch3.weak (fun b _ x => (hRk b).2 ⟨x.1, x.2.2⟩), A3, c3, rfl, ho3, fun b hb => (by
     rcases h43 with ⟨rfl,rfl⟩|rfl
     · exact .inl ((hRk b).2 hb)
     · obtain ⟨_, a, ha, rfl⟩ := hb
       cases ha
       exact .inr hEx.size)⟩
 intro F wD hED hini hdo
 have e1:=di hini 1
 have e3:=di hini 3
 have e9:=di hini 9
 have e21:=di hini 21
 have e22:=di hini 22
 have e31:=dr hdo 0
 obtain ⟨u37,e37,h37⟩:=hdo 6 37 (Nat.lt_of_lt_of_eq (by decide) rfl) rfl
 obtain ⟨A3,c3,rfl,ho3,hK3⟩:=h37
 refine wl_drop [(1,_),(3,_),(9,_),(21,_),(22,_),(31,_),(37,_)] ⟨e1,e3,e9,e21,e22,e31,e37,trivial⟩ ?_
 clear e1 e3 e9 e21 e22 e31 e37 hini hdo
 have hcz:=hED.zz hKF
 replace hp:=hup _ (itR 28 33 A3 (xs.length+1) c3 (rows.flatten++([Value.int .i64 0]++(digC dig0)))) (fun b=>c3≠0∧blk A3 b) hED ⟨ho3,fun _=>Iff.rfl⟩ hK3
 refine so ?_
 refine wl_sstore1 0 (i:=2) hS (by rw [add_zero'];rfl) rfl hp rfl rfl sz29 (by decide) rfl ?_
 rintro w3 hp hC3
 refine so ?_
 refine Ld_ sc29 rfl (hp.slotAt (i:=2) hS rfl rfl).head (so ?_)
 have hOR:=hp.rowAt (i:=3) rfl
 obtain ⟨g7,rfl⟩: ∃g,A3=some ⟨g,0,none⟩:=by
   obtain ⟨g,hg,_⟩:=hOR.el 0 (by omega)
   exact ⟨g,hg⟩
 have hfl:=(hRF.to (w':=w3)).flen
 refine wl_idx0 (size:=33) (by decide) sl29 rfl rfl rfl k rfl (by omega) ?_
 rw [show (⟨g7,0,none⟩:Addr).add (k*33)=⟨g7,rows.flatten.length,none⟩ by rw [add_lit',hfl,hxk,Nat.zero_add];rfl]
 have hpc:=((((hp.tail.up 1 rfl).up 2 rfl).up 2 rfl).as_ (H':=itB gr 223 [.slice A2 l2.length c2, .bool b2]::itR 28 33 (some ⟨g7,0,none⟩) (xs.length+1) c3 (rows.flatten++(([Value.int .i64 0]++(digC dig0))++ []))::X ([.slice (some ⟨g7,0,none⟩) (xs.length+1) c3])::H) rfl)
 have hcl:=hE _ _ _ (fun cs=>itR 28 33 (some ⟨g7,0,none⟩) (xs.length+1) c3 (rows.flatten++(cs++ []))) ⟨g7,rows.flatten.length,none⟩ _ _ _ _ mv hpc (Slot.row rows.flatten [] (by decide)) (hl2.to (w':=w3))
 refine wl_callF (vs:= [.pointer (some ⟨g7,rows.flatten.length,none⟩)]) (by decide) rfl rfl (fun _ h=>by cases h) hcl ?_
 clear hcl
 rintro _ w9 ⟨F9,A9,c9,l9,b9,cs9,x9,hp,hF9,hl9,hrd9,hst9⟩
 have hp:=hp.ay (_::_::_::_)
 have hp:=(hp.up 2 rfl).as_ (H':=_::_::_::_) rfl
 have hp:=(hp.up 1 rfl).as_ (H':=_::_::_::_) rfl
 refine so ?_
 refine Kl [1,3,21,22] hKL1 (x1.toNat-(k+1)) ⟨(k+1),F9,A9,c9,l9,b9,(some ⟨g7,0,none⟩),c3,(xs++ [x9]),(rows++ [cs9]),rfl,by omega, ?_,(hRF.to.append (RF.one hrd9)),mv,hl9,StepP.snoc hstL hst9, ?_,rfl⟩ (by omega)
 rw [List.length_append,hxk];rfl
 rw [flat_snoc,List.length_append];exact hp
 refine so ?_
 refine wk_post0 (.inr rfl) results130 ?_
 obtain ⟨F8,hp8,hs8,hb8⟩:=((hp.up 2 rfl).as_ (H':=_::_::_::_) rfl).frzRow
 have hgs:=OwnRow.gsRF (r:=markR) (hp.rowAt (i:=2) rfl) (hRF.wid hs8) hb8
 exact ⟨_,rfl,F8,A2,c2,l2,b2,_,xs,hp8,hFr.wid hs8,hl2.wid hs8,sliceR_mk hgs,StepP.bind hst1 (by rw [show x1.toNat=k by omega];exact hstL)⟩
set_option maxHeartbeats 40000000 in
theorem rListI_ok {gr:Nat} {l:List UInt8} {bad:Bool} {X:List Value→It} {pX:Addr} {most:Int} {p:PR Int} {FV:Value} (hp:HP w0 M0 Fz w (itB gr 223 [.slice A l.length c, .bool bad]::X ([.slice none 0 0])::H)) (hS:Slot X pX 1) (hl:GS byteR Fz w A c l) (hE:EachR prog 223 gr w0 M0 Fz w i64R ([Value.int .i64 0]) p FV) (hm:most≤100):Ret prog 195 #[.iface 221 (.pointer (some ⟨gr,0,none⟩)), .pointer (some pX), .int .i64 most,FV] w (RdP 223 gr w0 M0 Fz w H X (sliceR i64R) (listP p most) bad l):=by
 refine ret_of_wk func195 rfl ntmps195 leB_ ?_
 refine so ?_
 refine wdP 9 hp (fun wD hp hED=>by refine pm ?_;exact .op rfl (Ld_ sc22 rfl (hp.slotAt (i:=1) hS rfl rfl).head (wl_nil qp)) pl) fun wD hp hED=> ?_
 refine Ci rfl (nMany_ok (m0:=0) (most:=most) hp hl.to) ?_
 rintro _ w1 ⟨F1,A1,c1,l1,b1,x1,rfl,hp,hF1,hl1,hst1,hz1⟩
 have hML: ∀q:Int,0≤q→q<x1→x1≤most:=by
   intro q h0 h1
   cases hq:b1 with
   |false=>exact (many_lim hst1 hq).2
   |true=>have:=hz1 hq;omega
 refine so ?_
 refine Lp [1, 3, 21, 22] (fun L' w' mes => ∃ (k : Nat), ∃ (F1 : Nat → Prop), ∃ (A2 : Option Addr), ∃ (c2 : Nat), ∃ (l2 : List UInt8), ∃ (b2 : Bool), ∃ (AL : Option Addr), ∃ (cL : Nat), ∃ (xs : List Int), ∃ (rows : List (List Value)), L' = [(1, .pointer (some pX)), (3, FV), (21, iv x1), (22, iv (k : Int))] ∧ (k ≤ x1.toNat) ∧ (xs.length = k) ∧ (RF i64R F1 w' rows xs) ∧ (Frz Fz F1 w w') ∧ (GS byteR F1 w' A2 c2 l2) ∧ (StepP (repP p k) (rst b1 l1) (rst b2 l2) xs) ∧ (HP w0 M0 F1 w' (itB gr 223 [.slice A2 l2.length c2, .bool b2] :: X ([.slice AL xs.length cL]) :: itR 3 1 AL xs.length cL rows.flatten :: H)) ∧ x1.toNat - k = mes) (x1.toNat - 0) (by
     refine ⟨0,F1,A1,c1,l1,b1,none,0, [], [],rfl,Nat.zero_le _, ?_,RF.nil _ _ _,mv,hl1,StepP.pure _ _,((hp.noRow 3 1).as_ (H':=_::_::_::_) rfl).rot3,rfl⟩
     rfl) ?_
 rintro _ wr _ ⟨k,F1,A2,c2,l2,b2,AL,cL,xs,rows,rfl,hk,hxk,hRF,hFr,hl2,hstL,hp,rfl⟩ KL1 hKL1
 refine so ?_
 refine Cd ?_ ?_<;>intro hc1
 have hx9:=hML k (by omega) (by omega)
 refine so ?_
 refine Ld_ sc22 rfl (hp.slotAt (i:=1) hS rfl rfl).head (so ?_)
 refine aT (so ?_)
 refine Ld_ sc22 rfl (hp.slotAt (i:=1) hS rfl rfl).head (so ?_)
 refine wl_bsliceE (enc:=fun z:Int=>iv z) (xs:= [.tmp 35]) (bs:= [0]) (fun _=>rfl) (by decide) sl22 rfl rfl rfl (by simp) _ (Nat.le_refl _) ?_
 rintro gt wt hgt hot hEt
 replace hp:=hp.ext hEt
 refine wl_happend (i:=2) (m:=1) (news:= [iv 0]) (by decide) sl22 rfl rfl hp rfl rfl (fun b hb=>by cases hb;exact hot.at0) (by simp) (by simp [Value.oneCell']) (by omega) ?_
 rintro A3 c3 w3 hp hC3
 refine so ?_
 refine wl_sstore1 0 (i:=1) hS (by rw [add_zero'];rfl) rfl hp rfl rfl sz22 (by decide) rfl ?_
 rintro w2 hp hC2
 replace hp:=hp.ay (_::X ([.slice A3 (xs.length+1) c3])::_)
 refine so ?_
 refine Ld_ sc22 rfl (hp.slotAt (i:=1) hS rfl rfl).head (so ?_)
 have hOR:=hp.rowAt (i:=2) rfl
 obtain ⟨g7,rfl⟩: ∃g,A3=some ⟨g,0,none⟩:=by
   obtain ⟨g,hg,_⟩:=hOR.el 0 (by omega)
   exact ⟨g,hg⟩
 have hfl:=(hRF.to (w':=w2)).flen
 refine wl_idx0 (size:=1) (by decide) sl22 rfl rfl rfl k rfl (by omega) ?_
 rw [show (⟨g7,0,none⟩:Addr).add (k*1)=⟨g7,rows.flatten.length,none⟩ by rw [add_lit',hfl,hxk,Nat.zero_add];rfl]
 have hpc:=((((hp.up 1 rfl).up 2 rfl).up 2 rfl).as_ (H':=itB gr 223 [.slice A2 l2.length c2, .bool b2]::itR 3 1 (some ⟨g7,0,none⟩) (xs.length+1) c3 (rows.flatten++(([Value.int .i64 0])++ []))::X ([.slice (some ⟨g7,0,none⟩) (xs.length+1) c3])::H) rfl)
 have hcl:=hE _ _ _ (fun cs=>itR 3 1 (some ⟨g7,0,none⟩) (xs.length+1) c3 (rows.flatten++(cs++ []))) ⟨g7,rows.flatten.length,none⟩ _ _ _ _ mv hpc (Slot.row rows.flatten [] (by decide)) (hl2.to (w':=w2))
 refine wl_callF (vs:= [.pointer (some ⟨g7,rows.flatten.length,none⟩)]) (by decide) rfl rfl (fun _ h=>by cases h) hcl ?_
 clear hcl
 rintro _ w9 ⟨F9,A9,c9,l9,b9,cs9,x9,hp,hF9,hl9,hrd9,hst9⟩
 have hp:=hp.ay (_::_::_::_)
 have hp:=(hp.up 2 rfl).as_ (H':=_::_::_::_) rfl
 have hp:=(hp.up 1 rfl).as_ (H':=_::_::_::_) rfl
 refine so ?_
 refine Kl [1,3,21,22] hKL1 (x1.toNat-(k+1)) ⟨(k+1),F9,A9,c9,l9,b9,(some ⟨g7,0,none⟩),c3,(xs++ [x9]),(rows++ [cs9]),rfl,by omega, ?_,(hRF.to.append (RF.one hrd9)),mv,hl9,StepP.snoc hstL hst9, ?_,rfl⟩ (by omega)
 rw [List.length_append,hxk];rfl
 rw [flat_snoc,List.length_append];exact hp
 refine so ?_
 refine wk_post0 (.inr rfl) results195 ?_
 obtain ⟨F8,hp8,hs8,hb8⟩:=((hp.up 2 rfl).as_ (H':=_::_::_::_) rfl).frzRow
 have hgs:=OwnRow.gsRF (r:=i64R) (hp.rowAt (i:=2) rfl) (hRF.wid hs8) hb8
 exact ⟨_,rfl,F8,A2,c2,l2,b2,_,xs,hp8,hFr.wid hs8,hl2.wid hs8,sliceR_mk hgs,StepP.bind hst1 (by rw [show x1.toNat=k by omega];exact hstL)⟩
set_option maxHeartbeats 40000000 in
theorem rListP_ok {gr:Nat} {l:List UInt8} {bad:Bool} {X:List Value→It} {pX:Addr} {most:Int} {p:PR Pck} {FV:Value} (hp:HP w0 M0 Fz w (itB gr 223 [.slice A l.length c, .bool bad]::X ([.slice none 0 0])::H)) (hS:Slot X pX 1) (hl:GS byteR Fz w A c l) (hE:EachR prog 223 gr w0 M0 Fz w pickR ([Value.int .i64 0]++(digC dig0++([Value.slice none 0 0]))) p FV) (hm:most≤100):Ret prog 192 #[.iface 221 (.pointer (some ⟨gr,0,none⟩)), .pointer (some pX), .int .i64 most,FV] w (RdP 223 gr w0 M0 Fz w H X (sliceR pickR) (listP p most) bad l):=by
 refine ret_of_wk func192 rfl ntmps192 leB_ ?_
 refine so ?_
 refine wdP 9 hp (fun wD hp hED=>by refine pm ?_;exact .op rfl (Ld_ sc154 rfl (hp.slotAt (i:=1) hS rfl rfl).head (wl_nil qp)) pl) fun wD hp hED=> ?_
 refine Ci rfl (nMany_ok (m0:=0) (most:=most) hp hl.to) ?_
 rintro _ w1 ⟨F1,A1,c1,l1,b1,x1,rfl,hp,hF1,hl1,hst1,hz1⟩
 have hML: ∀q:Int,0≤q→q<x1→x1≤most:=by
   intro q h0 h1
   cases hq:b1 with
   |false=>exact (many_lim hst1 hq).2
   |true=>have:=hz1 hq;omega
 refine so ?_
 refine Lp [1, 3, 21, 22] (fun L' w' mes => ∃ (k : Nat), ∃ (F1 : Nat → Prop), ∃ (A2 : Option Addr), ∃ (c2 : Nat), ∃ (l2 : List UInt8), ∃ (b2 : Bool), ∃ (AL : Option Addr), ∃ (cL : Nat), ∃ (xs : List Pck), ∃ (rows : List (List Value)), L' = [(1, .pointer (some pX)), (3, FV), (21, iv x1), (22, iv (k : Int))] ∧ (k ≤ x1.toNat) ∧ (xs.length = k) ∧ (RF pickR F1 w' rows xs) ∧ (Frz Fz F1 w w') ∧ (GS byteR F1 w' A2 c2 l2) ∧ (StepP (repP p k) (rst b1 l1) (rst b2 l2) xs) ∧ (HP w0 M0 F1 w' (itB gr 223 [.slice A2 l2.length c2, .bool b2] :: X ([.slice AL xs.length cL]) :: itR 248 34 AL xs.length cL rows.flatten :: H)) ∧ x1.toNat - k = mes) (x1.toNat - 0) (by
     refine ⟨0,F1,A1,c1,l1,b1,none,0, [], [],rfl,Nat.zero_le _, ?_,RF.nil _ _ _,mv,hl1,StepP.pure _ _,((hp.noRow 248 34).as_ (H':=_::_::_::_) rfl).rot3,rfl⟩
     rfl) ?_
 rintro _ wr _ ⟨k,F1,A2,c2,l2,b2,AL,cL,xs,rows,rfl,hk,hxk,hRF,hFr,hl2,hstL,hp,rfl⟩ KL1 hKL1
 refine so ?_
 refine Cd ?_ ?_<;>intro hc1
 have hx9:=hML k (by omega) (by omega)
 refine so ?_
 refine Ld_ sc154 rfl (hp.slotAt (i:=1) hS rfl rfl).head (so ?_)
 refine aT (so ?_)
 refine Alo hp (h:=fun gs10 w2 hp hE2=> ?_)
 replace hp:=hp.ay (itB gs10 248 ([iv pick0.seq]++(digC pick0.dig++([s0])))::_)
 refine so ?_
 obtain ⟨KM,⟨hRo,hRk⟩,hKF,hKlt,hpo,hup⟩:=hp.apart (i:=3) rfl
 apply wc_drawTM 7 6 KM [.eq _,.eq _,.eq _,.eq _,.eq _,SP.tmpR _ 248 34 1 ([Value.int .i64 0]++(digC dig0++([Value.slice none 0 0]))),SP.turn KM _ 248 34 (xs.length+1) (rows.flatten++([Value.int .i64 0]++(digC dig0++([Value.slice none 0 0]))))] (by kernel_rfl) (by kernel_rfl) ⟨.inr (fun _ _ _ _ h=>h),.inr (fun _ _ _ _ h=>h),.inr (fun _ _ _ _ h=>h),.inr (fun _ _ _ _ h=>h),.inr (fun _ _ _ _ h=>h),.inr (SP.tmpR_st hKlt),.inl rfl,trivial⟩
 refine ⟨?_,?_,?_,?_,?_,?_,?_,trivial⟩<;>intro F wF hER hEE hk
 exact dm (hk.qi 1)
 exact dm (hk.qi 1)
 exact Nc_ (hk.qe 1) qz
 exact Ld_ sc154 (hk.qe 2) ((hpo _ hER).slotAt (i:=2) hS rfl rfl).head qz
 exact Hx_ ([iv pick0.seq]++(digC pick0.dig++([s0]))) 0 ag248 (hk.qi 10) (hpo _ hER) rfl rfl rfl qz
 have e35:=hk.qe 4
 refine wl_bslice (size:=34) (xs:= [.tmp 35]) (vs:= [.agg ([Value.int .i64 0]++(digC dig0++([Value.slice none 0 0]))).toArray]) (by decide) sl154 rfl (by simp only [evs,ev,e35];first|done|rfl) rfl (by intro v hv;rw [List.mem_singleton.1 hv];rfl) leB_ 0 (Nat.zero_le _) ?_
 rintro gt wt hgt hot hEt
 exact qz ⟨hEt,gt,rfl,by rw [hgt];exact hER.size,hot⟩
 have hEx:=hEE rfl
 have e34:=hk.qe 3
 obtain ⟨u36,e36,h36⟩:=hk.qp 5
 obtain ⟨gt,rfl,hgt0,hot⟩:=h36
 refine wl_append (size:=34) (m:=1) (news:= [Value.int .i64 0]++(digC dig0++([Value.slice none 0 0]))) (by decide) sl154 e34 e36 (hRo.ext hEx) rfl (fun b hb=>by cases hb;exact hot.at0) (by simp) (List.all_eq_true.1 rfl) (by omega) (Nat.zero_le _) ?_
 rintro A3 c3 w3 ho3 hch3 h43
 exact qz ⟨hch3.weak (fun b _ x => (hRk b).2 ⟨x.1, x.2.2⟩), A3, c3, rfl, ho3, fun b hb => (by
     rcases h43 with ⟨rfl,rfl⟩|rfl
     · exact .inl ((hRk b).2 hb)
     · obtain ⟨_, a, ha, rfl⟩ := hb
       cases ha
       exact .inr hEx.size)⟩
 intro F wD hED hini hdo
 have e1:=di hini 1
 have e3:=di hini 3
 have e9:=di hini 9
 have e21:=di hini 21
 have e22:=di hini 22
 have e31:=dr hdo 0
 obtain ⟨u37,e37,h37⟩:=hdo 6 37 (Nat.lt_of_lt_of_eq (by decide) rfl) rfl
 obtain ⟨A3,c3,rfl,ho3,hK3⟩:=h37
 refine wl_drop [(1,_),(3,_),(9,_),(21,_),(22,_),(31,_),(37,_)] ⟨e1,e3,e9,e21,e22,e31,e37,trivial⟩ ?_
 clear e1 e3 e9 e21 e22 e31 e37 hini hdo
 have hcz:=hED.zz hKF
 replace hp:=hup _ (itR 248 34 A3 (xs.length+1) c3 (rows.flatten++([Value.int .i64 0]++(digC dig0++([Value.slice none 0 0]))))) (fun b=>c3≠0∧blk A3 b) hED ⟨ho3,fun _=>Iff.rfl⟩ hK3
 refine so ?_
 refine wl_sstore1 0 (i:=2) hS (by rw [add_zero'];rfl) rfl hp rfl rfl sz154 (by decide) rfl ?_
 rintro w3 hp hC3
 refine so ?_
 refine Ld_ sc154 rfl (hp.slotAt (i:=2) hS rfl rfl).head (so ?_)
 have hOR:=hp.rowAt (i:=3) rfl
 obtain ⟨g7,rfl⟩: ∃g,A3=some ⟨g,0,none⟩:=by
   obtain ⟨g,hg,_⟩:=hOR.el 0 (by omega)
   exact ⟨g,hg⟩
 have hfl:=(hRF.to (w':=w3)).flen
 refine wl_idx0 (size:=34) (by decide) sl154 rfl rfl rfl k rfl (by omega) ?_
 rw [show (⟨g7,0,none⟩:Addr).add (k*34)=⟨g7,rows.flatten.length,none⟩ by rw [add_lit',hfl,hxk,Nat.zero_add];rfl]
 have hpc:=((((hp.tail.up 1 rfl).up 2 rfl).up 2 rfl).as_ (H':=itB gr 223 [.slice A2 l2.length c2, .bool b2]::itR 248 34 (some ⟨g7,0,none⟩) (xs.length+1) c3 (rows.flatten++(([Value.int .i64 0]++(digC dig0++([Value.slice none 0 0])))++ []))::X ([.slice (some ⟨g7,0,none⟩) (xs.length+1) c3])::H) rfl)
 have hcl:=hE _ _ _ (fun cs=>itR 248 34 (some ⟨g7,0,none⟩) (xs.length+1) c3 (rows.flatten++(cs++ []))) ⟨g7,rows.flatten.length,none⟩ _ _ _ _ mv hpc (Slot.row rows.flatten [] (by decide)) (hl2.to (w':=w3))
 refine wl_callF (vs:= [.pointer (some ⟨g7,rows.flatten.length,none⟩)]) (by decide) rfl rfl (fun _ h=>by cases h) hcl ?_
 clear hcl
 rintro _ w9 ⟨F9,A9,c9,l9,b9,cs9,x9,hp,hF9,hl9,hrd9,hst9⟩
 have hp:=hp.ay (_::_::_::_)
 have hp:=(hp.up 2 rfl).as_ (H':=_::_::_::_) rfl
 have hp:=(hp.up 1 rfl).as_ (H':=_::_::_::_) rfl
 refine so ?_
 refine Kl [1,3,21,22] hKL1 (x1.toNat-(k+1)) ⟨(k+1),F9,A9,c9,l9,b9,(some ⟨g7,0,none⟩),c3,(xs++ [x9]),(rows++ [cs9]),rfl,by omega, ?_,(hRF.to.append (RF.one hrd9)),mv,hl9,StepP.snoc hstL hst9, ?_,rfl⟩ (by omega)
 rw [List.length_append,hxk];rfl
 rw [flat_snoc,List.length_append];exact hp
 refine so ?_
 refine wk_post0 (.inr rfl) results192 ?_
 obtain ⟨F8,hp8,hs8,hb8⟩:=((hp.up 2 rfl).as_ (H':=_::_::_::_) rfl).frzRow
 have hgs:=OwnRow.gsRF (r:=pickR) (hp.rowAt (i:=2) rfl) (hRF.wid hs8) hb8
 exact ⟨_,rfl,F8,A2,c2,l2,b2,_,xs,hp8,hFr.wid hs8,hl2.wid hs8,sliceR_mk hgs,StepP.bind hst1 (by rw [show x1.toNat=k by omega];exact hstL)⟩
end Go.Proofs.YtmbpneaibmldfaaGreat
namespace Go.Proofs.YtmbpneaibmldfaaGreat
open Go.RowKit Go.Eng _root_.Go.Proofs.Tryz Go.Eng _root_.Go.Proofs.Tryz
set_option maxRecDepth 100000
variable {w0 w:World} {M0 Fz:Nat→Prop} {H:List It} {A:Option Addr} {c:Nat}
set_option maxHeartbeats 1000000 in
theorem tStand_ok {w0 w:World} {M0 Fz:Nat→Prop} {H:List It} {A:Option Addr} {c:Nat} {gt:Nat} {l:List UInt8} {bad:Bool} (hp:HP w0 M0 Fz w (itB gt 94 [.slice A l.length c, .bool bad]::H)) (hl:GS byteR Fz w A c l):Ret prog 103 #[pt gt 0] w (TkP gt w0 M0 Fz w H aggV standR istandP bad l):=by
 refine ret_of_wk func103 rfl ntmps103 leB_ ?_
 refine so ?_
 refine Alo hp (h:=fun g2 w1 hp E1=> ?_)
 replace hp:=hp.swp.as_ (H':=itB gt 94 [.slice A l.length c, .bool bad]::itB g2 110 ([.int .i64 0]++(digC dig0++ [.int .i64 0]))::H) rfl
 refine so ?_
 refine Ce (tMark_ok hp (hl.ext E1)) ?_
 rintro _ w2 ⟨F2,A2,c2,l2,b2,cs,x,rfl,hp,F3,hg,⟨hI,rfl⟩,hs⟩
 refine so ?_
 refine Alo hp (h:=fun g3 w3 hp E3=> ?_)
 refine Hs 0 hp (h:=fun w4 hp C4=> ?_)
 obtain ⟨F5,hp,s5,hat⟩:=hp.frzBlk
 have f15:Frz F2 F5 w2 w4:=mv
 have hg4:GS byteR F5 w4 A2 c2 l2:=hg.to
 refine so ?_
 apply wc_drawE 7 5 11 6 12 (fun w9 v w2=>TnP gt w0 M0 F5 w9 (itB g2 110 ([.int .i64 0]++(digC dig0++ [.int .i64 0]))::H) 1048576 b2 l2 v w2) (fun v u _=> ∃n,v= .int .i64 n∧u=aggV ([.int .i64 x.seq]++(digC x.dig++ [.int .i64 n]))) (fun i v=>match i with|0=>v= .pointer (some ⟨g3,0,none⟩)|1=>v= .int .i64 x.seq|2=>v= .pointer (some ⟨g3,1,none⟩)|3=>v= .agg (digC x.dig).toArray|4=>v=pt gt 0|_=>True) (by kernel_rfl) (by kernel_rfl) (by kernel_rfl) (fun v w1 w2 hE h=>h.ext hE) (fun v u w1 w2 _ h=>h)
 ·refine ⟨?_, ?_, ?_, ?_, ?_, .inl rfl, .inr (.inl rfl), trivial⟩
  ·refine .inr (.inr ?_)
   intro F wF hPP hk
   refine aFd (by decide) (hk.init 3 _ rfl (by kernel_rfl)) rfl ?_
   exact wl_nil (qr_some ⟨Chg.refl _ _,rfl⟩)
  ·refine .inr (.inr ?_)
   intro F wF hPP hk
   obtain ⟨u6,e6,h6⟩:=hk.pred 0 (by kernel_rfl) 6 rfl
   obtain rfl:u6= .pointer (some ⟨g3,0,none⟩):=by simpa using h6
   rcases hPP with hER|⟨v9,F9,A9,c9,l9,b9,n9,_,_,hF9,_⟩
   ·refine aL0 (by decide) e6 (hat.ext hER) ?_
    exact wl_nil (qr_some ⟨Chg.refl _ _,rfl⟩)
   ·refine aL0 (by decide) e6 (hat.to hF9) ?_
    exact wl_nil (qr_some ⟨Chg.refl _ _,rfl⟩)
  ·refine .inr (.inr ?_)
   intro F wF hPP hk
   refine aFd (by decide) (hk.init 3 _ rfl (by kernel_rfl)) rfl ?_
   exact wl_nil (qr_some ⟨Chg.refl _ _,rfl⟩)
  ·refine .inr (.inr ?_)
   intro F wF hPP hk
   obtain ⟨u8,e8,h8⟩:=hk.pred 2 (by kernel_rfl) 8 rfl
   obtain rfl:u8= .pointer (some ⟨g3,1,none⟩):=by simpa using h8
   rcases hPP with hER|⟨v9,F9,A9,c9,l9,b9,n9,_,_,hF9,_⟩
   ·refine wl_loadA (by decide) ag26 e8 (((hat.ext hER).at_.drop 1).take 32) rfl ?_
    exact wl_nil (qr_some ⟨Chg.refl _ _,rfl⟩)
   ·refine wl_loadA (by decide) ag26 e8 (((hat.to hF9).at_.drop 1).take 32) rfl ?_
    exact wl_nil (qr_some ⟨Chg.refl _ _,rfl⟩)
  ·refine .inr (.inr ?_)
   intro F wF hPP hk
   refine wl_move (by decide) (hk.init 0 _ rfl (by kernel_rfl)) ?_
   exact wl_nil (qr_some ⟨Chg.refl _ _,rfl⟩)
 ·intro o ho F wF hER hk
  cases ho
  obtain ⟨u10,e10,h10⟩:=hk.pred 4 (by kernel_rfl) 10 rfl
  obtain rfl:u10=pt gt 0:=by simpa using h10
  refine Ce (tNum_ok (most:=1048576) (hp.ext hER) (hg4.ext hER)) ?_ (by simp only [evs,ev,e10];first|done|rfl)
  rintro v9 w9 ⟨F9,A9,c9,l9,b9,n9,rfl,hp9,hF9,hg9,hn9,hs9⟩
  exact wl_nil (qr_some ⟨F9,A9,c9,l9,b9,n9,rfl,hp9,⟨(hER.ext.step hF9.chg (fun _ _ h=>h)),hF9.sub⟩,hg9,hn9,hs9⟩)
 ·intro o ho F wF v9 e11 hPo hk
  cases ho
  obtain ⟨F9,A9,c9,l9,b9,n9,rfl,_⟩:=hPo
  obtain ⟨u7,e7,h7⟩:=hk.pred 1 (by kernel_rfl) 7 rfl
  obtain rfl:u7= .int .i64 x.seq:=by simpa using h7
  obtain ⟨u9,e9,h9⟩:=hk.pred 3 (by kernel_rfl) 9 rfl
  obtain rfl:u9= .agg (digC x.dig).toArray:=by simpa using h9
  refine wl_builtS (ps:= [(0, .tmp 7),(1, .tmp 9),(2, .tmp 11)]) (by decide) bld110 (by simp only [evp,ev,e7,e9,e11];first|done|rfl) rfl ?_
  exact wl_nil (qr_some ⟨Chg.refl _ _,n9,rfl,rfl⟩)
 ·intro F wD v9 u9 e11 hPo e12 hOn hini hdo
  obtain ⟨F9,A9,c9,l9,b9,n9,rfl,hp,hF9,hg9,hn9,hs9⟩:=hPo
  obtain ⟨n',he,rfl⟩:=hOn
  cases he
  refine wl_drop [(2,_),(12,_)] ⟨hini 2 _ rfl (by kernel_rfl),e12,trivial⟩ ?_
  clear hini hdo
  refine Hs 1 hp (h:=fun w10 hp C10=>so ?_)
  refine wk_postR (rs:= [.cell 2 110]) (.inl rfl) results103 ⟨_,_,_,rfl,rfl,loadVar_agg ag110 (hp.blkAt (i:=1) rfl).at0 rfl,rfl⟩ ?_
  refine ⟨_,rfl,F9,A9,c9,l9,b9,_,⟨x.seq,x.dig,n9⟩,rfl,hp.swp.tail,mv,hg9.to,⟨by unfold StnI;exact ⟨hI,by unfold i64;simp only;omega⟩,rfl⟩, ?_⟩
  rw [show istandP=bindP markP (fun m=>bindP (manyP 1048576) fun v=>pureP ⟨m.seq,m.dig,v⟩) by unfold istandP markP;simp only [bindP_assoc,pure_bindP]]
  exact hs.bind (hs9.bind (StepP.pure _ _))
theorem rp0_rd (S:Nat→Prop) (w:World):rplR.rd S w rp0C rpl0:=⟨RplI0,none,0,none,0,none,0,none,0,none,0,none,0,none,0,none,0,none,0,none,0,rfl,GS.nil _ _ _ _ _,GS.nil _ _ _ _ _,GS.nil _ _ _ _ _,GS.nil _ _ _ _ _,GS.nil _ _ _ _ _,GS.nil _ _ _ _ _,GS.nil _ _ _ _ _,GS.nil _ _ _ _ _,GS.nil _ _ _ _ _,GS.nil _ _ _ _ _⟩
theorem lSmall_ok {w0 w:World} {M0 Fz:Nat→Prop} {H:List It} (hp:HP w0 M0 Fz w H):Ret prog 26 #[] w (fun v w2=> ∃F2 cs,v= .agg (cs:List Value).toArray∧HP w0 M0 F2 w2 H∧Frz Fz F2 w w2∧rplR.rd F2 w2 cs small0):=by
 refine ret_of_wk func26 rfl ntmps26 leB_ ?_
 refine so ?_
 refine Alo hp (h:=fun g2 w1 hp E1=> ?_)
 refine so ?_
 refine wl_bsliceE (enc:=iv) (fun _=>rfl) (xs:= [.const (.int .i64 5)]) (bs:= [5]) (by decide) sl22 rfl rfl rfl leB_ w1.heap.size (Nat.le_refl _) ?_
 rintro g3 w2 hg ho E2
 obtain ⟨F2,hp,s2,n2,l2⟩:=hp.frz E2
 have h0:GS intR F2 w2 (some ⟨g3,0,none⟩) 1 [5]:=(OwnRow.gs1 ho).frz n2
 refine wl_builtS (ps:= [(1, .tmp 1)]) (by decide) bld24 rfl rfl ?_
 refine wl_builtS (ps:= [(0, .const (.int .i64 1)),(2, .tmp 2)]) (by decide) bld47 rfl rfl ?_
 refine Hs 0 hp (h:=fun w3 hp C3=>so ?_)
 refine wk_postR (rs:= [.cell 0 47]) (.inl rfl) results26 ⟨_,_,_,rfl,rfl,loadVar_agg ag47 (hp.blkAt (i:=0) rfl).at0 rfl,rfl⟩ ?_
 exact ⟨_,rfl,F2,_,rfl,hp.tail,mv,⟨by unfold RplI i64;decide,some ⟨g3,0,none⟩,1,none,0,none,0,none,0,none,0,none,0,none,0,none,0,none,0,none,0,rfl,h0.to,GS.nil _ _ _ _ _,GS.nil _ _ _ _ _,GS.nil _ _ _ _ _,GS.nil _ _ _ _ _,GS.nil _ _ _ _ _,GS.nil _ _ _ _ _,GS.nil _ _ _ _ _,GS.nil _ _ _ _ _,GS.nil _ _ _ _ _⟩⟩
def rdU (x : Rpl) : SP := ⟨fun v w => ∃ cs, v = .agg (cs : List Value).toArray ∧ rplR.rd (fun _ => True) w cs x, by
 rintro _ w w' ch ⟨cs,rfl,h⟩
 exact ⟨cs,rfl,rplR.keep ch (fun _ _ _ x=>x) h⟩⟩
theorem ls0:small0.img.batches.length*56≤140737488355328:=by decide
end Go.Proofs.YtmbpneaibmldfaaGreat
