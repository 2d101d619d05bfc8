/- What each of these functions computes, for every argument that its theorem names; a part of what the proof of ImageOnce stands on. -/
import Derived.Test.YtmbpneaibmldfaaGreatAac
import Derived.Test.YtmbpneaibmldfaaGreatAad
import Derived.Test.YtmbpneaibmldfaaGreatAaf
import Derived.Test.YtmbpneaibmldfaaGreatAag
import Derived.Test.YtmbpneaibmldfaaGreatAai
import Derived.Test.YtmbpneaibmldfaaGreatAaj
import Derived.Test.YtmbpneaibmldfaaGreatAal
namespace Go.Proofs.YtmbpneaibmldfaaGreat
open Go.RowKit Go.Eng Go.Eng _root_.Go.Proofs.Tryz
set_option maxRecDepth 100000
variable {w0 w:World} {M0 Fz:Nat→Prop} {H:List It} {A:Option Addr} {c:Nat}
theorem t0_nStandsMay_ok {p:Prop} (h:p:=by exact wl_re (k:=45) (v:= .bool true) rfl (congrArg Value.bool (decide_eq_true (by first|exact hs2|omega|simpa using hs2))) qy):p:=h
theorem t1_nStandsMay_ok {p:Prop} (h:p:=by exact wl_re (k:=53) (v:= .bool true) rfl (congrArg Value.bool (decide_eq_true (by first|exact hs3|omega|simpa using hs3))) qy):p:=h
theorem t2_nStandsMay_ok {p:Prop} (h:p:=by exact Kl [0,2,4,7,8,14,15,16] hKL1 (l.length-(k+1)) ⟨(k+1),(updF f1 (iv (l.getD k stand0).seq) (iv ((cntQ (l.take k) (l.getD k stand0).seq:Nat)+1))),(updF f2 (keyM (l.getD k stand0).seq (l.getD k stand0).dig) (iv ((cntM (l.take k) (l.getD k stand0).seq (l.getD k stand0).dig:Nat)+1))),rfl,by omega,upto hall ⟨by omega,by omega,by omega,by omega,fun h0=>ordS_neg.1 (by omega),by omega,(cntM_zero (by omega)).1 (by omega)⟩,hf1n,hf2n,hl.to,hcg0.to,hcg1.to,hcg2.to,hp.tail.tail,rfl⟩ (by omega)):p:=h
theorem t3_nStandsMay_ok {p:Prop} (h:p:=by simp only [evs,ev,e38,e41,e44];first|done|rfl):p:=h
theorem t4_nStandsMay_ok {p:Prop} (h:p:=by simp only [evs,ev,e49,e52];first|done|rfl):p:=h
theorem t5_nStandsMay_ok {p:Prop} (h:p:=by first|exact hs4|omega|simpa using hs4):p:=h
theorem t6_nStandsMay_ok {p:Prop} (h:p:=by first|exact hcm|omega|simpa using hcm):p:=h
set_option maxHeartbeats 40000000 in
theorem nStandsMay_ok {Al:Option Addr} {cl:Nat} {l:List Stn} {Sl:Nat→Prop} {cscg:List Value} {cg:Chn} {Scg:Nat→Prop} {many:Nat} (hl:GS standR Sl w Al cl l) (hcg:changeR.rd Scg w cscg cg) (hlow:0≤cg.low∧cg.low≤9007199254740983∧1≤cg.view) (_hmany:1≤many∧many≤4):Ret prog 129 #[.slice Al l.length cl, .agg cscg.toArray, .int .i64 (many:Int)] w (fun v w'=>v= .bool (decide (StandsMay l cg.low cg.view many))∧Ext w w'):=by
 obtain ⟨hIcg,Acg0,ccg0,Acg1,ccg1,Acg2,ccg2,rfl,hcg0,hcg1,hcg2⟩:=hcg
 have hJcg:=hIcg
 unfold ChnI i64 at hJcg
 have mhl:=hl.mx
 have mhcg0:=hcg0.mx
 have mhcg1:=hcg1.mx
 have mhcg2:=hcg2.mx
 refine ret_of_wk func129 rfl ntmps129 leB_ ?_
 have hp:=HP.begin_ w
 refine so ?_
 refine Bx hp (h:=fun gs4 w1 hp hE1=>so ?_)
 refine wl_hmakeMap (P:=prog) (k:=3) (by decide) hp ?_
 rintro gm12 wm hpm hEm
 replace hp:=hpm
 refine wl_hmakeMap (P:=prog) (k:=28) (by decide) hp ?_
 rintro gm13 wm hpm hEm
 replace hp:=hpm
 refine so ?_
 refine Lp [0, 2, 4, 7, 8, 14, 15, 16] (fun L' w' mes => ∃ (k : Nat), ∃ (f1 : Value → Option Value), ∃ (f2 : Value → Option Value), L' = [(0, .slice Al l.length cl), (2, iv (many : Int)), (4, pt gs4 0), (7, .map (some gm12)), (8, .map (some gm13)), (14, .slice Al l.length cl), (15, iv (l.length : Int)), (16, iv (k : Int))] ∧ (k ≤ l.length) ∧ (∀ i, i < k → StandAt l cg.low cg.view many i) ∧ (CntF f1 (l.take k)) ∧ (SeenF f2 (l.take k)) ∧ (GS standR (fun b => b < w.heap.size) w' Al cl l) ∧ (GS markR (fun b => b < w.heap.size) w' Acg0 ccg0 cg.marks) ∧ (GS standR (fun b => b < w.heap.size) w' Acg1 ccg1 cg.p) ∧ (GS standR (fun b => b < w.heap.size) w' Acg2 ccg2 cg.q) ∧ (HP w (fun _ => False) (fun b => b < w.heap.size) w' (itM prog 28 gm13 f2 :: itM prog 3 gm12 f1 :: itB gs4 35 ([iv cg.node, iv cg.view, iv cg.low, .slice Acg0 cg.marks.length ccg0, .slice Acg1 cg.p.length ccg1, .slice Acg2 cg.q.length ccg2]) :: [])) ∧ l.length - k = mes) (l.length - 0) (by
     refine ⟨0,(fun _=>none),(fun _=>none),rfl,by omega, ?_,CntF.nil,SeenF.nil,hl.tn,hcg0.tn,hcg1.tn,hcg2.tn,hp,rfl⟩
     intro i hi;omega) ?_
 rintro _ wr _ ⟨k,f1,f2,rfl,hk,hall,hf1,hf2,hl,hcg0,hcg1,hcg2,hp,rfl⟩ KL1 hKL1
 refine so ?_
 refine Cd ?_ ?_<;>intro hc1<;>refine so ?_
 obtain ⟨ae2,hAe2,hate2,hIe2⟩:=standR_el hl k (by omega)
 refine so ?_
 refine Alo hp (h:=fun gs10 w3 hp hE3=>so ?_)
 refine Hs 0 hp (h:=fun w4 hp hC4=>so ?_)
 refine wl_builtS (ps:= [(0, .tmp 22),(1, .tmp 24)]) (by decide) bld28 rfl rfl ?_
 refine Alo hp (h:=fun gs11 w5 hp5 hE5=> ?_)
 replace hp:=hp5
 refine Hs 0 hp (h:=fun w6 hp hC6=>so ?_)
 have hvQ:=hf1.val (l.getD k stand0).seq
 refine wl_lookup (z:=iv 0) (key:=iv (l.getD k stand0).seq) (by decide) (Go.Maps.int_keyed underlying3) underlying213 (by kernel_rfl) rfl rfl (Go.Maps.keyOf_int_mk underlying3 (wf64 hIe2.1)) (hp.mapAt (i:=3) rfl) ?_
 refine wl_re (k:=29) (v:=iv (cntQ (l.take k) (l.getD k stand0).seq:Nat)) rfl hvQ ?_
 have hcQ:cntQ (l.take k) (l.getD k stand0).seq≤k:=cntQ_le l _ k (by omega)
 refine so ?_
 refine wl_hmapUpdate (i:=3) (key:=iv (l.getD k stand0).seq) (Go.Maps.int_keyed underlying3) underlying213 rfl rfl rfl (Go.Maps.keyOf_int_mk underlying3 (wf64 hIe2.1)) hp rfl ?_
 rintro w5 hp hC5
 have hf1n:=hf1.step (l.getD k stand0)
 rw [←take_snoc stand0 (by omega:k<l.length)] at hf1n
 refine so ?_
 obtain ⟨lkM,hlkM⟩:=keyOf_of key28 (FitK.cons (fit_int hIe2.1.1 hIe2.1.2) (digC_fit (l.getD k stand0).dig))
 have hvM:=hf2.val (l.getD k stand0).seq (l.getD k stand0).dig
 have hcM:cntM (l.take k) (l.getD k stand0).seq (l.getD k stand0).dig≤k:=cntM_le l _ _ k (by omega)
 refine wc_bump (_e:=0) (_t:=0) (i:=2) (f:=f2) (key:=keyM (l.getD k stand0).seq (l.getD k stand0).dig) (z:=iv 0) (_lk':=lkM) (v1:=iv ((cntM (l.take k) (l.getD k stand0).seq (l.getD k stand0).dig:Nat)+1)) rfl (by kernel_rfl) (by kernel_rfl) rfl hp rfl ⟨?_, ?_, ?_, ?_, ?_, ?_,trivial⟩ ?_
 intro F wF bF hpF hCF h4F hK
 have e8:=hK.init 8 _ rfl (by kernel_rfl)
 refine Mv_ e8 ?_
 exact qz ⟨(if_neg (by decide)).mpr rfl,rfl⟩
 intro F wF bF hpF hCF h4F hK
 have e11:=hK.init 11 _ rfl (by kernel_rfl)
 have hB:Blk wF gs11 28 (([Value.int .i64 (l.getD k stand0).seq]++digC (l.getD k stand0).dig)):=by cases bF<;>exact hpF.blkAt (i:=0) rfl
 refine wl_loadBA (by decide) ag28 e11 hB rfl ?_
 exact qz ⟨(if_neg (by decide)).mpr rfl,rfl⟩
 intro F wF bF hpF hCF h4F hK
 obtain ⟨u31,e31,h31⟩:=hK.pred 0 (by kernel_rfl) 31 rfl
 obtain rfl:=h31
 obtain ⟨u32,e32,h32⟩:=hK.pred 1 (by kernel_rfl) 32 rfl
 obtain rfl:=h32
 have hM:(bF=false∧MapB prog 28 wF gm13 f2)∨MapB prog 28 wF gm13 (updF f2 (keyM (l.getD k stand0).seq (l.getD k stand0).dig) ((f2 (keyM (l.getD k stand0).seq (l.getD k stand0).dig)).getD (iv 0))):=by
   cases bF
   · exact .inl ⟨rfl,hpF.mapAt (i:=2) rfl⟩
   · exact .inr (hpF.mapAt (i:=2) rfl)
 rcases hM with ⟨_,hM⟩|hM
 refine wl_lookup (z:=iv 0) (by decide) (keyed_of key28) underlying214 (by kernel_rfl) e31 e32 hlkM hM ?_
 exact qz ⟨(if_neg (by decide)).mpr rfl,rfl⟩
 refine wl_lookup (z:=iv 0) (by decide) (keyed_of key28) underlying214 (by kernel_rfl) e31 e32 hlkM hM ?_
 rw [updF_same]
 exact qz ⟨(if_neg (by decide)).mpr rfl,rfl⟩
 intro F wF bF hpF hCF h4F hK
 obtain ⟨u33,e33,h33⟩:=hK.pred 2 (by kernel_rfl) 33 rfl
 obtain rfl:=h33
 rw [hvM] at e33
 refine wl_add (by decide) e33 rfl (w64 (by omega) (by omega)) ?_
 exact qz ⟨(if_neg (by decide)).mpr rfl,rfl⟩
 intro F wF bF hpF hCF h4F hK
 obtain ⟨u31,e31,h31⟩:=hK.pred 0 (by kernel_rfl) 31 rfl
 obtain rfl:=h31
 obtain ⟨u32,e32,h32⟩:=hK.pred 1 (by kernel_rfl) 32 rfl
 obtain rfl:=h32
 obtain rfl:=h4F rfl
 refine wl_hmapEntry (i:=2) (z:=iv 0) (by decide) (keyed_of key28) underlying214 (by kernel_rfl) e31 e32 hlkM hpF rfl ?_
 intro w7 b7 hp7 hB7 hC7
 exact qz ⟨(if_pos rfl).mpr ⟨hp7,hC7⟩,b7,rfl,hB7⟩
 intro F wF bF hpF hCF h4F hK
 obtain ⟨u35,e35,h35⟩:=hK.pred 4 (by kernel_rfl) 35 rfl
 obtain ⟨b7,rfl,hB7⟩:=h35
 refine wl_extract (by decide) e35 rfl ?_
 exact qz ⟨(if_neg (by decide)).mpr rfl,b7,rfl,hB7⟩
 intro F wD hpD hCD hini hdo
 obtain ⟨u31,e31,h31⟩:=hdo 0 31 (Nat.lt_of_lt_of_eq (by decide) rfl) rfl
 obtain rfl:=h31
 obtain ⟨u34,e34,h34⟩:=hdo 3 34 (Nat.lt_of_lt_of_eq (by decide) rfl) rfl
 obtain rfl:=h34
 obtain ⟨u36,e36,h36⟩:=hdo 5 36 (Nat.lt_of_lt_of_eq (by decide) rfl) rfl
 obtain ⟨b7,rfl,hB7⟩:=h36
 have e0:=hini 0 _ rfl (by kernel_rfl)
 have e2:=hini 2 _ rfl (by kernel_rfl)
 have e4:=hini 4 _ rfl (by kernel_rfl)
 have e7:=hini 7 _ rfl (by kernel_rfl)
 have e8:=hini 8 _ rfl (by kernel_rfl)
 have e9:=hini 9 _ rfl (by kernel_rfl)
 have e10:=hini 10 _ rfl (by kernel_rfl)
 have e11:=hini 11 _ rfl (by kernel_rfl)
 have e14:=hini 14 _ rfl (by kernel_rfl)
 have e15:=hini 15 _ rfl (by kernel_rfl)
 have e16:=hini 16 _ rfl (by kernel_rfl)
 refine wl_drop [(0,_),(2,_),(4,_),(7,_),(8,_),(9,_),(10,_),(11,_),(14,_),(15,_),(16,_),(31,_),(34,_),(36,_)] ⟨e0,e2,e4,e7,e8,e9,e10,e11,e14,e15,e16,e31,e34,e36,trivial⟩ ?_
 clear e0 e2 e4 e7 e8 e9 e10 e11 e14 e15 e16 e31 e34 e36 hini hdo
 refine wl_hentS (i:=2) rfl rfl rfl hpD rfl hB7 ?_
 intro w8 hp8 hC8
 replace hp8:=hp8.ay (_::_::itM prog 28 gm13 (updF (updF f2 (keyM (l.getD k stand0).seq (l.getD k stand0).dig) ((f2 (keyM (l.getD k stand0).seq (l.getD k stand0).dig)).getD (iv 0))) (keyM (l.getD k stand0).seq (l.getD k stand0).dig) (iv ((cntM (l.take k) (l.getD k stand0).seq (l.getD k stand0).dig:Nat)+1)))::_)
 rw [updF_updF] at hp8
 clear hp hpD
 have hp:=hp8
 clear hp8
 have hf2n:=hf2.step (l.getD k stand0)
 rw [←take_snoc stand0 (by omega:k<l.length)] at hf2n
 have hm1:=cntM_next (l:=l) (k:=k) (by omega)
 have hq1:=cntQ_next (l:=l) (k:=k) (by omega)
 refine so ?_
 by_cases hs2:(cg.low+1)≤((l.getD k stand0).seq)∧((l.getD k stand0).seq)≤(cg.low+8)
 by_cases hs3:0≤((l.getD k stand0).view)∧((l.getD k stand0).view)≤(cg.view-1)
 by_cases hs4:(k:Int)>0
 by_cases hs5:(ordS (l.getD (k-1) stand0) (l.getD k stand0))≥0
 obtain ⟨aw26,hAw26,hatw26,hIw26⟩:=standR_el (hl.to (w':=w8)) (k-1) (by omega)
 refine wdP 47 hp (fun wD hp hED=>by refine pm ?_;exact PLs (n_within) (h:=by refine pm ?_;exact PLsg (n_within) (h:=by refine pm ?_;exact .op rfl (aGy rfl rfl (by first|rfl|exact bt|exact bf) (wl_idx0 (by decide) sl30 rfl rfl hAw26 (k-1) (by omega) (by omega) (wl_nil qp))) (by refine pm ?_;exact PLeg (order_ok (Sa:=fun _=>True) (Sb:=fun _=>True) ⟨hIw26,rfl⟩ ⟨hIe2,rfl⟩) (h:=pl))))) fun wD hp hED=> ?_
 refine so ?_
 refine aT (so ?_)
 refine Pt ?_
 exact ⟨_,rfl,bool_f (fun h=>by have:=h k (by omega);obtain ⟨a1,a2,a3,a4,a5,a6,a7⟩:=this;first|omega|exact absurd (ordS_neg.2 (a5 (by omega))) (by omega)|exact absurd ((cntM_zero (by omega)).2 a7) (by omega)),hp.chg⟩
 by_cases hcm:(many:Int)<(cntQ (l.take (k+1)) (l.getD k stand0).seq:Int)
 obtain ⟨aw26,hAw26,hatw26,hIw26⟩:=standR_el (hl.to (w':=w8)) (k-1) (by omega)
 apply wdL [SP.eq _,SP.eq _,SP.eq _,SP.eq _,SP.eq _,SP.eq _,SP.eq _,SP.eq _,SP.eq (.bool true),SP.eq (.bool false),SP.eq (.bool false),SP.eq _,SP.eq _,SP.eq _,SP.eq _,SP.eq _,SP.eq (.bool true),SP.eq (.bool false),SP.eq (.bool false),SP.eq (.bool false),SP.eq _,SP.eq (.bool true),SP.eq (.bool true),SP.eq _,SP.eq _,SP.eq _,SP.eq _,SP.eq _,SP.eq _,SP.eq _,SP.eq (.bool false),SP.eq (.bool false),SP.eq (.bool false),SP.eq (.bool false),SP.eq _,SP.eq _,SP.eq _,SP.eq (iv (cntQ (l.take (k+1)) (l.getD k stand0).seq:Nat)),SP.eq _,SP.eq (.bool true),SP.eq (.bool true),SP.eq (.bool true),SP.eq undef,SP.eq undef,SP.eq undef,SP.eq undef,SP.eq (.bool true)]
 refine ⟨?_,?_,?_,?_,?_,?_,?_,?_,?_,?_,?_,?_,?_,?_,?_,?_,?_,?_,?_,?_,?_,?_,?_,?_,?_,?_,?_,?_,?_,?_,?_,?_,?_,?_,?_,?_,?_,?_,?_,?_,?_,?_,?_,?_,?_,?_,?_,trivial⟩<;>intro F wF hER hk
 exact Fd_ 0 fld110_0 (hk.pi 10) rfl qz
 exact Hl_ 1 sc3 (hk.pe 0) (hp.ext hER) rfl rfl qz
 exact Fd_ 2 fld35_2 (hk.pi 4) rfl qz
 exact Hl_ 4 sc3 (hk.pe 2) (hp.ext hER) rfl rfl qz
 exact wl_add (by decide) (hk.pe 3) rfl (w64 (by omega) (by omega)) qz
 exact Fd_ 2 fld35_2 (hk.pi 4) rfl qz
 exact Hl_ 4 sc3 (hk.pe 5) (hp.ext hER) rfl rfl qz
 exact wl_add (by decide) (hk.pe 6) rfl (w64 (by omega) (by omega)) qz
 have e38:=hk.pe 1
 have e41:=hk.pe 4
 have e44:=hk.pe 7
 refine Cl_ cl127 t3_nStandsMay_ok (n_within) ?_
 rintro _ _ ⟨rfl,rfl⟩
 exact t0_nStandsMay_ok
 have e45:=hk.pe 8
 first|exact Nd_ e45 qz|exact Nn_ e45 qz
 exact dm (hk.pe 9)
 have e10:=hk.pi 10
 have e47:=hk.pe 10
 refine wl_gyes rfl e47 ?_
 exact Fd_ 33 fld110_2 e10 rfl qz
 have e48:=hk.pe 11
 have e47:=hk.pe 10
 refine wl_gyes rfl e47 ?_
 exact Hl_ 1 sc3 e48 (hp.ext hER) rfl rfl qz
 have e4:=hk.pi 4
 have e47:=hk.pe 10
 refine wl_gyes rfl e47 ?_
 exact Fd_ 1 fld35_1 e4 rfl qz
 have e50:=hk.pe 13
 have e47:=hk.pe 10
 refine wl_gyes rfl e47 ?_
 exact Hl_ 4 sc3 e50 (hp.ext hER) rfl rfl qz
 have e51:=hk.pe 14
 have e47:=hk.pe 10
 refine wl_gyes rfl e47 ?_
 exact wl_sub (by decide) e51 rfl (w64 (by omega) (by omega)) qz
 have e49:=hk.pe 12
 have e52:=hk.pe 15
 have e47:=hk.pe 10
 refine wl_gyes rfl e47 ?_
 refine Cl_ cl127 t4_nStandsMay_ok (n_within) ?_
 rintro _ _ ⟨rfl,rfl⟩
 exact t1_nStandsMay_ok
 have e53:=hk.pe 16
 have e47:=hk.pe 10
 refine wl_gyes rfl e47 ?_
 first|exact Nd_ e53 qz|exact Nn_ e53 qz
 have e47:=hk.pe 10
 have e54:=hk.pe 17
 exact Pk_ e47 e54 qz
 exact dm (hk.pe 18)
 have e9:=hk.pi 9
 have e56:=hk.pe 19
 refine wl_gyes rfl e56 ?_
 exact Mv_ e9 qz
 have e57:=hk.pe 20
 have e56:=hk.pe 19
 refine wl_gyes rfl e56 ?_
 refine Gt_ e57 rfl ?_
 exact wl_re (k:=58) (v:= .bool true) rfl (congrArg Value.bool (decide_eq_true t5_nStandsMay_ok)) qy
 have e58:=hk.pe 21
 have e56:=hk.pe 19
 refine wl_gyes rfl e56 ?_
 exact Mv_ e58 qz
 have e0:=hk.pi 0
 have e59:=hk.pe 22
 refine wl_gyes rfl e59 ?_
 exact Mv_ e0 qz
 have e9:=hk.pi 9
 have e59:=hk.pe 22
 refine wl_gyes rfl e59 ?_
 exact Mv_ e9 qz
 have e61:=hk.pe 24
 have e59:=hk.pe 22
 refine wl_gyes rfl e59 ?_
 exact wl_sub (by decide) e61 rfl (w64 (by omega) (by omega)) qz
 have e60:=hk.pe 23
 have e62:=hk.pe 25
 have e59:=hk.pe 22
 refine wl_gyes rfl e59 ?_
 exact wl_idx0 (by decide) sl30 e60 e62 hAw26 (k-1) (by omega) (by omega) qz
 have e63:=hk.pe 26
 have e59:=hk.pe 22
 refine wl_gyes rfl e59 ?_
 exact wl_loadA (by decide) ag110 e63 (hatw26.ext hER).at_ rfl qz
 have e10:=hk.pi 10
 have e59:=hk.pe 22
 refine wl_gyes rfl e59 ?_
 exact Hx_ ([iv ((l.getD k stand0).seq)]++(digC ((l.getD k stand0).dig)++([iv ((l.getD k stand0).view)]))) 1 ag110 e10 (hp.ext hER) rfl rfl rfl qz
 have e64:=hk.pe 27
 have e65:=hk.pe 28
 have e59:=hk.pe 22
 refine wl_gyes rfl e59 ?_
 refine Cl_ cl158 (by simp only [evs,ev,e64,e65];first|done|rfl) (order_ok (Sa:=fun _=>True) (Sb:=fun _=>True) ⟨hIw26,rfl⟩ ⟨hIe2,rfl⟩) ?_
 rintro _ w7 ⟨rfl,hE7⟩
 exact qz ⟨hE7,rfl⟩
 have e66:=hk.pe 29
 have e59:=hk.pe 22
 refine wl_gyes rfl e59 ?_
 refine Gq_ e66 rfl ?_
 exact wl_re (k:=67) (v:= .bool false) rfl (congrArg Value.bool (decide_eq_false (by first|exact hs5|omega|simpa using hs5))) qy
 have e59:=hk.pe 22
 have e67:=hk.pe 30
 have e56:=hk.pe 19
 refine wl_gyes rfl e56 ?_
 exact Pk_ e59 e67 qz
 have e56:=hk.pe 19
 have e68:=hk.pe 31
 exact Pk_ e56 e68 qz
 exact dm (hk.pe 32)
 have e7:=hk.pi 7
 have e70:=hk.pe 33
 refine wl_gyes rfl e70 ?_
 exact Mv_ e7 qz
 have e10:=hk.pi 10
 have e70:=hk.pe 33
 refine wl_gyes rfl e70 ?_
 exact Fd_ 0 fld110_0 e10 rfl qz
 have e72:=hk.pe 35
 have e70:=hk.pe 33
 refine wl_gyes rfl e70 ?_
 exact Hl_ 1 sc3 e72 (hp.ext hER) rfl rfl qz
 have e71:=hk.pe 34
 have e73:=hk.pe 36
 have e70:=hk.pe 33
 refine wl_gyes rfl e70 ?_
 refine wl_lookup (z:=iv 0) (key:=iv (l.getD k stand0).seq) (by decide) (Go.Maps.int_keyed underlying3) underlying213 (by kernel_rfl) e71 e73 (Go.Maps.keyOf_int_mk underlying3 (wf64 hIe2.1)) ((hp.ext hER).mapAt (i:=3) rfl) ?_
 exact qz ⟨Chg.refl _ _,hf1n.val _⟩
 have e2:=hk.pi 2
 have e70:=hk.pe 33
 refine wl_gyes rfl e70 ?_
 exact Mv_ e2 qz
 have e74:=hk.pe 37
 have e75:=hk.pe 38
 have e70:=hk.pe 33
 refine wl_gyes rfl e70 ?_
 refine Gt_ e74 e75 ?_
 exact wl_re (k:=76) (v:= .bool true) rfl (congrArg Value.bool (decide_eq_true t6_nStandsMay_ok)) qy
 have e70:=hk.pe 33
 have e76:=hk.pe 39
 exact Pk_ e70 e76 qz
 exact dm (hk.pe 40)
 exact dn (hk.pe 41)
 exact dn (hk.pe 41)
 exact dn (hk.pe 41)
 exact dn (hk.pe 41)
 have e78:=hk.pe 41
 have e82:=hk.pe 45
 exact Pk_ e78 rfl qz
 intro F wD hED hini hdo
 refine wk_drop [(0,_),(2,_),(4,_),(7,_),(8,_),(14,_),(15,_),(16,_),(83,_)] ⟨di hini 0,di hini 2,di hini 4,di hini 7,di hini 8,di hini 14,di hini 15,di hini 16,dq hdo 46,trivial⟩ ?_
 clear hini hdo
 replace hp:=hp.ext hED
 refine so ?_
 refine aT (so ?_)
 refine Pt ?_
 exact ⟨_,rfl,bool_f (fun h=>by have:=h k (by omega);obtain ⟨a1,a2,a3,a4,a5,a6,a7⟩:=this;first|omega|exact absurd (ordS_neg.2 (a5 (by omega))) (by omega)|exact absurd ((cntM_zero (by omega)).2 a7) (by omega)),hp.chg⟩
 obtain ⟨aw26,hAw26,hatw26,hIw26⟩:=standR_el (hl.to (w':=w8)) (k-1) (by omega)
 apply wdL [SP.eq _,SP.eq _,SP.eq _,SP.eq _,SP.eq _,SP.eq _,SP.eq _,SP.eq _,SP.eq (.bool true),SP.eq (.bool false),SP.eq (.bool false),SP.eq _,SP.eq _,SP.eq _,SP.eq _,SP.eq _,SP.eq (.bool true),SP.eq (.bool false),SP.eq (.bool false),SP.eq (.bool false),SP.eq _,SP.eq (.bool true),SP.eq (.bool true),SP.eq _,SP.eq _,SP.eq _,SP.eq _,SP.eq _,SP.eq _,SP.eq _,SP.eq (.bool false),SP.eq (.bool false),SP.eq (.bool false),SP.eq (.bool false),SP.eq _,SP.eq _,SP.eq _,SP.eq (iv (cntQ (l.take (k+1)) (l.getD k stand0).seq:Nat)),SP.eq _,SP.eq (.bool false),SP.eq (.bool false),SP.eq (.bool false),SP.eq _,SP.eq _,SP.eq (iv (cntM (l.take (k+1)) (l.getD k stand0).seq (l.getD k stand0).dig:Nat)),SP.eq _,SP.eq _]
 refine ⟨?_,?_,?_,?_,?_,?_,?_,?_,?_,?_,?_,?_,?_,?_,?_,?_,?_,?_,?_,?_,?_,?_,?_,?_,?_,?_,?_,?_,?_,?_,?_,?_,?_,?_,?_,?_,?_,?_,?_,?_,?_,?_,?_,?_,?_,?_,?_,trivial⟩<;>intro F wF hER hk
 exact Fd_ 0 fld110_0 (hk.pi 10) rfl qz
 exact Hl_ 1 sc3 (hk.pe 0) (hp.ext hER) rfl rfl qz
 exact Fd_ 2 fld35_2 (hk.pi 4) rfl qz
 exact Hl_ 4 sc3 (hk.pe 2) (hp.ext hER) rfl rfl qz
 exact wl_add (by decide) (hk.pe 3) rfl (w64 (by omega) (by omega)) qz
 exact Fd_ 2 fld35_2 (hk.pi 4) rfl qz
 exact Hl_ 4 sc3 (hk.pe 5) (hp.ext hER) rfl rfl qz
 exact wl_add (by decide) (hk.pe 6) rfl (w64 (by omega) (by omega)) qz
 have e38:=hk.pe 1
 have e41:=hk.pe 4
 have e44:=hk.pe 7
 refine Cl_ cl127 t3_nStandsMay_ok (n_within) ?_
 rintro _ _ ⟨rfl,rfl⟩
 exact t0_nStandsMay_ok
 have e45:=hk.pe 8
 first|exact Nd_ e45 qz|exact Nn_ e45 qz
 exact dm (hk.pe 9)
 have e10:=hk.pi 10
 have e47:=hk.pe 10
 refine wl_gyes rfl e47 ?_
 exact Fd_ 33 fld110_2 e10 rfl qz
 have e48:=hk.pe 11
 have e47:=hk.pe 10
 refine wl_gyes rfl e47 ?_
 exact Hl_ 1 sc3 e48 (hp.ext hER) rfl rfl qz
 have e4:=hk.pi 4
 have e47:=hk.pe 10
 refine wl_gyes rfl e47 ?_
 exact Fd_ 1 fld35_1 e4 rfl qz
 have e50:=hk.pe 13
 have e47:=hk.pe 10
 refine wl_gyes rfl e47 ?_
 exact Hl_ 4 sc3 e50 (hp.ext hER) rfl rfl qz
 have e51:=hk.pe 14
 have e47:=hk.pe 10
 refine wl_gyes rfl e47 ?_
 exact wl_sub (by decide) e51 rfl (w64 (by omega) (by omega)) qz
 have e49:=hk.pe 12
 have e52:=hk.pe 15
 have e47:=hk.pe 10
 refine wl_gyes rfl e47 ?_
 refine Cl_ cl127 t4_nStandsMay_ok (n_within) ?_
 rintro _ _ ⟨rfl,rfl⟩
 exact t1_nStandsMay_ok
 have e53:=hk.pe 16
 have e47:=hk.pe 10
 refine wl_gyes rfl e47 ?_
 first|exact Nd_ e53 qz|exact Nn_ e53 qz
 have e47:=hk.pe 10
 have e54:=hk.pe 17
 exact Pk_ e47 e54 qz
 exact dm (hk.pe 18)
 have e9:=hk.pi 9
 have e56:=hk.pe 19
 refine wl_gyes rfl e56 ?_
 exact Mv_ e9 qz
 have e57:=hk.pe 20
 have e56:=hk.pe 19
 refine wl_gyes rfl e56 ?_
 refine Gt_ e57 rfl ?_
 exact wl_re (k:=58) (v:= .bool true) rfl (congrArg Value.bool (decide_eq_true t5_nStandsMay_ok)) qy
 have e58:=hk.pe 21
 have e56:=hk.pe 19
 refine wl_gyes rfl e56 ?_
 exact Mv_ e58 qz
 have e0:=hk.pi 0
 have e59:=hk.pe 22
 refine wl_gyes rfl e59 ?_
 exact Mv_ e0 qz
 have e9:=hk.pi 9
 have e59:=hk.pe 22
 refine wl_gyes rfl e59 ?_
 exact Mv_ e9 qz
 have e61:=hk.pe 24
 have e59:=hk.pe 22
 refine wl_gyes rfl e59 ?_
 exact wl_sub (by decide) e61 rfl (w64 (by omega) (by omega)) qz
 have e60:=hk.pe 23
 have e62:=hk.pe 25
 have e59:=hk.pe 22
 refine wl_gyes rfl e59 ?_
 exact wl_idx0 (by decide) sl30 e60 e62 hAw26 (k-1) (by omega) (by omega) qz
 have e63:=hk.pe 26
 have e59:=hk.pe 22
 refine wl_gyes rfl e59 ?_
 exact wl_loadA (by decide) ag110 e63 (hatw26.ext hER).at_ rfl qz
 have e10:=hk.pi 10
 have e59:=hk.pe 22
 refine wl_gyes rfl e59 ?_
 exact Hx_ ([iv ((l.getD k stand0).seq)]++(digC ((l.getD k stand0).dig)++([iv ((l.getD k stand0).view)]))) 1 ag110 e10 (hp.ext hER) rfl rfl rfl qz
 have e64:=hk.pe 27
 have e65:=hk.pe 28
 have e59:=hk.pe 22
 refine wl_gyes rfl e59 ?_
 refine Cl_ cl158 (by simp only [evs,ev,e64,e65];first|done|rfl) (order_ok (Sa:=fun _=>True) (Sb:=fun _=>True) ⟨hIw26,rfl⟩ ⟨hIe2,rfl⟩) ?_
 rintro _ w7 ⟨rfl,hE7⟩
 exact qz ⟨hE7,rfl⟩
 have e66:=hk.pe 29
 have e59:=hk.pe 22
 refine wl_gyes rfl e59 ?_
 refine Gq_ e66 rfl ?_
 exact wl_re (k:=67) (v:= .bool false) rfl (congrArg Value.bool (decide_eq_false (by first|exact hs5|omega|simpa using hs5))) qy
 have e59:=hk.pe 22
 have e67:=hk.pe 30
 have e56:=hk.pe 19
 refine wl_gyes rfl e56 ?_
 exact Pk_ e59 e67 qz
 have e56:=hk.pe 19
 have e68:=hk.pe 31
 exact Pk_ e56 e68 qz
 exact dm (hk.pe 32)
 have e7:=hk.pi 7
 have e70:=hk.pe 33
 refine wl_gyes rfl e70 ?_
 exact Mv_ e7 qz
 have e10:=hk.pi 10
 have e70:=hk.pe 33
 refine wl_gyes rfl e70 ?_
 exact Fd_ 0 fld110_0 e10 rfl qz
 have e72:=hk.pe 35
 have e70:=hk.pe 33
 refine wl_gyes rfl e70 ?_
 exact Hl_ 1 sc3 e72 (hp.ext hER) rfl rfl qz
 have e71:=hk.pe 34
 have e73:=hk.pe 36
 have e70:=hk.pe 33
 refine wl_gyes rfl e70 ?_
 refine wl_lookup (z:=iv 0) (key:=iv (l.getD k stand0).seq) (by decide) (Go.Maps.int_keyed underlying3) underlying213 (by kernel_rfl) e71 e73 (Go.Maps.keyOf_int_mk underlying3 (wf64 hIe2.1)) ((hp.ext hER).mapAt (i:=3) rfl) ?_
 exact qz ⟨Chg.refl _ _,hf1n.val _⟩
 have e2:=hk.pi 2
 have e70:=hk.pe 33
 refine wl_gyes rfl e70 ?_
 exact Mv_ e2 qz
 have e74:=hk.pe 37
 have e75:=hk.pe 38
 have e70:=hk.pe 33
 refine wl_gyes rfl e70 ?_
 refine Gt_ e74 e75 ?_
 exact wl_re (k:=76) (v:= .bool false) rfl (congrArg Value.bool (decide_eq_false t6_nStandsMay_ok)) qy
 have e70:=hk.pe 33
 have e76:=hk.pe 39
 exact Pk_ e70 e76 qz
 exact dm (hk.pe 40)
 have e8:=hk.pi 8
 have e78:=hk.pe 41
 refine wl_gyes rfl e78 ?_
 exact Mv_ e8 qz
 have e11:=hk.pi 11
 have e78:=hk.pe 41
 refine wl_gyes rfl e78 ?_
 exact Hx_ ([iv ((l.getD k stand0).seq)]++(digC ((l.getD k stand0).dig))) 0 ag28 e11 (hp.ext hER) rfl rfl rfl qz
 have e79:=hk.pe 42
 have e80:=hk.pe 43
 have e78:=hk.pe 41
 refine wl_gyes rfl e78 ?_
 refine wl_lookup (z:=iv 0) (key:=keyM (l.getD k stand0).seq (l.getD k stand0).dig) (by decide) (keyed_of key28) underlying214 (by kernel_rfl) e79 e80 hlkM ((hp.ext hER).mapAt (i:=2) rfl) ?_
 exact qz ⟨Chg.refl _ _,hf2n.val _ _⟩
 have e81:=hk.pe 44
 have e78:=hk.pe 41
 refine wl_gyes rfl e78 ?_
 exact Gt_ e81 rfl qz
 have e78:=hk.pe 41
 have e82:=hk.pe 45
 exact Pk_ e78 e82 qz
 intro F wD hED hini hdo
 refine wk_drop [(0,_),(2,_),(4,_),(7,_),(8,_),(14,_),(15,_),(16,_),(83,_)] ⟨di hini 0,di hini 2,di hini 4,di hini 7,di hini 8,di hini 14,di hini 15,di hini 16,dq hdo 46,trivial⟩ ?_
 clear hini hdo
 replace hp:=hp.ext hED
 refine so ?_
 refine Cd ?_ ?_<;>intro hc6<;>refine so ?_
 refine Pt ?_
 exact ⟨_,rfl,bool_f (fun h=>by have:=h k (by omega);obtain ⟨a1,a2,a3,a4,a5,a6,a7⟩:=this;first|omega|exact absurd (ordS_neg.2 (a5 (by omega))) (by omega)|exact absurd ((cntM_zero (by omega)).2 a7) (by omega)),hp.chg⟩
 exact t2_nStandsMay_ok
 by_cases hcm:(many:Int)<(cntQ (l.take (k+1)) (l.getD k stand0).seq:Int)
 apply wdL [SP.eq _,SP.eq _,SP.eq _,SP.eq _,SP.eq _,SP.eq _,SP.eq _,SP.eq _,SP.eq (.bool true),SP.eq (.bool false),SP.eq (.bool false),SP.eq _,SP.eq _,SP.eq _,SP.eq _,SP.eq _,SP.eq (.bool true),SP.eq (.bool false),SP.eq (.bool false),SP.eq (.bool false),SP.eq _,SP.eq (.bool false),SP.eq (.bool false),SP.eq undef,SP.eq undef,SP.eq undef,SP.eq undef,SP.eq undef,SP.eq undef,SP.eq undef,SP.eq undef,SP.eq (.bool false),SP.eq (.bool false),SP.eq (.bool false),SP.eq _,SP.eq _,SP.eq _,SP.eq (iv (cntQ (l.take (k+1)) (l.getD k stand0).seq:Nat)),SP.eq _,SP.eq (.bool true),SP.eq (.bool true),SP.eq (.bool true),SP.eq undef,SP.eq undef,SP.eq undef,SP.eq undef,SP.eq (.bool true)]
 refine ⟨?_,?_,?_,?_,?_,?_,?_,?_,?_,?_,?_,?_,?_,?_,?_,?_,?_,?_,?_,?_,?_,?_,?_,?_,?_,?_,?_,?_,?_,?_,?_,?_,?_,?_,?_,?_,?_,?_,?_,?_,?_,?_,?_,?_,?_,?_,?_,trivial⟩<;>intro F wF hER hk
 exact Fd_ 0 fld110_0 (hk.pi 10) rfl qz
 exact Hl_ 1 sc3 (hk.pe 0) (hp.ext hER) rfl rfl qz
 exact Fd_ 2 fld35_2 (hk.pi 4) rfl qz
 exact Hl_ 4 sc3 (hk.pe 2) (hp.ext hER) rfl rfl qz
 exact wl_add (by decide) (hk.pe 3) rfl (w64 (by omega) (by omega)) qz
 exact Fd_ 2 fld35_2 (hk.pi 4) rfl qz
 exact Hl_ 4 sc3 (hk.pe 5) (hp.ext hER) rfl rfl qz
 exact wl_add (by decide) (hk.pe 6) rfl (w64 (by omega) (by omega)) qz
 have e38:=hk.pe 1
 have e41:=hk.pe 4
 have e44:=hk.pe 7
 refine Cl_ cl127 t3_nStandsMay_ok (n_within) ?_
 rintro _ _ ⟨rfl,rfl⟩
 exact t0_nStandsMay_ok
 have e45:=hk.pe 8
 first|exact Nd_ e45 qz|exact Nn_ e45 qz
 exact dm (hk.pe 9)
 have e10:=hk.pi 10
 have e47:=hk.pe 10
 refine wl_gyes rfl e47 ?_
 exact Fd_ 33 fld110_2 e10 rfl qz
 have e48:=hk.pe 11
 have e47:=hk.pe 10
 refine wl_gyes rfl e47 ?_
 exact Hl_ 1 sc3 e48 (hp.ext hER) rfl rfl qz
 have e4:=hk.pi 4
 have e47:=hk.pe 10
 refine wl_gyes rfl e47 ?_
 exact Fd_ 1 fld35_1 e4 rfl qz
 have e50:=hk.pe 13
 have e47:=hk.pe 10
 refine wl_gyes rfl e47 ?_
 exact Hl_ 4 sc3 e50 (hp.ext hER) rfl rfl qz
 have e51:=hk.pe 14
 have e47:=hk.pe 10
 refine wl_gyes rfl e47 ?_
 exact wl_sub (by decide) e51 rfl (w64 (by omega) (by omega)) qz
 have e49:=hk.pe 12
 have e52:=hk.pe 15
 have e47:=hk.pe 10
 refine wl_gyes rfl e47 ?_
 refine Cl_ cl127 t4_nStandsMay_ok (n_within) ?_
 rintro _ _ ⟨rfl,rfl⟩
 exact t1_nStandsMay_ok
 have e53:=hk.pe 16
 have e47:=hk.pe 10
 refine wl_gyes rfl e47 ?_
 first|exact Nd_ e53 qz|exact Nn_ e53 qz
 have e47:=hk.pe 10
 have e54:=hk.pe 17
 exact Pk_ e47 e54 qz
 exact dm (hk.pe 18)
 have e9:=hk.pi 9
 have e56:=hk.pe 19
 refine wl_gyes rfl e56 ?_
 exact Mv_ e9 qz
 have e57:=hk.pe 20
 have e56:=hk.pe 19
 refine wl_gyes rfl e56 ?_
 refine Gt_ e57 rfl ?_
 exact wl_re (k:=58) (v:= .bool false) rfl (congrArg Value.bool (decide_eq_false t5_nStandsMay_ok)) qy
 have e58:=hk.pe 21
 have e56:=hk.pe 19
 refine wl_gyes rfl e56 ?_
 exact Mv_ e58 qz
 exact dn (hk.pe 22)
 exact dn (hk.pe 22)
 exact dn (hk.pe 22)
 exact dn (hk.pe 22)
 exact dn (hk.pe 22)
 exact dn (hk.pe 22)
 exact dn (hk.pe 22)
 exact dn (hk.pe 22)
 have e59:=hk.pe 22
 have e67:=hk.pe 30
 have e56:=hk.pe 19
 refine wl_gyes rfl e56 ?_
 exact Pk_ e59 rfl qz
 have e56:=hk.pe 19
 have e68:=hk.pe 31
 exact Pk_ e56 e68 qz
 exact dm (hk.pe 32)
 have e7:=hk.pi 7
 have e70:=hk.pe 33
 refine wl_gyes rfl e70 ?_
 exact Mv_ e7 qz
 have e10:=hk.pi 10
 have e70:=hk.pe 33
 refine wl_gyes rfl e70 ?_
 exact Fd_ 0 fld110_0 e10 rfl qz
 have e72:=hk.pe 35
 have e70:=hk.pe 33
 refine wl_gyes rfl e70 ?_
 exact Hl_ 1 sc3 e72 (hp.ext hER) rfl rfl qz
 have e71:=hk.pe 34
 have e73:=hk.pe 36
 have e70:=hk.pe 33
 refine wl_gyes rfl e70 ?_
 refine wl_lookup (z:=iv 0) (key:=iv (l.getD k stand0).seq) (by decide) (Go.Maps.int_keyed underlying3) underlying213 (by kernel_rfl) e71 e73 (Go.Maps.keyOf_int_mk underlying3 (wf64 hIe2.1)) ((hp.ext hER).mapAt (i:=3) rfl) ?_
 exact qz ⟨Chg.refl _ _,hf1n.val _⟩
 have e2:=hk.pi 2
 have e70:=hk.pe 33
 refine wl_gyes rfl e70 ?_
 exact Mv_ e2 qz
 have e74:=hk.pe 37
 have e75:=hk.pe 38
 have e70:=hk.pe 33
 refine wl_gyes rfl e70 ?_
 refine Gt_ e74 e75 ?_
 exact wl_re (k:=76) (v:= .bool true) rfl (congrArg Value.bool (decide_eq_true t6_nStandsMay_ok)) qy
 have e70:=hk.pe 33
 have e76:=hk.pe 39
 exact Pk_ e70 e76 qz
 exact dm (hk.pe 40)
 exact dn (hk.pe 41)
 exact dn (hk.pe 41)
 exact dn (hk.pe 41)
 exact dn (hk.pe 41)
 have e78:=hk.pe 41
 have e82:=hk.pe 45
 exact Pk_ e78 rfl qz
 intro F wD hED hini hdo
 refine wk_drop [(0,_),(2,_),(4,_),(7,_),(8,_),(14,_),(15,_),(16,_),(83,_)] ⟨di hini 0,di hini 2,di hini 4,di hini 7,di hini 8,di hini 14,di hini 15,di hini 16,dq hdo 46,trivial⟩ ?_
 clear hini hdo
 replace hp:=hp.ext hED
 refine so ?_
 refine aT (so ?_)
 refine Pt ?_
 exact ⟨_,rfl,bool_f (fun h=>by have:=h k (by omega);obtain ⟨a1,a2,a3,a4,a5,a6,a7⟩:=this;first|omega|exact absurd (ordS_neg.2 (a5 (by omega))) (by omega)|exact absurd ((cntM_zero (by omega)).2 a7) (by omega)),hp.chg⟩
 apply wdL [SP.eq _,SP.eq _,SP.eq _,SP.eq _,SP.eq _,SP.eq _,SP.eq _,SP.eq _,SP.eq (.bool true),SP.eq (.bool false),SP.eq (.bool false),SP.eq _,SP.eq _,SP.eq _,SP.eq _,SP.eq _,SP.eq (.bool true),SP.eq (.bool false),SP.eq (.bool false),SP.eq (.bool false),SP.eq _,SP.eq (.bool false),SP.eq (.bool false),SP.eq undef,SP.eq undef,SP.eq undef,SP.eq undef,SP.eq undef,SP.eq undef,SP.eq undef,SP.eq undef,SP.eq (.bool false),SP.eq (.bool false),SP.eq (.bool false),SP.eq _,SP.eq _,SP.eq _,SP.eq (iv (cntQ (l.take (k+1)) (l.getD k stand0).seq:Nat)),SP.eq _,SP.eq (.bool false),SP.eq (.bool false),SP.eq (.bool false),SP.eq _,SP.eq _,SP.eq (iv (cntM (l.take (k+1)) (l.getD k stand0).seq (l.getD k stand0).dig:Nat)),SP.eq _,SP.eq _]
 refine ⟨?_,?_,?_,?_,?_,?_,?_,?_,?_,?_,?_,?_,?_,?_,?_,?_,?_,?_,?_,?_,?_,?_,?_,?_,?_,?_,?_,?_,?_,?_,?_,?_,?_,?_,?_,?_,?_,?_,?_,?_,?_,?_,?_,?_,?_,?_,?_,trivial⟩<;>intro F wF hER hk
 exact Fd_ 0 fld110_0 (hk.pi 10) rfl qz
 exact Hl_ 1 sc3 (hk.pe 0) (hp.ext hER) rfl rfl qz
 exact Fd_ 2 fld35_2 (hk.pi 4) rfl qz
 exact Hl_ 4 sc3 (hk.pe 2) (hp.ext hER) rfl rfl qz
 exact wl_add (by decide) (hk.pe 3) rfl (w64 (by omega) (by omega)) qz
 exact Fd_ 2 fld35_2 (hk.pi 4) rfl qz
 exact Hl_ 4 sc3 (hk.pe 5) (hp.ext hER) rfl rfl qz
 exact wl_add (by decide) (hk.pe 6) rfl (w64 (by omega) (by omega)) qz
 have e38:=hk.pe 1
 have e41:=hk.pe 4
 have e44:=hk.pe 7
 refine Cl_ cl127 t3_nStandsMay_ok (n_within) ?_
 rintro _ _ ⟨rfl,rfl⟩
 exact t0_nStandsMay_ok
 have e45:=hk.pe 8
 first|exact Nd_ e45 qz|exact Nn_ e45 qz
 exact dm (hk.pe 9)
 have e10:=hk.pi 10
 have e47:=hk.pe 10
 refine wl_gyes rfl e47 ?_
 exact Fd_ 33 fld110_2 e10 rfl qz
 have e48:=hk.pe 11
 have e47:=hk.pe 10
 refine wl_gyes rfl e47 ?_
 exact Hl_ 1 sc3 e48 (hp.ext hER) rfl rfl qz
 have e4:=hk.pi 4
 have e47:=hk.pe 10
 refine wl_gyes rfl e47 ?_
 exact Fd_ 1 fld35_1 e4 rfl qz
 have e50:=hk.pe 13
 have e47:=hk.pe 10
 refine wl_gyes rfl e47 ?_
 exact Hl_ 4 sc3 e50 (hp.ext hER) rfl rfl qz
 have e51:=hk.pe 14
 have e47:=hk.pe 10
 refine wl_gyes rfl e47 ?_
 exact wl_sub (by decide) e51 rfl (w64 (by omega) (by omega)) qz
 have e49:=hk.pe 12
 have e52:=hk.pe 15
 have e47:=hk.pe 10
 refine wl_gyes rfl e47 ?_
 refine Cl_ cl127 t4_nStandsMay_ok (n_within) ?_
 rintro _ _ ⟨rfl,rfl⟩
 exact t1_nStandsMay_ok
 have e53:=hk.pe 16
 have e47:=hk.pe 10
 refine wl_gyes rfl e47 ?_
 first|exact Nd_ e53 qz|exact Nn_ e53 qz
 have e47:=hk.pe 10
 have e54:=hk.pe 17
 exact Pk_ e47 e54 qz
 exact dm (hk.pe 18)
 have e9:=hk.pi 9
 have e56:=hk.pe 19
 refine wl_gyes rfl e56 ?_
 exact Mv_ e9 qz
 have e57:=hk.pe 20
 have e56:=hk.pe 19
 refine wl_gyes rfl e56 ?_
 refine Gt_ e57 rfl ?_
 exact wl_re (k:=58) (v:= .bool false) rfl (congrArg Value.bool (decide_eq_false t5_nStandsMay_ok)) qy
 have e58:=hk.pe 21
 have e56:=hk.pe 19
 refine wl_gyes rfl e56 ?_
 exact Mv_ e58 qz
 exact dn (hk.pe 22)
 exact dn (hk.pe 22)
 exact dn (hk.pe 22)
 exact dn (hk.pe 22)
 exact dn (hk.pe 22)
 exact dn (hk.pe 22)
 exact dn (hk.pe 22)
 exact dn (hk.pe 22)
 have e59:=hk.pe 22
 have e67:=hk.pe 30
 have e56:=hk.pe 19
 refine wl_gyes rfl e56 ?_
 exact Pk_ e59 rfl qz
 have e56:=hk.pe 19
 have e68:=hk.pe 31
 exact Pk_ e56 e68 qz
 exact dm (hk.pe 32)
 have e7:=hk.pi 7
 have e70:=hk.pe 33
 refine wl_gyes rfl e70 ?_
 exact Mv_ e7 qz
 have e10:=hk.pi 10
 have e70:=hk.pe 33
 refine wl_gyes rfl e70 ?_
 exact Fd_ 0 fld110_0 e10 rfl qz
 have e72:=hk.pe 35
 have e70:=hk.pe 33
 refine wl_gyes rfl e70 ?_
 exact Hl_ 1 sc3 e72 (hp.ext hER) rfl rfl qz
 have e71:=hk.pe 34
 have e73:=hk.pe 36
 have e70:=hk.pe 33
 refine wl_gyes rfl e70 ?_
 refine wl_lookup (z:=iv 0) (key:=iv (l.getD k stand0).seq) (by decide) (Go.Maps.int_keyed underlying3) underlying213 (by kernel_rfl) e71 e73 (Go.Maps.keyOf_int_mk underlying3 (wf64 hIe2.1)) ((hp.ext hER).mapAt (i:=3) rfl) ?_
 exact qz ⟨Chg.refl _ _,hf1n.val _⟩
 have e2:=hk.pi 2
 have e70:=hk.pe 33
 refine wl_gyes rfl e70 ?_
 exact Mv_ e2 qz
 have e74:=hk.pe 37
 have e75:=hk.pe 38
 have e70:=hk.pe 33
 refine wl_gyes rfl e70 ?_
 refine Gt_ e74 e75 ?_
 exact wl_re (k:=76) (v:= .bool false) rfl (congrArg Value.bool (decide_eq_false t6_nStandsMay_ok)) qy
 have e70:=hk.pe 33
 have e76:=hk.pe 39
 exact Pk_ e70 e76 qz
 exact dm (hk.pe 40)
 have e8:=hk.pi 8
 have e78:=hk.pe 41
 refine wl_gyes rfl e78 ?_
 exact Mv_ e8 qz
 have e11:=hk.pi 11
 have e78:=hk.pe 41
 refine wl_gyes rfl e78 ?_
 exact Hx_ ([iv ((l.getD k stand0).seq)]++(digC ((l.getD k stand0).dig))) 0 ag28 e11 (hp.ext hER) rfl rfl rfl qz
 have e79:=hk.pe 42
 have e80:=hk.pe 43
 have e78:=hk.pe 41
 refine wl_gyes rfl e78 ?_
 refine wl_lookup (z:=iv 0) (key:=keyM (l.getD k stand0).seq (l.getD k stand0).dig) (by decide) (keyed_of key28) underlying214 (by kernel_rfl) e79 e80 hlkM ((hp.ext hER).mapAt (i:=2) rfl) ?_
 exact qz ⟨Chg.refl _ _,hf2n.val _ _⟩
 have e81:=hk.pe 44
 have e78:=hk.pe 41
 refine wl_gyes rfl e78 ?_
 exact Gt_ e81 rfl qz
 have e78:=hk.pe 41
 have e82:=hk.pe 45
 exact Pk_ e78 e82 qz
 intro F wD hED hini hdo
 refine wk_drop [(0,_),(2,_),(4,_),(7,_),(8,_),(14,_),(15,_),(16,_),(83,_)] ⟨di hini 0,di hini 2,di hini 4,di hini 7,di hini 8,di hini 14,di hini 15,di hini 16,dq hdo 46,trivial⟩ ?_
 clear hini hdo
 replace hp:=hp.ext hED
 refine so ?_
 refine Cd ?_ ?_<;>intro hc7<;>refine so ?_
 refine Pt ?_
 exact ⟨_,rfl,bool_f (fun h=>by have:=h k (by omega);obtain ⟨a1,a2,a3,a4,a5,a6,a7⟩:=this;first|omega|exact absurd (ordS_neg.2 (a5 (by omega))) (by omega)|exact absurd ((cntM_zero (by omega)).2 a7) (by omega)),hp.chg⟩
 exact t2_nStandsMay_ok
 refine wdP 47 hp (fun wD hp hED=>by refine pm ?_;exact PLs (n_within) (h:=by refine pm ?_;exact PLsg (n_within) (h:=pl))) fun wD hp hED=> ?_
 refine so ?_
 refine aT (so ?_)
 refine Pt ?_
 exact ⟨_,rfl,bool_f (fun h=>by have:=h k (by omega);obtain ⟨a1,a2,a3,a4,a5,a6,a7⟩:=this;first|omega|exact absurd (ordS_neg.2 (a5 (by omega))) (by omega)|exact absurd ((cntM_zero (by omega)).2 a7) (by omega)),hp.chg⟩
 refine wdP 47 hp (fun wD hp hED=>by refine pm ?_;exact PLs (n_within) (h:=pl)) fun wD hp hED=> ?_
 refine so ?_
 refine aT (so ?_)
 refine Pt ?_
 exact ⟨_,rfl,bool_f (fun h=>by have:=h k (by omega);obtain ⟨a1,a2,a3,a4,a5,a6,a7⟩:=this;first|omega|exact absurd (ordS_neg.2 (a5 (by omega))) (by omega)|exact absurd ((cntM_zero (by omega)).2 a7) (by omega)),hp.chg⟩
 refine Pt ?_
 exact ⟨_,rfl,bool_t (fun i hi=>hall i (by omega)),hp.chg⟩
end Go.Proofs.YtmbpneaibmldfaaGreat
