/- What each of these functions computes, for every argument that its theorem names; a part of what the proof of ImageOnce stands on. -/
import Derived.Test.YtmbpneaibmldfaaGreatAac
import Derived.Test.YtmbpneaibmldfaaGreatAad
namespace Go.Proofs.YtmbpneaibmldfaaGreat
open Go.RowKit Go.Eng Go.Eng _root_.Go.Proofs.Tryz
set_option maxRecDepth 100000
variable {w0 w:World} {M0 Fz:Nat→Prop} {H:List It} {A:Option Addr} {c:Nat}
def markR:Rep Mrk where
 size:=33
 rd:=fun S w cs x=>MrkI x∧cs= [.int .i64 x.seq]++(digC x.dig)
 len:=by rintro _ _ _ _ ⟨hI,rfl⟩;rfl
 one:=by rintro _ _ _ _ ⟨hI,rfl⟩;exact List.all_eq_true.1 rfl
 keep:=by rintro _ _ _ _ _ _ ch hm ⟨hI,rfl⟩;exact ⟨hI,rfl⟩
 mono:=by rintro _ _ _ _ _ hs ⟨hI,rfl⟩;exact ⟨hI,rfl⟩
theorem ChnI0:ChnI change0:=by unfold ChnI i64;decide
theorem NteI.ans {n:Nte} (h:NteI n):AnsI n.ans:=by unfold NteI i64 at h;unfold AnsI i64;omega
theorem MrkI.fit {x:Mrk} (h:MrkI x):FitK (some .i64::List.replicate 32 (some .u8)) ([.int .i64 x.seq]++(digC x.dig)):=FitK.cons (fit_int h.1 h.2) (digC_fit x.dig)
theorem ImgI.low {m:Img} (h:ImgI m):MrkI m.low:=by unfold ImgI i64 at h;unfold MrkI i64;omega
end Go.Proofs.YtmbpneaibmldfaaGreat
namespace Go.Proofs.YtmbpneaibmldfaaGreat
open Go.RowKit Go.Eng _root_.Go.Proofs.Tryz Go.Eng _root_.Go.Proofs.Tryz
set_option maxRecDepth 100000
variable {w0 w:World} {M0 Fz:Nat→Prop} {H:List It} {A:Option Addr} {c:Nat}
def sch1 (a b c d:UInt8):Int:=wu (wu (wu (wu (wu (a.toNat:Int)*16777216)+wu (wu (b.toNat:Int)*65536))+wu (wu (c.toNat:Int)*256))+wu (d.toNat:Int))
theorem first_ok {w:World}:Ret prog 182 #[] w (fun v w'=>v= .agg (firstL.map uv).toArray∧Ext w w'):=by
 refine ret_of_wk func182 rfl ntmps182 leB_ ?_
 have hp:=HP.begin_ w
 refine so ?_
 refine Alo hp (h:=fun g2 w1 hp E1=>so ?_)
 refine wl_builtS (by decide) bld230 rfl rfl ?_
 refine Hs 0 hp (h:=fun w2 hp C2=>so ?_)
 refine wk_postR (rs:= [.cell 0 230]) (.inl rfl) results182 ⟨_,_,_,rfl,rfl,loadVar_agg ag230 (hp.blkAt (i:=0) rfl).at0 rfl,rfl⟩ ?_
 exact ⟨_,rfl,rfl,hp.chg⟩
def rBig (s:List Int) (kt wt:Int):Int:=
 wu (wu (wu (wu (s.getD 7 0+bitsV .xor .u32 (bitsV .xor .u32 (rorV (s.getD 4 0) 6) (rorV (s.getD 4 0) 11)) (rorV (s.getD 4 0) 25))+bitsV .xor .u32 (bitsV .and .u32 (s.getD 4 0) (s.getD 5 0)) (bitsV .and .u32 (bitsV .xor .u32 (if IntKind.u32.signed then-1 else IntKind.u32.max) (s.getD 4 0)) (s.getD 6 0)))+kt)+wt)
def rndB (S s : List Int) : Nat → List Int
 |0=>s
 |i+1=>(rndB S s i).set i (wu ((rndB S s i).getD i 0+S.getD i 0))
def tailB (n : Int) : Nat → List UInt8
 |0=> []
 |j+1=>tailB n j++ [lenB n (7-j)]
theorem outA_len (s:List Int) (i:Nat):(outA s i).length=32:=by
 induction i with
 |zero=>rfl
 |succ i ih=>rw [outA,List.length_set,ih]
end Go.Proofs.YtmbpneaibmldfaaGreat
namespace Go.Proofs.YtmbpneaibmldfaaGreat
open Go.RowKit Go.Eng Go.Eng _root_.Go.Proofs.Tryz
set_option maxRecDepth 100000
variable {w0 w:World} {M0 Fz:Nat→Prop} {H:List It} {A:Option Addr} {c:Nat}
theorem num_ok {n:Int} (h1: -9223372036854775808≤n) (h2:n≤9223372036854775807):Ret prog 72 #[.int .i64 n] w (fun v w'=> ∃A c,v= .tuple #[.slice A (numS n).1.length c, .int .i64 (numS n).2]∧OwnB 5 w.heap.size w' A c (numS n).1∧Ext w w'):=by
 refine ret_of_wk func72 rfl ntmps72 leB_ ?_
 refine so ?_
 refine Gs 9 ?_ ?_<;>intro hg<;>refine so ?_
 refine aT (so ?_)
 refine P2 results72 ?_
 exact ⟨_,rfl,none,0,by rw [numS,if_pos (by omega)];rfl,by rw [numS,if_pos (by omega)];exact OwnRow.nil _ _ _ _ _,Chg.refl _ _⟩
 refine Cd ?_ ?_<;>intro hc
 refine so ?_
 refine P2 results72 ?_
 exact ⟨_,rfl,none,0,by rw [numS,if_pos (by omega)];rfl,by rw [numS,if_pos (by omega)];exact OwnRow.nil _ _ _ _ _,Chg.refl _ _⟩
 obtain ⟨N,rfl⟩: ∃N:Nat,n=N:=⟨n.toNat,by omega⟩
 have hs:numS (N:Int)=(numL N,0):=by rw [numS,if_neg (by omega)];simp
 have hN:N≤9007199254740991:=by omega
 have h7:=digs_len N hN
 refine so ?_
 refine Lp [0, 4] (fun L' w' mes => ∃ (m : Nat), L' = [(0, iv (N : Int)), (4, iv (m : Int))] ∧ (m ≤ (digs N).length) ∧ (w = w') ∧ (digs N).length - m = mes) ((digs N).length - 0) (by
     refine ⟨0,rfl,by omega, ?_,rfl⟩
     rfl) ?_
 rintro _ wr _ ⟨m,rfl,hm,hw,rfl⟩ KL1 hKL1
 subst hw
 refine so ?_
 refine wl_mul (by decide) rfl rfl (w64 (by omega) (by omega)) ?_
 refine wl_shr (by decide) rfl rfl (by omega) (shr256 N m _ rfl (by omega)) ?_
 refine so ?_
 refine Cd ?_ ?_<;>intro hlt
 have hml:m<(digs N).length:=(digs_lt N m hN (by omega)).1 (by omega)
 refine so ?_
 refine Kl [0,4] hKL1 ((digs N).length-(m+1)) ⟨(m+1),rfl,by omega, ?_,rfl⟩ (by omega)
 rfl
 have hme:(digs N).length=m:=by
   have:=mt (digs_lt N m hN (by omega)).2 (by omega)
   omega
 refine so ?_
 refine wl_conv (by decide) it3 it5 rfl (wrap_u8 _) ?_
 refine wl_bsliceB (xs:= [.tmp 21]) (bs:= [u8Of m]) (by decide) sl36 rfl rfl rfl (by simp) w.heap.size (Nat.le_refl _) ?_
 rintro g w1 hg1 ho1 hE1
 refine so ?_
 refine Lp [0, 4, 5, 23, 24] (fun L' w' mes => ∃ (i : Nat), ∃ (A : Option Addr), ∃ (c : Nat), L' = [(0, iv (N : Int)), (4, iv (m : Int)), (5, .slice A (UInt8.ofNat m :: (digs N).take i).length c), (23, iv (m : Int)), (24, iv (i : Int))] ∧ (i ≤ m) ∧ (OwnB 5 w.heap.size w' A c (UInt8.ofNat m :: (digs N).take i)) ∧ (Ext w w') ∧ m - i = mes) (m - 0) (by
     refine ⟨0,_,_,rfl,by omega, ?_,hE1,rfl⟩
     rw [u8Of_nat] at ho1;exact ho1) ?_
 rintro _ wr _ ⟨i,A,c,rfl,hi,ho,hE,rfl⟩ KL2 hKL2
 refine so ?_
 refine Cd ?_ ?_<;>intro hlt2<;>refine so ?_
 have hsucc:=digs_succ N i (by omega)
 rw [hme,←u8Of_nat (N/_)] at hsucc
 refine so ?_
 refine wl_mul (by decide) rfl rfl (w64 (by omega) (by omega)) ?_
 refine wl_shr (by decide) rfl rfl (by omega) (shr256 N (m-1-i) _ (by omega) (by omega)) ?_
 refine wl_conv (by decide) it3 it5 rfl (wrap_u8 _) ?_
 refine wl_bsliceB (xs:= [.tmp 35]) (bs:= [u8Of ((N/256^(m-1-i):Nat):Int)]) (by decide) sl36 rfl rfl rfl (by simp) wr.heap.size (Nat.le_refl _) ?_
 rintro g2 w2 hg2 ho2 hE2
 refine wl_appendB (l2:= [u8Of ((N/256^(m-1-i):Nat):Int)]) (by decide) sl36 rfl rfl (ho.ext hE2) ho2.bs (by have:=ho.mx;have:=digs_len N hN;simp;omega) (Nat.le_trans hE.size hE2.size) ?_
 rintro A3 c3 w3 ho3 ch3 _
 refine sl ?_
 refine wc_region ?_
 refine sl ?_
 refine wk_drop [(0,iv (N:Int)),(4,iv (m:Int)),(5, .slice A3 (UInt8.ofNat m::(digs N).take (i+1)).length c3),(23,iv (m:Int)),(24,iv ((i+1):Int))] ⟨rfl,rfl,(by rw [hsucc];rfl),rfl,rfl,trivial⟩ (hKL2 _ _ (m2:=m-(i+1)) ?_ ?_)
 refine ⟨(i+1),A3,c3,rfl,by omega, ?_,(hE.trans hE2).own ch3 (Nat.le_refl _),rfl⟩
 rw [hsucc];exact ho3
 omega
 refine P2 results72 ?_
 have hfin:UInt8.ofNat m::(digs N).take i=numL N:=by rw [List.take_of_length_le (by omega),←hme];rfl
 rw [hfin] at ho⊢
 exact ⟨_,rfl,A,c,by rw [hs],by rw [hs];exact ho,hE⟩
theorem digits_ok {N:Nat} (hN:N≤9007199254740991):Ret prog 135 #[.int .i64 (N:Int)] w (fun v w'=> ∃A c,v= .slice A (digs N).length c∧OwnB 5 w.heap.size w' A c (digs N)∧Ext w w'):=by
 refine ret_of_wk func135 rfl ntmps135 leB_ ?_
 refine go ?_
 refine wc_loop (fun L' w' mes => ∃ (m : Nat), ∃ (l : List UInt8), ∃ (A : Option Addr), ∃ (c : Nat), L' = [(0, iv (m : Int)), (3, .slice A l.length c)] ∧ (digs N = digF (8 - l.length) m ++ l) ∧ (m < 256 ^ (7 - l.length)) ∧ (l.length ≤ 7) ∧ (OwnB 5 w.heap.size w' A c l) ∧ (Ext w w') ∧ m = mes) [(0, iv (N : Int)), (3, .slice _ [].length _)] (N) (by
     refine ⟨N, [],_,_,rfl, ?_, ?_, ?_, ?_, ?_,rfl⟩
     · simp [digs]
     · simp only [List.length_nil];omega
     · simp
     · exact OwnRow.nil _ _ _ _ _
     · exact Chg.refl _ _) ⟨rfl,rfl,trivial⟩ ?_
 rintro _ wr _ ⟨m,l,A,c,rfl,hd,hm,hll,ho,hE,rfl⟩ KL1 hKL1
 have hm0:0<m→l.length<7:=by
   intro h0
   rcases Nat.lt_or_ge l.length 7 with h|h
   · exact h
   · rw [show 7-l.length=0 by omega] at hm;simp at hm;omega
 refine go ?_
 refine Gt_ rfl rfl (go ?_)
 refine Cd (fun hlt=> ?_) fun hlt=> ?_
 have hl7:=hm0 (by omega)
 have hmlt:m<256^7:=Nat.lt_of_lt_of_le hm (Nat.pow_le_pow_right (by omega) (by omega))
 refine go ?_
 refine wl_rem (by decide) rfl rfl (by omega) (Int.tmod_eq_emod_of_nonneg (by omega)) ?_
 refine wl_conv (by decide) it3 it5 rfl (wrap_u8 _) ?_
 have hbb:u8Of ((m:Int)%256)=u8Of (m:Int):=by simp only [u8Of,Int.emod_emod_of_dvd _ (Int.dvd_refl _)]
 refine wl_re (k:=8) (v:=bv (u8Of (m:Int))) rfl (by rw [hbb]) ?_
 refine wl_bsliceB (xs:= [.tmp 8]) (bs:= [u8Of (m:Int)]) (by decide) sl36 rfl rfl rfl (by simp) wr.heap.size (Nat.le_refl _) ?_
 rintro g2 w2 hg2 ho2 hE2
 refine go ?_
 refine wl_appendB (l:= [u8Of (m:Int)]) (by decide) sl36 rfl rfl ho2 (ho.ext hE2).bs (by have:=ho.mx;simp;omega) hE2.size ?_
 rintro A3 c3 w3 ho3 ch3 _
 have hE3:=(hE.trans hE2).own ch3 hE.size
 replace ho3:=ho3.lower hE.size
 refine go ?_
 have hq:(m:Int).tdiv 256=((m/256:Nat):Int):=by rw [Int.tdiv_eq_ediv_of_nonneg (by omega)];omega
 refine wl_quo (by decide) rfl rfl (by omega) (w64 (by omega) (by omega)) ?_
 refine gl ?_
 refine wk_drop [(0,iv ((m/256):Int)),(3, .slice A3 (u8Of (m:Int)::l).length c3)] ⟨(by rw [hq];rfl),rfl,trivial⟩ (hKL1 _ _ (m2:=(m/256)) ?_ ?_)
 refine ⟨(m/256),(u8Of (m:Int)::l),A3,c3,rfl, ?_, ?_, ?_, ?_, ?_,rfl⟩
 rw [hd,show 8-l.length=(7-l.length)+1 by omega,digF,if_neg (by omega),u8Of_nat];simp [show 8-(l.length+1)=7-l.length by omega]
 rw [List.length_cons,show 7-l.length=(7-(l.length+1))+1 by omega,Nat.pow_succ] at *;omega
 simp only [List.length_cons];omega
 exact ho3
 exact hE3
 omega
 have h0:m=0:=by omega
 subst h0
 rw [digF_zero,List.nil_append] at hd
 refine go ?_
 refine P1 results135 ?_
 exact ⟨_,rfl,A,c,by rw [hd],by rw [hd];exact ho,hE⟩
theorem rjoin_ok {ls:List (List UInt8)} {Sa:Nat→Prop} (h:GS (sliceR byteR) Sa w A c ls) (hb:ls.flatten.length≤140737488355328):Ret prog 137 #[.slice A ls.length c] w (fun v w'=> ∃A' c',v= .slice A' ls.flatten.length c'∧OwnB 5 w.heap.size w' A' c' ls.flatten∧Ext w w'):=by
 refine ret_of_wk func137 rfl ntmps137 leB_ ?_
 refine go ?_
 refine wc_loop (fun L' w' mes => ∃ (k : Nat), ∃ (A2 : Option Addr), ∃ (c2 : Nat), L' = [(3, .slice A2 (ls.take k).flatten.length c2), (0, .slice A ls.length c), (4, iv (k : Int))] ∧ (k ≤ ls.length) ∧ (OwnB 5 w.heap.size w' A2 c2 (ls.take k).flatten) ∧ (Ext w w') ∧ ls.length - k = mes) [(3, .slice _ (ls.take 0).flatten.length _), (0, .slice A ls.length c), (4, iv (0 : Int))] (ls.length - 0) (by
     refine ⟨0,_,_,rfl, ?_, ?_, ?_,rfl⟩
     · omega
     · exact OwnRow.nil _ _ _ _ _
     · exact Chg.refl _ _) ⟨rfl,rfl,rfl,trivial⟩ ?_
 rintro _ wr _ ⟨k,A2,c2,rfl,hk,ho,hE,rfl⟩ KL1 hKL1
 have hmx:=h.mx
 refine go ?_
 refine Ln_ underlying173 rfl ?_
 refine Ls_ rfl rfl (go ?_)
 refine Cd (fun hlt=> ?_) fun hlt=> ?_
 refine go ?_
 refine wl_idx (r:=sliceR byteR) (by decide) sl173 rfl rfl (h.ext hE) k rfl (by omega) ?_
 rintro a cs hb1 _ hat ⟨Ak,ck,rfl,hgk⟩
 refine Ld_ sc36 rfl hat.head ?_
 have hsucc:(ls.take (k+1)).flatten=(ls.take k).flatten++ls[k]:=by rw [←List.take_append_getElem (by omega:k<ls.length),List.flatten_append];simp only [List.flatten_cons,List.flatten_nil,List.append_nil]
 have hlen:(ls.take (k+1)).flatten.length≤ls.flatten.length:=by
   have e:ls.flatten=(ls.take (k+1)).flatten++(ls.drop (k+1)).flatten:=by rw [←List.flatten_append,List.take_append_drop]
   rw [e,List.length_append];omega
 rw [hsucc,List.length_append] at hlen
 refine wl_appendB (by decide) sl36 rfl rfl ho hgk (by omega) hE.size ?_
 rintro A3 c3 w3 ho3 ch3 _
 refine go ?_
 refine wl_add (by decide) rfl rfl (w64 (by omega) (by omega)) (gl ?_)
 refine wk_drop [(3, .slice A3 (ls.take (k+1)).flatten.length c3),(0, .slice A ls.length c),(4,iv ((k+1):Int))] ⟨(by rw [hsucc];rfl),rfl,rfl,trivial⟩ (hKL1 _ _ (m2:=ls.length-(k+1)) ?_ ?_)
 refine ⟨(k+1),A3,c3,rfl, ?_, ?_, ?_,rfl⟩
 omega
 rw [hsucc];exact ho3
 exact hE.own ch3 (Nat.le_refl _)
 omega
 have hkl:k=ls.length:=by omega
 refine go ?_
 refine P1 results137 ?_
 subst hkl
 rw [List.take_length] at ho⊢
 exact ⟨_,rfl,A2,c2,rfl,ho,hE⟩
set_option maxHeartbeats 4000000 in
theorem n_isClient {n:Int} {w:World}:Ret Tryz.prog 197 #[.int .i64 n] w (fun v w'=>v= .bool (decide (31≤n∧n≤34))∧w'=w):=by
 refine ret_of_wk Tryz.func197 rfl Tryz.ntmps197 (Nat.le_of_ble_eq_true rfl) ?_
 refine wc_seq ?_
 refine wc_region ?_
 refine wl_assign (by decide) rfl ?_
 refine wl_nil ?_
 refine wk_norm ?_
 refine wc_seq ?_
 refine wc_region ?_
 refine wl_move (by decide) rfl ?_
 refine wl_call (by decide) Tryz.cl127 rfl (n_within) ?_
 rintro _ _ ⟨rfl,rfl⟩
 refine wl_assign (by decide) rfl ?_
 refine wl_nil ?_
 refine wk_norm ?_
 refine wc_ret ?_
 refine wk_post1 (.inl rfl) Tryz.results197 rfl ?_
 exact ⟨_,rfl,congrArg Value.bool (decide_eq_decide.2 (by omega)),rfl⟩
set_option maxHeartbeats 4000000 in
theorem n_isSeq {n:Int} {w:World}:Ret Tryz.prog 200 #[.int .i64 n] w (fun v w'=>v= .bool (decide (isSeq n))∧w'=w):=by
 refine ret_of_wk Tryz.func200 rfl Tryz.ntmps200 (Nat.le_of_ble_eq_true rfl) ?_
 refine wc_seq ?_
 refine wc_region ?_
 refine wl_assign (by decide) rfl ?_
 refine wl_nil ?_
 refine wk_norm ?_
 refine wc_seq ?_
 refine wc_region ?_
 refine wl_move (by decide) rfl ?_
 refine wl_call (by decide) Tryz.cl127 rfl (n_within) ?_
 rintro _ _ ⟨rfl,rfl⟩
 refine wl_assign (by decide) rfl ?_
 refine wl_nil ?_
 refine wk_norm ?_
 refine wc_ret ?_
 refine wk_post1 (.inl rfl) Tryz.results200 rfl ?_
 exact ⟨_,rfl,congrArg Value.bool (decide_eq_decide.2 (by unfold isSeq;omega)),rfl⟩
theorem plain8_iff {a b:Wsh}:plain8 a=plain8 b↔a.client=b.client∧a.stamp=b.stamp∧a.group=b.group∧a.epoch=b.epoch∧a.kind=b.kind∧a.block=b.block∧a.old=b.old∧a.new=b.new:=by simp [plain8]
def WQ (w:Wsh):Prop:=0≤w.epoch∧w.epoch≤1048576∧w=ownW w∧(w.kind=5∨(31≤w.client∧w.client≤34∧1≤w.stamp∧w.stamp≤9007199254740991))
instance (l:List Int):Decidable (RiseI l):=by unfold RiseI;infer_instance
theorem t0_cmpI_ok {p:Prop} (h:p:=by unfold cmpI;repeat (first|omega|split)):p:=h
set_option maxHeartbeats 40000000 in
theorem cmpI_ok {x:Int} {y:Int}:Ret prog 186 #[.int .i64 x, .int .i64 y] w (fun v w'=>v= .int .i64 (cmpI x y)∧w'=w):=by
 refine ret_of_wk func186 rfl ntmps186 leB_ ?_
 refine so ?_
 refine Cs (isNaN_ok) ?_
 refine so ?_
 refine Cs (isNaN_ok) ?_
 refine so ?_
 refine Cd ?_ ?_<;>intro hna
 exact hna.elim
 refine so ?_
 refine Cd ?_ ?_<;>intro hnb
 exact hnb.elim
 refine so ?_
 refine Cd ?_ ?_<;>intro hc3<;>refine so ?_
 ·refine Pt ?_
  exact ⟨_,rfl,by exact congrArg (Value.int .i64) t0_cmpI_ok,rfl⟩
 refine Cd ?_ ?_<;>intro hc4<;>refine so ?_
 ·refine Pt ?_
  exact ⟨_,rfl,by exact congrArg (Value.int .i64) t0_cmpI_ok,rfl⟩
 refine Pt ?_
 exact ⟨_,rfl,by exact congrArg (Value.int .i64) t0_cmpI_ok,rfl⟩
def ordS (a b:Stn):Int:=orI [cmpI a.seq b.seq,cmpI a.view b.view,Lib.compareBytes a.dig.l b.dig.l]
def SeenF (f:Value→Option Value) (l:List Stn):Prop:= ∀s g,f (keyM s g)=if cntM l s g=0 then none else some (.int .i64 (cntM l s g:Nat))
theorem CntF.step {f:Value→Option Value} {l:List Stn} (h:CntF f l) (x:Stn):CntF (updF f (.int .i64 x.seq) (.int .i64 ((cntQ l x.seq:Nat)+1))) (l++ [x]):=by
 intro s
 rw [cntQ_snoc]
 by_cases e:x.seq=s
 ·subst e;rw [updF_same];simp
 ·rw [updF_other f (fun he=>e (by injection he with _ he;exact he.symm)),if_neg e,Nat.add_zero];exact h s
theorem cmpI_lt (x y:Int):(cmpI x y<0↔x<y)∧(cmpI x y=0↔x=y):=by unfold cmpI;constructor<;>(split<;>(try split)<;>omega)
theorem mseq_len {cg:Chn} {k:Nat} (h:k≤cg.marks.length):(mseq cg k).length=k:=by unfold mseq;rw [List.length_map,List.length_take];omega
theorem mnode_succ {n:Nte} {k:Nat} (h:k<n.changes.length):mnode n (k+1)=mnode n k++ [(n.changes.getD k change0).node]:=by unfold mnode;rw [take_snoc change0 h,List.map_append];rfl
theorem mnode_get {n:Nte} {k i:Nat} (h:i<k):(mnode n k).getD i 0=(n.changes.getD i change0).node:=by
 unfold mnode
 simp only [List.getD_eq_getElem?_getD,List.getElem?_map,List.getElem?_take,h,if_true]
 cases n.changes[i]? <;>rfl
theorem flat_takeD {α:Type} (E:α→List UInt8) (l:List α) (k:Nat) (z:α) (hk:k<l.length):flatE E (l.take (k+1))=flatE E (l.take k)++E (l.getD k z):=by
 rw [flat_take E l k hk,List.getD_eq_getElem?_getD,List.getElem?_eq_getElem hk];rfl
theorem head_flat (x:Wsh):([numE x.kind,numE x.client,numE x.stamp,numE x.group,numE x.epoch,numE x.block]:List (List UInt8)).flatten=headE x:=by simp [headE]
end Go.Proofs.YtmbpneaibmldfaaGreat
namespace Go.Proofs.YtmbpneaibmldfaaGreat
open Go.RowKit Go.Eng _root_.Go.Proofs.Tryz Go.Eng _root_.Go.Proofs.Tryz
set_option maxRecDepth 100000
variable {w0 w:World} {M0 Fz:Nat→Prop} {H:List It} {A:Option Addr} {c:Nat}
def FnW {α:Type} (FV:Value) (go:Nat) (w0:World) (M0 Fz:Nat→Prop) (w:World) (r:Rep α) (f:WS→α→WS) (k:Nat):Prop:=
 ∀ (w1 : World) (H1 : List It) (A : Option Addr) (c : Nat) (o1 : List UInt8) (b1 : Bool) (cs : List Value) (x : α), Frz Fz Fz w w1 → HP w0 M0 Fz w1 (itB go 72 [.slice A o1.length c, .bool b1] :: itR 5 1 A o1.length c (o1.map bv) :: H1) → r.rd Fz w1 cs x → o1.length + k ≤ 1099511627776 →
  RetV prog FV [.agg cs.toArray] w1 (WoP go w0 M0 Fz w1 H1 (f (o1,b1) x))
theorem WoP.less {F2:Nat→Prop} {go:Nat} {w0 w w2:World} {M0 Fz:Nat→Prop} {H:List It} {s:WS} {v:Value} {A':Option Addr} {c':Nat} (hp:HP w0 M0 F2 w2 (itB go 72 [.slice A' s.1.length c', .bool s.2]::itR 5 1 A' s.1.length c' (s.1.map bv)::H)) (hF:Frz Fz F2 w w2:=by exact mv):WoP go w0 M0 Fz w H s v w2:=⟨A',c',hp.less hF.sub,hF.chg,fun _ h=>h⟩
end Go.Proofs.YtmbpneaibmldfaaGreat
namespace Go.Proofs.YtmbpneaibmldfaaGreat
open Go.RowKit Go.Eng Go.Eng _root_.Go.Proofs.Tryz
set_option maxRecDepth 100000
variable {w0 w:World} {M0 Fz:Nat→Prop} {H:List It} {A:Option Addr} {c:Nat}
theorem parse_some {l lR:List UInt8} {eR e2:Int} {x:Wsh} (h:StepP wishP (some l) (rst (decide (eR≠0)) lR) x) (hen:e2=if eR=0∧0<lR.length then 4 else eR) (h2:e2=0):parseS l=if WishMay x then some x else none:=by
 have h0:=(end_E hen).1 h2
 rw [h0] at h
 have h1:wishP l=some (x, []):=h
 unfold parseS
 rw [h1]
 by_cases hm:WishMay x<;>simp [hm]
def UnbR (l:List UInt8) (x:List Wsh) (e:Int):Prop:=(e=0∧unbS l=some x)∨(e≠0∧unbS l=none∧x= [])
theorem unb_some {l lR:List UInt8} {eR e2:Int} {x:List Wsh} (h:StepP blistP (some l) (rst (decide (eR≠0)) lR) x) (hen:e2=if eR=0∧0<lR.length then 4 else eR) (h2:e2=0):unbS l=some x:=by
 have h0:=(end_E hen).1 h2
 rw [h0] at h
 have h1:blistP l=some (x, []):=h
 unfold unbS
 rw [h1]
 exact if_pos rfl
theorem read_ok {l lR:List UInt8} {b ok:Bool} {x:Nte} (h:StepP noteP (some l) (rst b lR) x) (hb:b=false) (ho:ok=decide ((lR.length:Int)=0)):ReadR l x ok:=by
 subst hb ho
 have h1:noteP l=some (x,lR):=h
 refine ⟨fun hh=> ?_,fun hh y=> ?_⟩
 ·have h2 := of_decide_eq_true hh
  rw [h1,List.eq_nil_of_length_eq_zero (show lR.length=0 by omega)]
 ·have h2 := of_decide_eq_false hh
  rw [h1]
  intro h3
  simp only [Option.some.injEq,Prod.mk.injEq] at h3
  rw [h3.2] at h2
  exact h2 rfl
end Go.Proofs.YtmbpneaibmldfaaGreat
namespace Go.Proofs.YtmbpneaibmldfaaGreat
open Go.RowKit Go.Eng _root_.Go.Proofs.Tryz Go.Eng _root_.Go.Proofs.Tryz
set_option maxRecDepth 100000
variable {w0 w:World} {M0 Fz:Nat→Prop} {H:List It} {A:Option Addr} {c:Nat}
theorem TnP.ext {gt:Nat} {w0 w w2 w3:World} {M0 Fz:Nat→Prop} {H:List It} {most:Int} {bad:Bool} {l:List UInt8} {v:Value} (h:TnP gt w0 M0 Fz w H most bad l v w2) (hE:Ext w2 w3):TnP gt w0 M0 Fz w H most bad l v w3:=by
 obtain ⟨F2,A',c',l',bad',n,rfl,hp,hF,hg,hn,hs⟩:=h
 exact ⟨F2,A',c',l',bad',n,rfl,hp.ext hE,hF.ext hE,hg.ext hE,hn,hs⟩
theorem tl_end {α:Type} {gt:Nat} {w0 w w2:World} {M0 Fz F2:Nat→Prop} {H:List It} {r:Rep α} {p:PR α} {most:Int} {bad b2:Bool} {l l2:List UInt8} {A2 A3:Option Addr} {c2 c3 e:Nat} {rows:List (List Value)} {xs:List α} (hp:HP w0 M0 F2 w2 (itB gt 94 [.slice A2 l2.length c2, .bool b2]::itR e r.size A3 xs.length c3 rows.flatten::H)) (hR:RF r F2 w2 rows xs) (hg:GS byteR F2 w2 A2 c2 l2) (hF:Frz Fz F2 w w2) (hs:StepP (listP p most) (rst bad l) (rst b2 l2) xs):TlP gt w0 M0 Fz w H r p most bad l (.slice A3 xs.length c3) w2:=
 ⟨_,A2,c2,l2,b2,A3,c3,xs,rfl,hp.swp.frzRowN,hF.wid (fun _b h=> .inl h),hg.wid (fun _b h=> .inl h),OwnRow.gsRF (r:=r) (hp.rowAt (i:=1) rfl) (hR.wid (fun _b h=> .inl h)) (fun _b hc hb=> .inr ⟨hc,hb⟩),hs⟩
theorem parse_is {l:List UInt8} {r:Rpl} (h:rplP l=some (r, [])):Go.Eng.parseS l=if (bytesS r).2=0 then (r,0) else (rpl0,4):=by
 unfold Go.Eng.parseS bytesS
 rw [h]
 simp only
 by_cases hm:RplMay r
 ·rw [if_pos hm,if_pos hm,if_pos rfl]
 ·rw [if_neg hm, if_neg hm]
  rfl
def im0C:List Value:=imC 0 false 0 dig0 s0 s0 s0 (iv 0) s0 (.bool false) s0
def sta5 (D:Dig):List Stn:= [⟨5,D,2⟩,⟨6,dgi 1,1⟩]
theorem may_small:RplMay small0:=by decide
theorem no_small: ∀y∈small0.nodes,i64 y:=by show ∀y∈([5]:List Int),i64 y;unfold i64;decide
end Go.Proofs.YtmbpneaibmldfaaGreat
