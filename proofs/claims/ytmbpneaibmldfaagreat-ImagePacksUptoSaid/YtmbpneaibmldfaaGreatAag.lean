/- What each of these functions computes, for every argument that its theorem names; a part of what the proof of ImageOnce stands on. -/
import Derived.Test.YtmbpneaibmldfaaGreatAac
import Derived.Test.YtmbpneaibmldfaaGreatAad
namespace Go.Proofs.YtmbpneaibmldfaaGreat
open Go.RowKit Go.Eng Go.Eng _root_.Go.Proofs.Tryz
set_option maxRecDepth 100000
variable {w0 w:World} {M0 Fz:Nat→Prop} {H:List It} {A:Option Addr} {c:Nat}
theorem WshI0:WshI wish0:=by unfold WshI i64;decide
def wishR:Rep Wsh where
 size:=10
 rd:=fun S w cs x=>WshI x∧∃A0 c0 A1 c1,cs= [.int .i64 x.client, .int .i64 x.stamp, .int .i64 x.group, .int .i64 x.epoch, .int .i64 x.kind, .int .i64 x.block, .slice A0 x.data.length c0, .int .i64 x.old, .int .i64 x.new, .slice A1 x.next.length c1]∧GS byteR S w A0 c0 x.data∧GS intR S w A1 c1 x.next
 len:=by rintro _ _ _ _ ⟨hI,A0,c0,A1,c1,rfl,k0,k1⟩;rfl
 one:=by rintro _ _ _ _ ⟨hI,A0,c0,A1,c1,rfl,k0,k1⟩;exact List.all_eq_true.1 rfl
 keep:=by rintro _ _ _ _ _ _ ch hm ⟨hI,A0,c0,A1,c1,rfl,k0,k1⟩;exact ⟨hI,_,_,_,_,rfl,k0.keep ch hm,k1.keep ch hm⟩
 mono:=by rintro _ _ _ _ _ hs ⟨hI,A0,c0,A1,c1,rfl,k0,k1⟩;exact ⟨hI,_,_,_,_,rfl,k0.mono hs,k1.mono hs⟩
def standR:Rep Stn where
 size:=34
 rd:=fun S w cs x=>StnI x∧cs= [.int .i64 x.seq]++(digC x.dig++([.int .i64 x.view]))
 len:=by rintro _ _ _ _ ⟨hI,rfl⟩;rfl
 one:=by rintro _ _ _ _ ⟨hI,rfl⟩;exact List.all_eq_true.1 rfl
 keep:=by rintro _ _ _ _ _ _ ch hm ⟨hI,rfl⟩;exact ⟨hI,rfl⟩
 mono:=by rintro _ _ _ _ _ hs ⟨hI,rfl⟩;exact ⟨hI,rfl⟩
def ansR:Rep Ans where
 size:=4
 rd:=fun S w cs x=>AnsI x∧∃A0 c0 A1 c1,cs= [.int .i64 x.err, .slice A0 x.data.length c0, .int .i64 x.epoch, .slice A1 x.nodes.length c1]∧GS byteR S w A0 c0 x.data∧GS intR S w A1 c1 x.nodes
 len:=by rintro _ _ _ _ ⟨hI,A0,c0,A1,c1,rfl,k0,k1⟩;rfl
 one:=by rintro _ _ _ _ ⟨hI,A0,c0,A1,c1,rfl,k0,k1⟩;exact List.all_eq_true.1 rfl
 keep:=by rintro _ _ _ _ _ _ ch hm ⟨hI,A0,c0,A1,c1,rfl,k0,k1⟩;exact ⟨hI,_,_,_,_,rfl,k0.keep ch hm,k1.keep ch hm⟩
 mono:=by rintro _ _ _ _ _ hs ⟨hI,A0,c0,A1,c1,rfl,k0,k1⟩;exact ⟨hI,_,_,_,_,rfl,k0.mono hs,k1.mono hs⟩
theorem NteI.change {n:Nte} (h:NteI n):ChnI n.change:=by unfold NteI i64 at h;unfold ChnI i64;omega
def crewR:Rep Crw where
 size:=2
 rd:=fun S w cs x=>CrwI x∧∃A0 c0,cs= [.int .i64 x.faults, .slice A0 x.nodes.length c0]∧GS intR S w A0 c0 x.nodes
 len:=by rintro _ _ _ _ ⟨hI,A0,c0,rfl,k0⟩;rfl
 one:=by rintro _ _ _ _ ⟨hI,A0,c0,rfl,k0⟩;exact List.all_eq_true.1 rfl
 keep:=by rintro _ _ _ _ _ _ ch hm ⟨hI,A0,c0,rfl,k0⟩;exact ⟨hI,_,_,rfl,k0.keep ch hm⟩
 mono:=by rintro _ _ _ _ _ hs ⟨hI,A0,c0,rfl,k0⟩;exact ⟨hI,_,_,rfl,k0.mono hs⟩
end Go.Proofs.YtmbpneaibmldfaaGreat
namespace Go.Proofs.YtmbpneaibmldfaaGreat
open Go.RowKit Go.Eng _root_.Go.Proofs.Tryz Go.Eng _root_.Go.Proofs.Tryz
set_option maxRecDepth 100000
variable {w0 w:World} {M0 Fz:Nat→Prop} {H:List It} {A:Option Addr} {c:Nat}
theorem ror_ok {w:World} {x n:Int} (h:0≤n∧n≤32):Ret prog 215 #[.int .u32 x, .int .i64 n] w (fun v w'=>v= .int .u32 (rorV x n)∧Ext w w'):=by
 refine ret_of_wk func215 rfl ntmps215 leB_ ?_
 refine so ?_
 have h0:0≤32-n:=by omega
 refine wdE 8 (fun wD hED=>by refine pm ?_;exact .op rfl (wl_shr (by decide) rfl rfl h.1 rfl (wl_nil qp)) (by refine pm ?_;exact .op rfl (wl_shl (by decide) rfl rfl h0 rfl (wl_nil qp)) (by refine pm ?_;exact .op rfl (wl_or (by decide) rfl rfl rfl (wl_nil qp)) pl))) fun wD hED=> ?_
 refine so ?_
 refine Pt ?_
 exact ⟨_,rfl,rfl,hED⟩
def sch2 (l:List Int) (k:Nat):Int:=
 wu (wu (wu (l.getD (k-16) 0+bitsV .xor .u32 (bitsV .xor .u32 (rorV (l.getD (k-15) 0) 7) (rorV (l.getD (k-15) 0) 18)) ((l.getD (k-15) 0).fdiv (2^min (3:Int).toNat IntKind.u32.bits)))+l.getD (k-7) 0)+bitsV .xor .u32 (bitsV .xor .u32 (rorV (l.getD (k-2) 0) 17) (rorV (l.getD (k-2) 0) 19)) ((l.getD (k-2) 0).fdiv (2^min (10:Int).toNat IntKind.u32.bits)))
set_option maxHeartbeats 4000000 in
theorem roots_ok {w:World}:Ret prog 213 #[] w (fun v w'=>v= .agg (rootsL.map uv).toArray∧Ext w w'):=by
 refine ret_of_wk func213 rfl ntmps213 leB_ ?_
 have hp:=HP.begin_ w
 refine so ?_
 refine Alo hp (h:=fun g2 w1 hp E1=>so ?_)
 refine wl_builtS (by decide) bld262 rfl rfl ?_
 refine Hs 0 hp (h:=fun w2 hp C2=>so ?_)
 refine wk_postR (rs:= [.cell 0 262]) (.inl rfl) results213 ⟨_,_,_,rfl,rfl,loadVar_agg ag262 (hp.blkAt (i:=0) rfl).at0 rfl,rfl⟩ ?_
 exact ⟨_,rfl,rfl,hp.chg⟩
def rSmall (s:List Int):Int:=
 wu (bitsV .xor .u32 (bitsV .xor .u32 (rorV (s.getD 0 0) 2) (rorV (s.getD 0 0) 13)) (rorV (s.getD 0 0) 22)+bitsV .xor .u32 (bitsV .xor .u32 (bitsV .and .u32 (s.getD 0 0) (s.getD 1 0)) (bitsV .and .u32 (s.getD 0 0) (s.getD 2 0))) (bitsV .and .u32 (s.getD 1 0) (s.getD 2 0)))
theorem rootsL_len:rootsL.length=64:=rfl
theorem fillA_len (p:List UInt8) (m i:Nat):(fillA p m i).length=64:=by
 induction i with
 |zero=>rfl
 |succ i ih=>rw [fillA,List.length_set,ih]
end Go.Proofs.YtmbpneaibmldfaaGreat
namespace Go.Proofs.YtmbpneaibmldfaaGreat
open Go.RowKit Go.Eng Go.Eng _root_.Go.Proofs.Tryz
set_option maxRecDepth 100000
variable {w0 w:World} {M0 Fz:Nat→Prop} {H:List It} {A:Option Addr} {c:Nat}
theorem join_ok {ls:List (List UInt8)} {Sa:Nat→Prop} (h:GS (sliceR byteR) Sa w A c ls) (hb:ls.flatten.length≤140737488355328):Ret prog 134 #[.slice A ls.length c] w (fun v w'=> ∃A' c',v= .slice A' ls.flatten.length c'∧OwnB 5 w.heap.size w' A' c' ls.flatten∧Ext w w'):=by
 refine ret_of_wk func134 rfl ntmps134 leB_ ?_
 refine so ?_
 refine Lp [3,6,7,8] (fun L' w' mes=> ∃(k:Nat),∃(A2:Option Addr),∃(c2:Nat),L'= [(3, .slice A2 (ls.take k).flatten.length c2),(6, .slice A ls.length c),(7,iv (ls.length:Int)),(8,iv (k:Int))]∧(k≤ls.length)∧(OwnB 5 w.heap.size w' A2 c2 (ls.take k).flatten)∧(Ext w w')∧ls.length-k=mes) (ls.length-0) ⟨0,_,_,rfl,by omega,OwnRow.nil _ _ _ _ _,Chg.refl _ _,rfl⟩ ?_
 rintro _ wr _ ⟨k,A2,c2,rfl,hk,ho,hE,rfl⟩ KL1 hKL1
 have hmx:=h.mx
 refine so ?_
 refine Cd ?_ ?_<;>intro hlt
 refine so ?_
 refine wl_idx (r:=sliceR byteR) (by decide) sl173 rfl rfl (h.ext hE) k rfl (by omega) ?_
 rintro a cs hb1 _ hat ⟨Ak,ck,rfl,hgk⟩
 refine Ld_ sc36 rfl hat.head (so ?_)
 have hsucc:(ls.take (k+1)).flatten=(ls.take k).flatten++ls[k]:=by rw [←List.take_append_getElem (by omega:k<ls.length),List.flatten_append];simp only [List.flatten_cons,List.flatten_nil,List.append_nil]
 have hlen:(ls.take (k+1)).flatten.length≤ls.flatten.length:=by
   have e:ls.flatten=(ls.take (k+1)).flatten++(ls.drop (k+1)).flatten:=by rw [←List.flatten_append,List.take_append_drop]
   rw [e,List.length_append];omega
 rw [hsucc,List.length_append] at hlen
 refine wl_appendB (by decide) sl36 rfl rfl ho hgk (by omega) hE.size ?_
 rintro A3 c3 w3 ho3 ch3 _
 refine sl ?_
 refine wc_region ?_
 refine sl ?_
 refine wk_drop [(3, .slice A3 (ls.take (k+1)).flatten.length c3),(6, .slice A ls.length c),(7,iv (ls.length:Int)),(8,iv ((k+1):Int))] ⟨(by rw [hsucc];rfl),rfl,rfl,rfl,trivial⟩ (hKL1 _ _ (m2:=ls.length-(k+1)) ?_ ?_)
 refine ⟨(k+1),A3,c3,rfl,by omega, ?_,hE.own ch3 (Nat.le_refl _),rfl⟩
 rw [hsucc];exact ho3
 omega
 have hkl:k=ls.length:=by omega
 refine so ?_
 refine Pt ?_
 subst hkl
 rw [List.take_length] at ho⊢
 exact ⟨_,rfl,A2,c2,rfl,ho,hE⟩
theorem takeNum_ok {b:List UInt8} {Sa:Nat→Prop} (h:BS Sa w A c b):Ret prog 98 #[.slice A b.length c] w (fun v w'=> ∃A' c',v= .tuple #[.int .i64 (takeS b).1, .slice A' (takeS b).2.1.length c', .int .i64 (takeS b).2.2]∧OwnB 5 w.heap.size w' A' c' (takeS b).2.1∧Ext w w'):=by
 refine ret_of_wk func98 rfl ntmps98 leB_ ?_
 refine go ?_
 refine Ln_ underlying36 rfl ?_
 refine Eq_ rfl rfl (go ?_)
 refine Cd (fun h0=> ?_) fun h0=> ?_
 have hb0:b= []:=List.eq_nil_of_length_eq_zero (by omega)
 subst hb0
 refine go ?_
 refine wk_post3 (.inl rfl) results98 rfl rfl rfl ?_
 exact ⟨_,rfl,none,0,by rw [show takeS []=(0, [],3) from rfl];try rfl,by rw [show takeS []=(0, [],3) from rfl];exact OwnRow.nil _ _ _ _ _,Chg.refl _ _⟩
 obtain ⟨x,t,rfl⟩:=List.exists_cons_of_ne_nil (show b≠ [] by rintro rfl;simp at h0)
 have hx:x.toNat<256:=x.toNat_lt
 refine go ?_
 refine wc_drawL [SP.eq (.slice A (x::t).length c),SP.ptr (fun _=>True) [bv x],SP.eq (bv x),SP.eq (iv (x.toNat:Int)),SP.eq (.slice A (x::t).length c),SP.gs byteR Sa t,SP.eq (iv (x.toNat:Int)),SP.gs byteR Sa t] (by kernel_rfl) (by kernel_rfl) ⟨?_, ?_, ?_, ?_, ?_, ?_, ?_, ?_,trivial⟩ ?_
 intro F wF hER hk
 have e0:=hk.init 0 _ rfl (by kernel_rfl)
 refine Mv_ e0 ?_
 exact qz ⟨Chg.refl _ _,rfl⟩
 intro F wF hER hk
 obtain ⟨u11,e11,h11⟩:=hk.pred 0 (by kernel_rfl) 11 rfl
 obtain rfl:=h11
 refine wl_idx (r:=byteR) (by decide) sl36 e11 rfl (h.ext hER) 0 rfl (by simp) ?_
 rintro a cs hb1 _ hat rfl
 exact qz ⟨Chg.refl _ _,a,rfl,hb1,trivial,hat⟩
 intro F wF hER hk
 obtain ⟨u12,e12,h12⟩:=hk.pred 1 (by kernel_rfl) 12 rfl
 obtain ⟨a12,rfl,_,_,hat12⟩:=h12
 refine Ld_ sc5 e12 hat12.head ?_
 exact qz ⟨Chg.refl _ _,rfl⟩
 intro F wF hER hk
 obtain ⟨u13,e13,h13⟩:=hk.pred 2 (by kernel_rfl) 13 rfl
 obtain rfl:=h13
 refine wl_conv (by decide) it5 it3 e13 (w64 (by omega) (by omega)) ?_
 exact qz ⟨Chg.refl _ _,rfl⟩
 intro F wF hER hk
 have e0:=hk.init 0 _ rfl (by kernel_rfl)
 refine Mv_ e0 ?_
 exact qz ⟨Chg.refl _ _,rfl⟩
 intro F wF hER hk
 obtain ⟨u15,e15,h15⟩:=hk.pred 4 (by kernel_rfl) 15 rfl
 obtain rfl:=h15
 refine wl_from (r:=byteR) (by decide) sl36 e15 rfl (h.ext hER) 1 rfl (by simp) ?_
 rintro A1 c1 hg1
 exact qz ⟨Chg.refl _ _,A1,c1,rfl,hg1⟩
 intro F wF hER hk
 obtain ⟨u14,e14,h14⟩:=hk.pred 3 (by kernel_rfl) 14 rfl
 obtain rfl:=h14
 refine wl_assign (by decide) e14 ?_
 exact qz ⟨Chg.refl _ _,rfl⟩
 intro F wF hER hk
 obtain ⟨u16,e16,h16⟩:=hk.pred 5 (by kernel_rfl) 16 rfl
 obtain ⟨A16,c16,rfl,hg16⟩:=h16
 refine wl_assign (by decide) e16 ?_
 exact qz ⟨Chg.refl _ _,A16,c16,rfl,hg16⟩
 intro F w1 hED hini hdo
 have e2:=di hini 2
 obtain ⟨u3,e3,h3⟩:=hdo 7 3 rfl
 obtain ⟨A3,c3,rfl,hg3⟩:=h3
 refine wk_drop [(2,_),(3,_),(5,_)] ⟨e2,e3,dq hdo 6,trivial⟩ ?_
 clear e2 e3 hini hdo
 have hx:=x.toNat_lt
 refine go ?_
 refine Gt_ rfl rfl (go ?_)
 refine Cd (fun h7=> ?_) fun h7=> ?_
 refine go ?_
 refine wk_post3 (.inl rfl) results98 rfl rfl rfl ?_
 have e:takeS (x::t)=(0, [],4):=by simp only [takeS];rw [if_pos (by omega)]
 exact ⟨_,rfl,none,0,by rw [e];try rfl,by rw [e];exact OwnRow.nil _ _ _ _ _,hED⟩
 refine go ?_
 refine Ln_ underlying36 rfl (go ?_)
 refine Ls_ rfl rfl (go ?_)
 refine Cd (fun hlen=> ?_) fun hlen=> ?_
 refine go ?_
 refine wk_post3 (.inl rfl) results98 rfl rfl rfl ?_
 have e:takeS (x::t)=(0, [],3):=by simp only [takeS];rw [if_neg (by omega),if_pos (by omega)]
 exact ⟨_,rfl,none,0,by rw [e];try rfl,by rw [e];exact OwnRow.nil _ _ _ _ _,hED⟩
 refine wc_seq_cut (fun L' w'=> ∃(q:Bool),L'= [(2,iv 0),(3, .slice A3 t.length c3),(5,iv (x.toNat:Int)),(25, .bool q)]∧(w1=w')∧(q=true↔(0<x.toNat∧t.headD 1=0))) (fun K hK=> ?_) ?_
 refine go ?_
 refine Gt_ rfl rfl (go ?_)
 refine Gs 28 (fun hpos=> ?_) fun hpos=> ?_
 have ht0:0<t.length:=by first|omega|(simp only [List.length_cons] at hlen;omega)
 have hhd : t.headD 1 = t[0] := by cases t with
   |nil=>simp at ht0
   |cons y s=>rfl
 refine go ?_
 refine wl_idx (r:=byteR) (by decide) sl36 rfl rfl hg3 0 rfl ht0 ?_
 rintro a4 cs4 hb4 _ hat4 rfl
 refine go ?_
 refine Ld_ sc5 rfl hat4.head (go ?_)
 refine Eq_ rfl rfl (gl ?_)
 refine wk_drop [(2,iv 0),(3, .slice A3 t.length c3),(5,iv (x.toNat:Int)),(25, .bool _)] ⟨rfl,rfl,rfl,rfl,trivial⟩ (hK _ _ ?_)
 refine ⟨_,rfl, ?_, ?_⟩
 rfl
 simp only [decide_eq_true_eq];rw [hhd];exact ⟨fun e=>⟨by omega,UInt8.toNat_inj.1 (show (t[0]).toNat=0 by omega)⟩,fun e=>by rw [e.2];rfl⟩
 refine gl ?_
 refine wk_drop [(2,iv 0),(3, .slice A3 t.length c3),(5,iv (x.toNat:Int)),(25, .bool _)] ⟨rfl,rfl,rfl,rfl,trivial⟩ (hK _ _ ?_)
 refine ⟨_,rfl, ?_, ?_⟩
 rfl
 exact ⟨fun e=>(by cases e),fun e=>(by omega)⟩
 rintro _ w2 ⟨q,rfl,hw,hq⟩
 subst hw
 refine Cd (fun hq2=> ?_) fun hq2=> ?_
 rw [hq] at hq2
 refine go ?_
 refine wk_post3 (.inl rfl) results98 rfl rfl rfl ?_
 have e:takeS (x::t)=(0, [],4):=by simp only [takeS];rw [if_neg (by omega),if_neg (by omega),if_pos hq2]
 exact ⟨_,rfl,none,0,by rw [e];try rfl,by rw [e];exact OwnRow.nil _ _ _ _ _,hED⟩
 have hq3: ¬(0<x.toNat∧t.headD 1=0):=fun e=>by rw [hq.2 e] at hq2;cases hq2
 refine go ?_
 refine wl_to (r:=byteR) (by decide) sl36 rfl rfl hg3 x.toNat rfl (by omega) ?_
 intro hgt
 have htl:(t.take x.toNat).length=x.toNat:=by rw [List.length_take];omega
 have hmt:=hgt.mx
 refine Ln_ underlying36 rfl (go ?_)
 refine wc_loop (fun L' w' mes => ∃ (k : Nat), L' = [(2, iv (valD ((t.take x.toNat).take k) : Int)), (3, .slice A3 t.length c3), (5, iv (x.toNat : Int)), (36, .slice A3 (t.take x.toNat).length c3), (37, iv ((t.take x.toNat).length : Int)), (38, iv (k : Int))] ∧ (k ≤ (t.take x.toNat).length) ∧ (w1 = w') ∧ (t.take x.toNat).length - k = mes) [(2, iv (valD ((t.take x.toNat).take 0) : Int)), (3, .slice A3 t.length c3), (5, iv (x.toNat : Int)), (36, .slice A3 (t.take x.toNat).length c3), (37, iv ((t.take x.toNat).length : Int)), (38, iv (0 : Int))] ((t.take x.toNat).length - 0) (by
     refine ⟨0,rfl, ?_, ?_,rfl⟩
     · omega
     · rfl) ⟨rfl,rfl,rfl,rfl,rfl,rfl,trivial⟩ ?_
 rintro _ wr _ ⟨k,rfl,hk,hw,rfl⟩ KL1 hKL1
 subst hw
 refine go ?_
 refine Ls_ rfl rfl (go ?_)
 refine Cd (fun hlt=> ?_) fun hlt=> ?_
 refine go ?_
 refine wl_idx (r:=byteR) (by decide) sl36 rfl rfl hgt k rfl (by omega) ?_
 rintro a5 cs5 hb5 _ hat5 rfl
 refine Ld_ sc5 rfl hat5.head (go ?_)
 have hvs:=valD_take (t.take x.toNat) k (by omega)
 have hvl:=valD_take_lt (t.take x.toNat) k 6 (by omega)
 have hby:=((t.take x.toNat)[k]'(by omega)).toNat_lt
 refine wl_shl (by decide) rfl rfl (by omega) (shl8 _ (by omega)) ?_
 refine go ?_
 refine wl_conv (by decide) it5 it3 rfl (w64 (by omega) (by omega)) ?_
 refine wl_or (by decide) rfl rfl (or256 _ _ (by omega) (by omega)) ?_
 refine go ?_
 refine wl_add (by decide) rfl rfl (w64 (by omega) (by omega)) (gl ?_)
 refine wk_drop [(2,iv (valD ((t.take x.toNat).take (k+1)):Int)),(3, .slice A3 t.length c3),(5,iv (x.toNat:Int)),(36, .slice A3 (t.take x.toNat).length c3),(37,iv ((t.take x.toNat).length:Int)),(38,iv ((k+1):Int))] ⟨(by rw [hvs];rfl),rfl,rfl,rfl,rfl,rfl,trivial⟩ (hKL1 _ _ (m2:=(t.take x.toNat).length-(k+1)) ?_ ?_)
 refine ⟨(k+1),rfl, ?_, ?_,rfl⟩
 omega
 rfl
 omega
 have hkl:k=(t.take x.toNat).length:=by omega
 subst hkl
 rw [List.take_length]
 refine go ?_
 refine Gt_ rfl rfl (go ?_)
 refine Cd (fun hmax=> ?_) fun hmax=> ?_
 refine go ?_
 refine wk_post3 (.inl rfl) results98 rfl rfl rfl ?_
 have e:takeS (x::t)=(0, [],9):=by simp only [takeS];rw [if_neg (by omega),if_neg (by omega),if_neg hq3,if_pos (by omega)]
 exact ⟨_,rfl,none,0,by rw [e];try rfl,by rw [e];exact OwnRow.nil _ _ _ _ _,hED⟩
 refine go ?_
 refine wl_from (r:=byteR) (by decide) sl36 rfl rfl hg3 x.toNat rfl (by omega) ?_
 rintro A6 c6 hg6
 refine Cl_ cl141 rfl (cloneB_ok hg6) ?_
 rintro _ w7 ⟨A7,c7,rfl,ho7,hE7⟩
 refine go ?_
 refine wk_post3 (.inl rfl) results98 rfl rfl rfl ?_
 have e:takeS (x::t)=((valD (t.take x.toNat):Int),t.drop x.toNat,0):=by simp only [takeS];rw [if_neg (by omega),if_neg (by omega),if_neg hq3,if_neg (by omega)]
 exact ⟨_,rfl,A7,c7,by rw [e],by rw [e];exact ho7.lower hED.size,hED.trans hE7⟩
theorem takeFix_ok {b:List UInt8} {n:Int} {Sa:Nat→Prop} (h:BS Sa w A c b) (h1: -9223372036854775808≤n) (h2:n≤9223372036854775807):Ret prog 146 #[.slice A b.length c, .int .i64 n] w (fun v w'=> ∃A1 c1 A2 c2,v= .tuple #[.slice A1 (fixS b n).1.length c1, .slice A2 (fixS b n).2.1.length c2, .int .i64 (fixS b n).2.2]∧OwnB 5 w.heap.size w' A1 c1 (fixS b n).1∧OwnB 5 w.heap.size w' A2 c2 (fixS b n).2.1∧Ext w w'):=by
 refine ret_of_wk func146 rfl ntmps146 leB_ ?_
 refine so ?_
 refine Cd ?_ ?_<;>intro h0<;>refine so ?_
 refine wk_post3 (.inl rfl) results146 rfl rfl rfl ?_
 have e:fixS b n=([], [],2):=by simp only [fixS];rw [if_pos (by omega)]
 exact ⟨_,rfl,none,0,none,0,by rw [e];try rfl,by rw [e];exact OwnRow.nil _ _ _ _ _,by rw [e];exact OwnRow.nil _ _ _ _ _,Chg.refl _ _⟩
 refine Cd ?_ ?_<;>intro hl<;>refine so ?_
 refine wk_post3 (.inl rfl) results146 rfl rfl rfl ?_
 have e:fixS b n=([], [],3):=by simp only [fixS];rw [if_neg (by omega),if_pos (by omega)]
 exact ⟨_,rfl,none,0,none,0,by rw [e];try rfl,by rw [e];exact OwnRow.nil _ _ _ _ _,by rw [e];exact OwnRow.nil _ _ _ _ _,Chg.refl _ _⟩
 refine wc_drawL [SP.eq (.slice A b.length c),SP.eq (iv n),SP.gs byteR Sa (b.take n.toNat),SP.own 5 1 w.heap.size (b.take n.toNat).length ((b.take n.toNat).map bv),SP.eq (.slice A b.length c),SP.eq (iv n),SP.gs byteR Sa (b.drop n.toNat),SP.own 5 1 w.heap.size (b.drop n.toNat).length ((b.drop n.toNat).map bv),SP.own 5 1 w.heap.size (b.take n.toNat).length ((b.take n.toNat).map bv),SP.own 5 1 w.heap.size (b.drop n.toNat).length ((b.drop n.toNat).map bv),SP.eq (iv 0)] (by kernel_rfl) (by kernel_rfl) ⟨?_, ?_, ?_, ?_, ?_, ?_, ?_, ?_, ?_, ?_, ?_,trivial⟩ ?_
 intro F wF hER hk
 have e0:=hk.init 0 _ rfl (by kernel_rfl)
 refine Mv_ e0 ?_
 exact qz ⟨Chg.refl _ _,rfl⟩
 intro F wF hER hk
 have e1:=hk.init 1 _ rfl (by kernel_rfl)
 refine Mv_ e1 ?_
 exact qz ⟨Chg.refl _ _,rfl⟩
 intro F wF hER hk
 obtain ⟨u15,e15,h15⟩:=hk.pred 0 (by kernel_rfl) 15 rfl
 obtain rfl:=h15
 obtain ⟨u16,e16,h16⟩:=hk.pred 1 (by kernel_rfl) 16 rfl
 obtain rfl:=h16
 refine wl_to (r:=byteR) (by decide) sl36 e15 e16 (h.ext hER) n.toNat (by omega) (by omega) ?_
 intro hg1
 exact qz ⟨Chg.refl _ _,A,c,rfl,hg1⟩
 intro F wF hER hk
 obtain ⟨u17,e17,h17⟩:=hk.pred 2 (by kernel_rfl) 17 rfl
 obtain ⟨A15,c15,rfl,hg15⟩:=h17
 refine Cl_ cl141 (by simp only [evs,ev,e17]) (cloneB_ok hg15) ?_
 rintro _ w7 ⟨A7,c7,rfl,ho7,hE7⟩
 exact qz ⟨hE7,A7,c7,rfl,ho7.lower hER.size⟩
 intro F wF hER hk
 have e0:=hk.init 0 _ rfl (by kernel_rfl)
 refine Mv_ e0 ?_
 exact qz ⟨Chg.refl _ _,rfl⟩
 intro F wF hER hk
 have e1:=hk.init 1 _ rfl (by kernel_rfl)
 refine Mv_ e1 ?_
 exact qz ⟨Chg.refl _ _,rfl⟩
 intro F wF hER hk
 obtain ⟨u19,e19,h19⟩:=hk.pred 4 (by kernel_rfl) 19 rfl
 obtain rfl:=h19
 obtain ⟨u20,e20,h20⟩:=hk.pred 5 (by kernel_rfl) 20 rfl
 obtain rfl:=h20
 refine wl_from (r:=byteR) (by decide) sl36 e19 e20 (h.ext hER) n.toNat (by omega) (by omega) ?_
 rintro A1 c1 hg1
 exact qz ⟨Chg.refl _ _,A1,c1,rfl,hg1⟩
 intro F wF hER hk
 obtain ⟨u21,e21,h21⟩:=hk.pred 6 (by kernel_rfl) 21 rfl
 obtain ⟨A19,c19,rfl,hg19⟩:=h21
 refine Cl_ cl141 (by simp only [evs,ev,e21]) (cloneB_ok hg19) ?_
 rintro _ w7 ⟨A7,c7,rfl,ho7,hE7⟩
 exact qz ⟨hE7,A7,c7,rfl,ho7.lower hER.size⟩
 intro F wF hER hk
 obtain ⟨u18,e18,h18⟩:=hk.pred 3 (by kernel_rfl) 18 rfl
 obtain ⟨A16,c16,rfl,ho16⟩:=h18
 refine wl_assign (by decide) e18 ?_
 exact qz ⟨Chg.refl _ _,A16,c16,rfl,ho16⟩
 intro F wF hER hk
 obtain ⟨u22,e22,h22⟩:=hk.pred 7 (by kernel_rfl) 22 rfl
 obtain ⟨A20,c20,rfl,ho20⟩:=h22
 refine wl_assign (by decide) e22 ?_
 exact qz ⟨Chg.refl _ _,A20,c20,rfl,ho20⟩
 intro F wF hER hk
 refine so ?_
 exact qr_some ⟨Chg.refl _ _,rfl⟩
 intro F wD hED hini hdo
 obtain ⟨u4,e4,h4⟩:=hdo 8 4 rfl
 obtain ⟨A4,c4,rfl,ho4⟩:=h4
 obtain ⟨u5,e5,h5⟩:=hdo 9 5 rfl
 obtain ⟨A5,c5,rfl,ho5⟩:=h5
 refine wk_drop [(4,_),(5,_),(6,_)] ⟨e4,e5,dq hdo 10,trivial⟩ ?_
 clear e4 e5 hini hdo
 refine so ?_
 refine wk_post3 (.inl rfl) results146 rfl rfl rfl ?_
 have e:fixS b n=(b.take n.toNat,b.drop n.toNat,0):=by simp only [fixS];rw [if_neg (by omega),if_neg (by omega)]
 exact ⟨_,rfl,A4,c4,A5,c5,by rw [e],by rw [e];exact ho4,by rw [e];exact ho5,hED⟩
set_option maxHeartbeats 4000000 in
theorem n_isNode {n:Int} {w:World}:Ret Tryz.prog 126 #[.int .i64 n] w (fun v w'=>v= .bool (decide (1≤n∧n≤28))∧w'=w):=by
 refine ret_of_wk Tryz.func126 rfl Tryz.ntmps126 (Nat.le_of_ble_eq_true rfl) ?_
 refine wc_seq ?_
 refine wc_region ?_
 refine wl_assign (by decide) rfl ?_
 refine wl_nil ?_
 refine wk_norm ?_
 refine wc_seq ?_
 refine wc_region ?_
 refine wl_move (by decide) rfl ?_
 refine wl_call (by decide) Tryz.cl127 rfl (n_within) ?_
 rintro _ _ ⟨rfl,rfl⟩
 refine wl_assign (by decide) rfl ?_
 refine wl_nil ?_
 refine wk_norm ?_
 refine wc_ret ?_
 refine wk_post1 (.inl rfl) Tryz.results126 rfl ?_
 exact ⟨_,rfl,congrArg Value.bool (decide_eq_decide.2 (by omega)),rfl⟩
set_option maxHeartbeats 4000000 in
theorem n_isView {n:Int} {w:World}:Ret Tryz.prog 199 #[.int .i64 n] w (fun v w'=>v= .bool (decide (isView n))∧w'=w):=by
 refine ret_of_wk Tryz.func199 rfl Tryz.ntmps199 (Nat.le_of_ble_eq_true rfl) ?_
 refine wc_seq ?_
 refine wc_region ?_
 refine wl_assign (by decide) rfl ?_
 refine wl_nil ?_
 refine wk_norm ?_
 refine wc_seq ?_
 refine wc_region ?_
 refine wl_move (by decide) rfl ?_
 refine wl_call (by decide) Tryz.cl127 rfl (n_within) ?_
 rintro _ _ ⟨rfl,rfl⟩
 refine wl_assign (by decide) rfl ?_
 refine wl_nil ?_
 refine wk_norm ?_
 refine wc_ret ?_
 refine wk_post1 (.inl rfl) Tryz.results199 rfl ?_
 exact ⟨_,rfl,congrArg Value.bool (decide_eq_decide.2 (by unfold isView;omega)),rfl⟩
theorem plain8_inj {a b:Wsh}:plain8 a=plain8 b↔P8C a=P8C b:=by simp [plain8,P8C]
theorem ownW_iff {w:Wsh}:w=ownW w↔(w.kind=5∧w.client=0∧w.stamp=0∧w.block=0∧w.data.length=0∧w.old=0∧w.new=0)∨(w.kind≠5∧(w.kind=2∨w.data.length=0)∧(w.kind=4∨(w.old=0∧w.new=0))∧w.next.length=0):=by
 unfold ownW
 by_cases h:w.kind=5
 ·rw [if_pos h, Wsh_eq]
  simp [wish0,h]
 ·rw [if_neg h, Wsh_eq]
  by_cases h2:w.kind=2<;>by_cases h4:w.kind=4<;>simp [wish0,h,h2,h4,and_assoc]
set_option maxHeartbeats 4000000 in
theorem fICon_ok {Al:Option Addr} {cl:Nat} {l:List Int} {Sl:Nat→Prop} {fid:Nat} {first cap:List Value} {p0:Int→Prop} [DecidablePred p0] {w:World} (hl:GS intR Sl w Al cl l) (hcl0:callable Tryz.prog fid=true) (hf: ∀w1 x,Ext w w1→Ret Tryz.prog fid (first++ [Value.int .i64 x]++cap).toArray w1 fun v w2=>v=Value.bool (decide (p0 x))∧Ext w1 w2):Ret Tryz.prog 202 #[.slice Al l.length cl, .func (.func fid) first.toArray cap.toArray] w (fun v w'=>v= .bool (decide (∃x∈l,p0 x))∧Ext w w'):=by
 have mhl:=hl.mx
 refine ret_of_wk Tryz.func202 rfl Tryz.ntmps202 (Nat.le_of_ble_eq_true rfl) ?_
 have hEc:Ext w w:=Chg.refl _ _
 refine wc_seq ?_
 refine wc_region ?_
 refine wl_assign (by decide) rfl ?_
 refine wl_nil ?_
 refine wk_norm ?_
 refine wc_seq ?_
 refine wc_region ?_
 refine wl_move (by decide) rfl ?_
 refine wl_move (by decide) rfl ?_
 have hcl:=fIIdx_ok hl hcl0 hf
 refine wl_call (by decide) Tryz.cl223 rfl hcl ?_
 clear hcl
 rintro _ w7 ⟨r,rfl,hr,hE7⟩
 replace hl:=hl.ext hE7
 replace hEc:=hEc.trans hE7
 refine wl_geq (by decide) rfl rfl ?_
 refine wl_assign (by decide) rfl ?_
 refine wl_nil ?_
 refine wk_norm ?_
 refine wc_ret ?_
 refine wk_post1 (.inl rfl) Tryz.results202 rfl ?_
 exact ⟨_,rfl,congrArg Value.bool (decide_eq_decide.2 hr),hEc⟩
theorem orI_step {l:List Int} {k:Nat} (hk:k<l.length):orI (l.drop k)=if l.getD k 0=0 then orI (l.drop (k+1)) else l.getD k 0:=by
 rw [List.drop_eq_getElem_cons hk,orI,List.getD_eq_getElem?_getD,List.getElem?_eq_getElem hk];rfl
theorem keyM_inj {s t:Int} {g h:Dig}:keyM s g=keyM t h↔s=t∧g=h:=by
 unfold keyM
 constructor
 ·intro e
  injection e with e
  have e2:=congrArg Array.toList e
  simp only [List.cons_append,List.nil_append,List.cons.injEq,Value.int.injEq,true_and] at e2
  exact ⟨e2.1,digC_inj.2 e2.2⟩
 ·rintro ⟨rfl,rfl⟩;rfl
theorem CntF.val {f:Value→Option Value} {l:List Stn} (h:CntF f l) (s:Int):(f (.int .i64 s)).getD (.int .i64 0)= .int .i64 (cntQ l s:Nat):=by
 rw [h s];by_cases e:cntQ l s=0<;>simp [e]
theorem CntF.nil:CntF (fun _=>none) []:=fun s=>by simp [cntQ]
theorem mseq_succ {cg:Chn} {k:Nat} (h:k<cg.marks.length):mseq cg (k+1)=mseq cg k++ [(cg.marks.getD k mark0).seq]:=by unfold mseq;rw [take_snoc mark0 h,List.map_append];rfl
theorem mseq_get {cg:Chn} {k i:Nat} (h:i<k):(mseq cg k).getD i 0=(cg.marks.getD i mark0).seq:=by
 unfold mseq
 simp only [List.getD_eq_getElem?_getD,List.getElem?_map,List.getElem?_take,h,if_true]
 cases cg.marks[i]? <;>rfl
theorem mnode_len {n:Nte} {k:Nat} (h:k≤n.changes.length):(mnode n k).length=k:=by unfold mnode;rw [List.length_map,List.length_take];omega
theorem flat_room {α:Type} {E:α→List UInt8} {l _out:List α} {o:List UInt8} {k:Nat} (hk:k<l.length) (h:o.length+(listE E l).length≤1000000):(o++numE (l.length:Int)++flatE E (l.take k)).length+(E l[k]).length≤1000000:=by
 have h1:=flat_take_le E l (k+1)
 rw [flat_take E l k hk] at h1
 simp only [listE,List.length_append] at h h1⊢
 omega
def bodyW (x:Wsh):List UInt8:=headE x++(strE x.data++(numE x.old++(numE x.new++numE (x.next.length:Int))))
end Go.Proofs.YtmbpneaibmldfaaGreat
namespace Go.Proofs.YtmbpneaibmldfaaGreat
open Go.RowKit Go.Eng _root_.Go.Proofs.Tryz Go.Eng _root_.Go.Proofs.Tryz
set_option maxRecDepth 100000
variable {w0 w:World} {M0 Fz:Nat→Prop} {H:List It} {A:Option Addr} {c:Nat}
theorem iAdd_ok {w0 w:World} {M0 Fz:Nat→Prop} {H:List It} {A:Option Addr} {c:Nat} {go:Nat} {o b:List UInt8} {bd:Bool} {B:Option Addr} {d:Nat} {e:Int} {S:Nat→Prop} (hp:HP w0 M0 Fz w (itB go 72 [.slice A o.length c, .bool bd]::itR 5 1 A o.length c (o.map bv)::H)) (hb:GS byteR S w B d b) (hl:o.length+b.length≤140737488355328):Ret prog 71 #[pt go 0, .slice B b.length d, .int .i64 e] w (WoP go w0 M0 Fz w H (addW (o,bd) b e)):=by
 refine ret_of_wk func71 rfl ntmps71 leB_ ?_
 refine so ?_
 refine Ar1 (l2:=b) hp hb hl fun A2 c2 w2 hp C2=>so ?_
 refine H1 0 hp (h:=fun w3 hp C3=>so ?_)
 cases bd
 ·refine so ?_
  refine H1 0 hp (h:=fun w4 hp C4=>so ?_)
  refine wk_post0 (.inr rfl) results71 ?_
  exact ⟨_,rfl,A2,c2,hp,mv⟩
 ·refine so ?_
  refine H1 0 hp (h:=fun w4 hp C4=>so ?_)
  refine wk_post0 (.inr rfl) results71 ?_
  exact ⟨_,rfl,A2,c2,hp,mv⟩
def FnI (FV:Value) (go:Nat) (w0:World) (M0 Fz:Nat→Prop) (w:World) (f:WS→Int→WS) (k:Nat):Prop:=
 ∀ (w1 : World) (H1 : List It) (A : Option Addr) (c : Nat) (o1 : List UInt8) (b1 : Bool) (x : Int), Frz Fz Fz w w1 → HP w0 M0 Fz w1 (itB go 72 [.slice A o1.length c, .bool b1] :: itR 5 1 A o1.length c (o1.map bv) :: H1) → i64 x → o1.length + k ≤ 1099511627776 →
  RetV prog FV [.int .i64 x] w1 (WoP go w0 M0 Fz w1 H1 (f (o1,b1) x))
end Go.Proofs.YtmbpneaibmldfaaGreat
namespace Go.Proofs.YtmbpneaibmldfaaGreat
open Go.RowKit Go.Eng Go.Eng _root_.Go.Proofs.Tryz
set_option maxRecDepth 100000
variable {w0 w:World} {M0 Fz:Nat→Prop} {H:List It} {A:Option Addr} {c:Nat}
theorem parse_no {l lR:List UInt8} {eR e2:Int} {x:Wsh} (h:StepP wishP (some l) (rst (decide (eR≠0)) lR) x) (hen:e2=if eR=0∧0<lR.length then 4 else eR) (h2:e2≠0):parseS l=none:=by
 have h0:=(not_congr (end_E hen)).1 h2
 unfold parseS
 cases hs:rst (decide (eR≠0)) lR with
 | none =>
  rw [hs] at h
  have h1:wishP l=none:=h
  rw [h1]
 | some u =>
  rw [hs] at h h0
  have h1:wishP l=some (x,u):=h
  rw [h1]
  exact if_neg (fun hh=>h0 (by rw [hh.1]))
def ParseR (l:List UInt8) (x:Wsh) (e:Int):Prop:=(e=0∧parseS l=some x)∨(e≠0∧parseS l=none∧x=wish0)
theorem unb_fail {l:List UInt8} {x:List Wsh} (h:StepP blistP (some l) none x):unbS l=none:=by
 have h1:blistP l=none:=h
 unfold unbS
 rw [h1]
theorem read_bad {l lR:List UInt8} {b ok:Bool} {x:Nte} (h:StepP noteP (some l) (rst b lR) x) (hb:b=true) (ho:ok=false):ReadR l x ok:=by
 subst hb ho
 have h1:noteP l=none:=h
 exact ⟨fun hh=>absurd hh (by decide),fun _ y=>by rw [h1];simp⟩
end Go.Proofs.YtmbpneaibmldfaaGreat
namespace Go.Proofs.YtmbpneaibmldfaaGreat
open Go.RowKit Go.Eng _root_.Go.Proofs.Tryz Go.Eng _root_.Go.Proofs.Tryz
set_option maxRecDepth 100000
variable {w0 w:World} {M0 Fz:Nat→Prop} {H:List It} {A:Option Addr} {c:Nat}
theorem took_ok {w0 w:World} {M0 Fz:Nat→Prop} {H:List It} {A:Option Addr} {c:Nat} {gt:Nat} {l rest:List UInt8} {bad:Bool} {B:Option Addr} {d:Nat} {e:Int} (hp:HP w0 M0 Fz w (itB gt 94 [.slice A l.length c, .bool bad]::H)):Ret prog 99 #[pt gt 0, .slice B rest.length d, .int .i64 e] w (ToP gt w0 M0 Fz w H A c l bad B d rest e):=by
 refine ret_of_wk func99 rfl ntmps99 leB_ ?_
 refine so ?_
 cases bad
 ·by_cases he : e = 0
  ·subst he
   refine so ?_
   refine H1 0 hp (h:=fun w2 hp C2=>so ?_)
   refine aT (so ?_)
   refine H1 0 hp (h:=fun w3 hp C3=>so ?_)
   refine Pt ?_
   exact ⟨_,rfl, .inr ⟨rfl,rfl,rfl,hp⟩,mv⟩
  ·refine so ?_
   refine wl_re (k:=15) (v:= .bool true) rfl (congrArg Value.bool (decide_eq_true he)) ?_
   refine so ?_
   refine H1 0 hp (h:=fun w2 hp C2=>so ?_)
   refine aF (so ?_)
   refine Pt ?_
   exact ⟨_,rfl, .inl ⟨.inr he,rfl,hp⟩,mv⟩
 ·refine so ?_
  refine H1 0 hp (h:=fun w2 hp C2=>so ?_)
  refine aF (so ?_)
  refine Pt ?_
  exact ⟨_,rfl, .inl ⟨.inl rfl,rfl,hp⟩,mv⟩
def FnT {α:Type} (FV:Value) (gt:Nat) (w0:World) (M0 Fz:Nat→Prop) (w:World) (r:Rep α) (p:PR α):Prop:=
 ∀(w1:World) (F1:Nat→Prop) (H1:List It) (A:Option Addr) (c:Nat) (l1:List UInt8) (b1:Bool),Frz Fz F1 w w1→HP w0 M0 F1 w1 (itB gt 94 [.slice A l1.length c, .bool b1]::H1)→GS byteR F1 w1 A c l1→RetV prog FV [] w1 (TkP gt w0 M0 F1 w1 H1 aggV r p b1 l1)
def FnTI (FV:Value) (gt:Nat) (w0:World) (M0 Fz:Nat→Prop) (w:World) (p:PR Int):Prop:=
 ∀(w1:World) (F1:Nat→Prop) (H1:List It) (A:Option Addr) (c:Nat) (l1:List UInt8) (b1:Bool),Frz Fz F1 w w1→HP w0 M0 F1 w1 (itB gt 94 [.slice A l1.length c, .bool b1]::H1)→GS byteR F1 w1 A c l1→RetV prog FV [] w1 (TkP gt w0 M0 F1 w1 H1 (fun cs=>cs.headD undef) intR p b1 l1)
theorem parse_isN {l:List UInt8} (h:rplP l=none):Go.Eng.parseS l=(rpl0,4):=by
 unfold Go.Eng.parseS
 rw [h]
theorem lDigi_ok {w:World} {b:UInt8}:Ret prog 67 #[bv b] w (fun v w'=>v= .agg (digC (dgi b)).toArray∧Ext w w'):=by
 refine ret_of_wk func67 rfl ntmps67 leB_ ?_
 have hp:=HP.begin_ w
 refine so ?_
 refine Alo hp (h:=fun g2 w1 hp E1=>so ?_)
 refine wl_builtS (ps:= [(0, .tmp 3),(1, .const (.int .u8 4))]) (by decide) bld26 rfl rfl ?_
 refine Hs 0 hp (h:=fun w2 hp C2=>so ?_)
 refine wk_postR (rs:= [.cell 2 26]) (.inl rfl) results67 ⟨_,_,_,rfl,rfl,loadVar_agg ag26 (hp.blkAt (i:=0) rfl).at0 rfl,rfl⟩ ?_
 exact ⟨_,rfl,rfl,hp.chg⟩
theorem bok1:batchOk [wshi]:=⟨by decide,fun x hx=>by rw [List.mem_singleton.1 hx];unfold WishMay wshi;simp⟩
theorem small_b:(rplE small0).length=52∧(rplE small0).take 11= [1,1,0,0,1,1,1,5,0,0,0]:=by decide
end Go.Proofs.YtmbpneaibmldfaaGreat
