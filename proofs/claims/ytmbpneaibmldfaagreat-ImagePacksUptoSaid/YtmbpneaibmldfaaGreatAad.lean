/- What each of these functions computes, for every argument that its theorem names; a part of what the proof of ImageOnce stands on. -/
import Derived.Test.YtmbpneaibmldfaaGreatAac
namespace Go.Proofs.YtmbpneaibmldfaaGreat
open Go.RowKit Go.Eng Go.Eng _root_.Go.Proofs.Tryz
set_option maxRecDepth 100000
variable {w0 w:World} {M0 Fz:Nat→Prop} {H:List It} {A:Option Addr} {c:Nat}
def WshI (x:Wsh):Prop:=i64 x.client∧i64 x.stamp∧i64 x.group∧i64 x.epoch∧i64 x.kind∧i64 x.block∧i64 x.old∧i64 x.new
def MrkI (x:Mrk):Prop:=i64 x.seq
def StnI (x:Stn):Prop:=i64 x.seq∧i64 x.view
def ChnI (x:Chn):Prop:=i64 x.node∧i64 x.view∧i64 x.low
def AnsI (x:Ans):Prop:=i64 x.err∧i64 x.epoch
def PckI (x:Pck):Prop:=i64 x.seq
def NteI (x:Nte):Prop:=i64 x.kind∧i64 x.from_∧i64 x.group∧i64 x.epoch∧i64 x.view∧i64 x.seq∧i64 x.ans.err∧i64 x.ans.epoch∧i64 x.stamp∧i64 x.node∧i64 x.change.node∧i64 x.change.view∧i64 x.change.low∧i64 x.level∧i64 x.place
theorem mark_inj {x y:Mrk}:x=y↔([.int .i64 x.seq]++(digC x.dig):List Value)= [.int .i64 y.seq]++(digC y.dig):=by
 constructor
 ·rintro rfl;rfl
 ·intro h
  simp only [List.cons_append,List.nil_append,List.cons.injEq,Value.int.injEq,true_and] at h
  cases x;cases y
  simp only [Mrk.mk.injEq]
  exact ⟨h.1,digC_inj.2 h.2⟩
theorem stand_inj {x y:Stn}:x=y↔([.int .i64 x.seq]++(digC x.dig++([.int .i64 x.view])):List Value)= [.int .i64 y.seq]++(digC y.dig++([.int .i64 y.view])):=by
 constructor
 ·rintro rfl;rfl
 ·intro h
  simp only [List.cons_append,List.nil_append,List.cons.injEq,Value.int.injEq,true_and] at h
  have h2:=List.append_inj h.2 (by simp [digC_len])
  cases x;cases y
  simp only [Stn.mk.injEq]
  exact ⟨h.1,digC_inj.2 h2.1,by simpa using h2.2⟩
end Go.Proofs.YtmbpneaibmldfaaGreat
namespace Go.Proofs.YtmbpneaibmldfaaGreat
open Go.ChangeShapes Go.WideShapes Go.ChangeAt Go.RowKit Go.Eng Go.Eng _root_.Go.Proofs.Tryz
set_option maxRecDepth 100000
variable {w0 w:World} {M0 Fz:Nat→Prop} {H:List It} {A:Option Addr} {c:Nat}
theorem Tryz.own:ownKnob Tryz.prog.godebug=none:=by kernel_rfl
theorem Tryz.laidOut:laidOutB Tryz.prog=true:=by kernel_rfl
end Go.Proofs.YtmbpneaibmldfaaGreat
namespace Go.Proofs.YtmbpneaibmldfaaGreat
open Go.RowKit Go.Eng Go.Eng _root_.Go.Proofs.Tryz
set_option maxRecDepth 100000
variable {w0 w:World} {M0 Fz:Nat→Prop} {H:List It} {A:Option Addr} {c:Nat}
def CrwI (x:Crw):Prop:=i64 x.faults
def ImgI (x:Img):Prop:=i64 x.view∧i64 x.low.seq∧i64 x.ran
end Go.Proofs.YtmbpneaibmldfaaGreat
namespace Go.Proofs.YtmbpneaibmldfaaGreat
open Go.RowKit Go.Eng _root_.Go.Proofs.Tryz Go.Eng _root_.Go.Proofs.Tryz
set_option maxRecDepth 100000
variable {w0 w:World} {M0 Fz:Nat→Prop} {H:List It} {A:Option Addr} {c:Nat}
def rorV (x n:Int):Int:=bitsV .or .u32 (x.fdiv (2^min n.toNat 32)) (IntKind.u32.wrap (x*2^min (32-n).toNat 32))
abbrev uv (n:Int):Value:= .int .u32 n
theorem idN {x:Int} {k:Nat} (e:x=(k:Int)) (h:k<9223372036854775808):IntKind.i64.wrap x=(k:Int):=by subst e;exact w64 (by omega) (by omega)
abbrev wu (n:Int):Int:=IntKind.u32.wrap n
theorem ar232:arB prog 232 64 5 1=true:=by kernel_rfl
theorem ar262:arB prog 262 64 229 1=true:=by kernel_rfl
theorem ar230:arB prog 230 8 229 1=true:=by kernel_rfl
def firstL:List Int:= [1779033703,3144134277,1013904242,2773480762,1359893119,2600822924,528734635,1541459225]
def rootsL:List Int:= [1116352408,1899447441,3049323471,3921009573,961987163,1508970993,2453635748,2870763221,3624381080,310598401,607225278,1426881987,1925078388,2162078206,2614888103,3248222580,3835390401,4022224774,264347078,604807628,770255983,1249150122,1555081692,1996064986,2554220882,2821834349,2952996808,3210313671,3336571891,3584528711,113926993,338241895,666307205,773529912,1294757372,1396182291,1695183700,1986661051,2177026350,2456956037,2730485921,2820302411,3259730800,3345764771,3516065817,3600352804,4094571909,275423344,430227734,506948616,659060556,883997877,958139571,1322822218,1537002063,1747873779,1955562222,2024104815,2227730452,2361852424,2428436474,2756734187,3204031479,3329325298]
end Go.Proofs.YtmbpneaibmldfaaGreat
namespace Go.Proofs.YtmbpneaibmldfaaGreat
open Go.RowKit Go.Eng Go.Eng _root_.Go.Proofs.Tryz
set_option maxRecDepth 100000
variable {w0 w:World} {M0 Fz:Nat→Prop} {H:List It} {A:Option Addr} {c:Nat}
theorem eqBytes_ok {A B:Option Addr} {c d:Nat} {la lb:List UInt8} {Sa Sb:Nat→Prop} (ha:BS Sa w A c la) (hb:BS Sb w B d lb):Ret prog 13 #[.slice A la.length c, .slice B lb.length d] w (fun v w'=>v= .bool (decide (la=lb))∧Ext w w'):=by
 refine ret_of_wk func13 rfl ntmps13 leB_ ?_
 refine so ?_
 refine Cd ?_ ?_<;>intro hne
 refine so ?_
 refine Pt ?_
 exact ⟨_,rfl,bool_f (fun e=>hne (by rw [e])),Chg.refl _ _⟩
 have hll:la.length=lb.length:=by omega
 refine so ?_
 refine Lp [0,1,5] (fun L' w' mes=> ∃(k:Nat),L'= [(0, .slice A la.length c),(1, .slice B lb.length d),(5,iv (k:Int))]∧(k≤la.length)∧(la.take k=lb.take k)∧(Ext w w')∧la.length-k=mes) (la.length-0) ⟨0,rfl,by omega,by simp,Chg.refl _ _,rfl⟩ ?_
 rintro _ wr _ ⟨k,rfl,hk,htk,hE,rfl⟩ KL1 hKL1
 have hmx:=ha.mx
 refine so ?_
 refine Cd ?_ ?_<;>intro hlt
 refine so ?_
 refine wc_drawL [SP.eq (.slice A la.length c),SP.eq (iv (k:Int)),SP.ptr (fun _=>True) [bv (la[k]'(by omega))],SP.eq (bv (la[k]'(by omega))),SP.eq (.slice B lb.length d),SP.eq (iv (k:Int)),SP.ptr (fun _=>True) [bv (lb[k]'(by omega))],SP.eq (bv (lb[k]'(by omega))),SP.eq (.bool (decide (((la[k]'(by omega)).toNat:Int)≠((lb[k]'(by omega)).toNat:Int))))] (by kernel_rfl) (by kernel_rfl) ⟨?_, ?_, ?_, ?_, ?_, ?_, ?_, ?_, ?_,trivial⟩ ?_
 intro F wF hER hk
 have e0:=hk.init 0 _ rfl (by kernel_rfl)
 refine Mv_ e0 ?_
 exact qz ⟨Chg.refl _ _,rfl⟩
 intro F wF hER hk
 have e5:=hk.init 5 _ rfl (by kernel_rfl)
 refine Mv_ e5 ?_
 exact qz ⟨Chg.refl _ _,rfl⟩
 intro F wF hER hk
 obtain ⟨u17,e17,h17⟩:=hk.pred 0 (by kernel_rfl) 17 rfl
 obtain rfl:=h17
 obtain ⟨u18,e18,h18⟩:=hk.pred 1 (by kernel_rfl) 18 rfl
 obtain rfl:=h18
 refine wl_idx (r:=byteR) (by decide) sl36 e17 e18 ((ha.ext hE).ext hER) k rfl (by omega) ?_
 rintro a cs hb1 _ hat rfl
 exact qz ⟨Chg.refl _ _,a,rfl,hb1,trivial,hat⟩
 intro F wF hER hk
 obtain ⟨u19,e19,h19⟩:=hk.pred 2 (by kernel_rfl) 19 rfl
 obtain ⟨a19,rfl,_,_,hat19⟩:=h19
 refine Ld_ sc5 e19 hat19.head ?_
 exact qz ⟨Chg.refl _ _,rfl⟩
 intro F wF hER hk
 have e1:=hk.init 1 _ rfl (by kernel_rfl)
 refine Mv_ e1 ?_
 exact qz ⟨Chg.refl _ _,rfl⟩
 intro F wF hER hk
 have e5:=hk.init 5 _ rfl (by kernel_rfl)
 refine Mv_ e5 ?_
 exact qz ⟨Chg.refl _ _,rfl⟩
 intro F wF hER hk
 obtain ⟨u21,e21,h21⟩:=hk.pred 4 (by kernel_rfl) 21 rfl
 obtain rfl:=h21
 obtain ⟨u22,e22,h22⟩:=hk.pred 5 (by kernel_rfl) 22 rfl
 obtain rfl:=h22
 refine wl_idx (r:=byteR) (by decide) sl36 e21 e22 ((hb.ext hE).ext hER) k rfl (by omega) ?_
 rintro a cs hb1 _ hat rfl
 exact qz ⟨Chg.refl _ _,a,rfl,hb1,trivial,hat⟩
 intro F wF hER hk
 obtain ⟨u23,e23,h23⟩:=hk.pred 6 (by kernel_rfl) 23 rfl
 obtain ⟨a23,rfl,_,_,hat23⟩:=h23
 refine Ld_ sc5 e23 hat23.head ?_
 exact qz ⟨Chg.refl _ _,rfl⟩
 intro F wF hER hk
 obtain ⟨u20,e20,h20⟩:=hk.pred 3 (by kernel_rfl) 20 rfl
 obtain rfl:=h20
 obtain ⟨u24,e24,h24⟩:=hk.pred 7 (by kernel_rfl) 24 rfl
 obtain rfl:=h24
 refine Ne_ e20 e24 ?_
 exact qz ⟨Chg.refl _ _,rfl⟩
 intro F wD hED hini hdo
 refine wk_drop [(0,_),(1,_),(5,_),(25,_)] ⟨di hini 0,di hini 1,di hini 5,dq hdo 8,trivial⟩ ?_
 clear hini hdo
 refine so ?_
 refine Cd ?_ ?_<;>intro hne2<;>refine so ?_
 refine Pt ?_
 exact ⟨_,rfl,bool_f (fun e=>hne2 (by subst e;rfl)),hE.trans hED⟩
 refine Kl [0,1,5] hKL1 (la.length-(k+1)) ⟨(k+1),rfl,by omega, ?_,hE.trans hED,rfl⟩ (by omega)
 rw [←List.take_append_getElem (by omega:k<la.length),←List.take_append_getElem (by omega:k<lb.length),htk,UInt8.toNat_inj.1 (by omega:la[k].toNat=lb[k].toNat)]
 have hkl:k=la.length:=by omega
 refine so ?_
 refine Pt ?_
 exact ⟨_,rfl,bool_t (by rw [hkl,List.take_length,hll,List.take_length] at htk;exact htk),hE⟩
theorem copyBytes_ok {A:Option Addr} {c:Nat} {l:List UInt8} {Sa:Nat→Prop} {w:World} (h:BS Sa w A c l):Ret Tryz.prog 17 #[.slice A l.length c] w (fun v w'=> ∃A' c',v= .slice A' l.length c'∧OwnB 5 w.heap.size w' A' c' l∧Ext w w'):=by
 refine ret_of_wk Tryz.func17 rfl Tryz.ntmps17 (Nat.le_of_ble_eq_true rfl) ?_
 refine wc_seq ?_
 refine wc_region ?_
 refine wl_assign (by decide) rfl ?_
 refine wl_nil ?_
 refine wk_norm ?_
 refine wc_seq ?_
 refine wc_region ?_
 refine wl_assign (by decide) rfl ?_
 refine wl_nil ?_
 refine wk_norm ?_
 refine wc_seq ?_
 refine wc_region ?_
 refine wl_move (by decide) rfl ?_
 refine wl_move (by decide) rfl ?_
 refine wl_appendB (l:= []) (by decide) Tryz.sl36 rfl rfl (OwnRow.nil _ _ _ _ _) h (by have:=h.mx;simp;omega) (Nat.le_refl _) ?_
 rintro A1 c1 w1 ho ch _
 refine wl_assign (by decide) rfl ?_
 refine wl_nil ?_
 refine wk_norm ?_
 refine wc_seq ?_
 refine wc_region ?_
 refine wl_move (by decide) rfl ?_
 refine wl_assign (by decide) rfl ?_
 refine wl_nil ?_
 refine wk_norm ?_
 refine wc_ret ?_
 refine wk_post1 (.inl rfl) Tryz.results17 rfl ?_
 exact ⟨_,rfl,A1,c1,rfl,ho,ch.off (fun _ _ x=>absurd rfl x.1)⟩
theorem cloneB_ok {l:List UInt8} {Sa:Nat→Prop} (h:BS Sa w A c l):Ret prog 141 #[.slice A l.length c] w (fun v w'=> ∃A' c',v= .slice A' l.length c'∧OwnB 5 w.heap.size w' A' c' l∧Ext w w'):=by
 refine ret_of_wk func141 rfl ntmps141 leB_ ?_
 refine so ?_
 refine wl_nilq (by decide) underlying36 rfl rfl ?_
 refine so ?_
 refine Cd ?_ ?_<;>intro hnil
 have hl:l= []:=h.empty (by cases A<;>simp_all)
 refine so ?_
 refine Pt ?_
 exact ⟨_,rfl,none,0,by rw [hl];rfl,by rw [hl];exact OwnRow.nil _ _ _ _ _,Chg.refl _ _⟩
 refine so ?_
 refine wl_bsliceB (xs:= []) (bs:= []) (by decide) sl36 rfl rfl rfl (by simp) w.heap.size (Nat.le_refl _) ?_
 rintro g w1 hg ho1 hE1
 refine so ?_
 refine wl_appendB (l:= []) (by decide) sl36 rfl rfl ho1 (h.ext hE1) (by have:=h.mx;simp;omega) hE1.size ?_
 rintro A2 c2 w2 ho ch _
 refine so ?_
 refine Pt ?_
 exact ⟨_,rfl,A2,c2,rfl,ho,hE1.trans (ch.off (fun _ _ x=>absurd rfl x.1))⟩
end Go.Proofs.YtmbpneaibmldfaaGreat
namespace Go.Proofs.YtmbpneaibmldfaaGreat
open Go.RowKit Go.Eng _root_.Go.Proofs.Tryz Go.Eng _root_.Go.Proofs.Tryz
set_option maxRecDepth 100000
variable {w0 w:World} {M0 Fz:Nat→Prop} {H:List It} {A:Option Addr} {c:Nat}
def bitsL (n:Nat):Int:=IntKind.u64.wrap (8*IntKind.u64.wrap (n:Int))
def lenB (n:Int) (i:Nat):UInt8:=u8Of (n.fdiv (2^min ((8*i:Nat):Int).toNat IntKind.u64.bits))
def padZ (n:Nat):Nat:=(119-n%64)%64
theorem ar26w:arB prog 26 32 5 1=true:=by kernel_rfl
def fillA (p : List UInt8) (m : Nat) : Nat → List UInt8
 |0=>List.replicate 64 0
 |i+1=>(fillA p m i).set i (p.getD (64*m+i) 0)
def outA (s : List Int) : Nat → List UInt8
 |0=>List.replicate 32 0
 |i+1=>(outA s i).set i (u8Of ((s.getD (i/4) 0).fdiv (2^min ((24-8*(i%4):Nat):Int).toNat IntKind.u32.bits)))
end Go.Proofs.YtmbpneaibmldfaaGreat
namespace Go.Proofs.YtmbpneaibmldfaaGreat
open Go.RowKit Go.Eng Go.Eng _root_.Go.Proofs.Tryz
set_option maxRecDepth 100000
variable {w0 w:World} {M0 Fz:Nat→Prop} {H:List It} {A:Option Addr} {c:Nat}
set_option maxHeartbeats 40000000 in
theorem n_within {n:Int} {least:Int} {most:Int}:Ret prog 127 #[.int .i64 n, .int .i64 least, .int .i64 most] w (fun v w'=>v= .bool (decide (least≤n∧n≤most))∧w'=w):=by
 refine ret_of_wk func127 rfl ntmps127 leB_ ?_
 refine so ?_
 refine Gs 10 ?_ ?_<;>intro hg1<;>refine so ?_
 refine Pt ?_
 exact ⟨_,rfl,congrArg Value.bool (decide_eq_decide.2 (by omega)),rfl⟩
 refine Pt ?_
 exact ⟨_,rfl,bool_f (by omega),rfl⟩
set_option maxHeartbeats 40000000 in
theorem w_within {n:Int} {least:Int} {most:Int}:Ret prog 216 #[.int .i64 n, .int .i64 least, .int .i64 most] w (fun v w'=>v= .bool (decide (least≤n∧n≤most))∧w'=w):=by
 refine ret_of_wk func216 rfl ntmps216 leB_ ?_
 refine so ?_
 refine Gs 10 ?_ ?_<;>intro hg1<;>refine so ?_
 refine Pt ?_
 exact ⟨_,rfl,congrArg Value.bool (decide_eq_decide.2 (by omega)),rfl⟩
 refine Pt ?_
 exact ⟨_,rfl,bool_f (by omega),rfl⟩
set_option maxHeartbeats 40000000 in
theorem r11_within {n:Int} {least:Int} {most:Int}:Ret prog 160 #[.int .i64 n, .int .i64 least, .int .i64 most] w (fun v w'=>v= .bool (decide (least≤n∧n≤most))∧w'=w):=by
 refine ret_of_wk func160 rfl ntmps160 leB_ ?_
 refine so ?_
 refine Gs 10 ?_ ?_<;>intro hg1<;>refine so ?_
 refine Pt ?_
 exact ⟨_,rfl,congrArg Value.bool (decide_eq_decide.2 (by omega)),rfl⟩
 refine Pt ?_
 exact ⟨_,rfl,bool_f (by omega),rfl⟩
set_option maxHeartbeats 40000000 in
theorem eqInts_ok {Aa:Option Addr} {ca:Nat} {a:List Int} {Sa:Nat→Prop} {Ab:Option Addr} {cb:Nat} {b:List Int} {Sb:Nat→Prop} (ha:GS intR Sa w Aa ca a) (hb:GS intR Sb w Ab cb b):Ret prog 115 #[.slice Aa a.length ca, .slice Ab b.length cb] w (fun v w'=>v= .bool (decide (a=b))∧Ext w w'):=by
 have mha:=ha.mx
 have mhb:=hb.mx
 refine ret_of_wk func115 rfl ntmps115 leB_ ?_
 refine so ?_
 refine Cd ?_ ?_<;>intro hne
 refine so ?_
 refine Pt ?_
 exact ⟨_,rfl,bool_f (fun e=>hne (by rw [e])),me⟩
 have hll:a.length=b.length:=by omega
 refine so ?_
 refine Lp [0, 1, 5] (fun L' w' mes => ∃ (k : Nat), L' = [(0, .slice Aa a.length ca), (1, .slice Ab b.length cb), (5, iv (k : Int))] ∧ (k ≤ a.length) ∧ (a.take k = b.take k) ∧ Ext w w' ∧ a.length - k = mes) (a.length - 0) (by
     refine ⟨0,rfl, ?_, ?_,me,rfl⟩
     omega
     simp) ?_
 rintro _ wr _ ⟨k,rfl,hk,htk,hEq0,rfl⟩ KL1 hKL1
 refine so ?_
 refine Cd ?_ ?_<;>intro hlt
 refine so ?_
 obtain ⟨aw2,hAw2,hatw2⟩:=GS.elI (ha.to (w':=wr)) k (by omega)
 obtain ⟨aw6,hAw6,hatw6⟩:=GS.elI (hb.to (w':=wr)) k (by omega)
 refine wdE 9 (fun wD hED=>pl) fun wD hED=>so ?_
 refine Cd ?_ ?_<;>intro hne2<;>refine so ?_
 refine Pt ?_
 exact ⟨_,rfl,bool_f (fun e=>hne2 (by rw [e])),me⟩
 refine Kl [0,1,5] hKL1 (a.length-(k+1)) ⟨(k+1),rfl,by omega, ?_,me,rfl⟩ (by omega)
 rw [take_snoc 0 (by omega:k<a.length),take_snoc 0 (by omega:k<b.length),htk,Decidable.not_not.1 hne2]
 have hkl:k=a.length:=by omega
 refine so ?_
 refine Pt ?_
 exact ⟨_,rfl,bool_t (by rw [hkl,List.take_length,hll,List.take_length] at htk;exact htk),me⟩
set_option maxHeartbeats 40000000 in
theorem seqI_ok {Aa:Option Addr} {ca:Nat} {a:List Int} {Sa:Nat→Prop} {Ab:Option Addr} {cb:Nat} {b:List Int} {Sb:Nat→Prop} (ha:GS intR Sa w Aa ca a) (hb:GS intR Sb w Ab cb b):Ret prog 61 #[.slice Aa a.length ca, .slice Ab b.length cb] w (fun v w'=>v= .bool (decide (a=b))∧Ext w w'):=by
 have mha:=ha.mx
 have mhb:=hb.mx
 refine ret_of_wk func61 rfl ntmps61 leB_ ?_
 refine so ?_
 refine Cd ?_ ?_<;>intro hne
 refine so ?_
 refine Pt ?_
 exact ⟨_,rfl,bool_f (fun e=>hne (by rw [e])),me⟩
 have hll:a.length=b.length:=by omega
 refine so ?_
 refine Lp [0, 1, 12, 13] (fun L' w' mes => ∃ (k : Nat), L' = [(0, .slice Aa a.length ca), (1, .slice Ab b.length cb), (12, iv (a.length : Int)), (13, iv (k : Int))] ∧ (k ≤ a.length) ∧ (a.take k = b.take k) ∧ Ext w w' ∧ a.length - k = mes) (a.length - 0) (by
     refine ⟨0,rfl, ?_, ?_,me,rfl⟩
     omega
     simp) ?_
 rintro _ wr _ ⟨k,rfl,hk,htk,hEq0,rfl⟩ KL1 hKL1
 refine so ?_
 refine Cd ?_ ?_<;>intro hlt
 refine so ?_
 obtain ⟨aw2,hAw2,hatw2⟩:=GS.elI (ha.to (w':=wr)) k (by omega)
 obtain ⟨aw6,hAw6,hatw6⟩:=GS.elI (hb.to (w':=wr)) k (by omega)
 refine wdE 9 (fun wD hED=>pl) fun wD hED=>so ?_
 refine Cd ?_ ?_<;>intro hne2<;>refine so ?_
 refine Pt ?_
 exact ⟨_,rfl,bool_f (fun e=>hne2 (by rw [e])),me⟩
 refine Kl [0,1,12,13] hKL1 (a.length-(k+1)) ⟨(k+1),rfl,by omega, ?_,me,rfl⟩ (by omega)
 rw [take_snoc 0 (by omega:k<a.length),take_snoc 0 (by omega:k<b.length),htk,Decidable.not_not.1 hne2]
 have hkl:k=a.length:=by omega
 refine so ?_
 refine Pt ?_
 exact ⟨_,rfl,bool_t (by rw [hkl,List.take_length,hll,List.take_length] at htk;exact htk),me⟩
set_option maxHeartbeats 4000000 in
theorem bequal_ok {Aa:Option Addr} {ca:Nat} {a:List UInt8} {Sa:Nat→Prop} {Ab:Option Addr} {cb:Nat} {b:List UInt8} {Sb:Nat→Prop} {w:World} (ha:GS byteR Sa w Aa ca a) (hb:GS byteR Sb w Ab cb b):Ret Tryz.prog 63 #[.slice Aa a.length ca, .slice Ab b.length cb] w (fun v w'=>v= .bool (decide (a=b))∧Ext w w'):=by
 have mha:=ha.mx
 have mhb:=hb.mx
 refine ret_of_wk Tryz.func63 rfl Tryz.ntmps63 (Nat.le_of_ble_eq_true rfl) ?_
 have hEc:Ext w w:=Chg.refl _ _
 refine wc_seq ?_
 refine wc_region ?_
 refine wl_assign (by decide) rfl ?_
 refine wl_nil ?_
 refine wk_norm ?_
 refine wc_seq ?_
 refine wc_region ?_
 refine wl_move (by decide) rfl ?_
 refine wl_b2s (by decide) Tryz.underlying36 Tryz.underlying5 Tryz.underlying9 rfl ha ?_
 refine wl_move (by decide) rfl ?_
 refine wl_b2s (by decide) Tryz.underlying36 Tryz.underlying5 Tryz.underlying9 rfl hb ?_
 refine wl_eqls (by decide) rfl rfl ?_
 refine wl_assign (by decide) rfl ?_
 refine wl_nil ?_
 refine wk_norm ?_
 refine wc_ret ?_
 refine wk_post1 (.inl rfl) Tryz.results63 rfl ?_
 exact ⟨_,rfl,rfl,hEc⟩
def plain8 (w:Wsh):List Int:= [w.client,w.stamp,w.group,w.epoch,w.kind,w.block,w.old,w.new]
def P8C (w:Wsh):List Value:= [.int .i64 w.client, .int .i64 w.stamp, .int .i64 w.group, .int .i64 w.epoch, .int .i64 w.kind, .int .i64 w.block, .int .i64 w.old, .int .i64 w.new]
def ownW (w : Wsh) : Wsh := if w.kind = 5 then { wish0 with group := w.group, epoch := w.epoch, kind := w.kind, next := w.next }
 else {wish0 with client:=w.client,stamp:=w.stamp,group:=w.group,epoch:=w.epoch,kind:=w.kind,block:=w.block,data:=if w.kind=2 then w.data else [],old:=if w.kind=4 then w.old else 0,new:=if w.kind=4 then w.new else 0}
set_option maxHeartbeats 40000000 in
theorem crew_ok {Al:Option Addr} {cl:Nat} {l:List Int} {Sl:Nat→Prop} (hl:GS intR Sl w Al cl l):Ret prog 217 #[.slice Al l.length cl] w (fun v w'=>v= .bool (decide (nextMay l))∧w'=w):=by
 refine ret_of_wk func217 rfl ntmps217 leB_ ?_
 refine so ?_
 refine wl_rem (by decide) rfl rfl (by decide) (Int.tmod_eq_emod_of_nonneg (by omega)) ?_
 refine so ?_
 refine Gs 10 ?_ ?_<;>intro hg1<;>refine so ?_
 refine aT (so ?_)
 refine Pt ?_
 exact ⟨_,rfl,bool_f (fun h=>by have:=h.1;omega),rfl⟩
 refine Cd ?_ ?_<;>intro hc2<;>refine so ?_
 refine Pt ?_
 exact ⟨_,rfl,bool_f (fun h=>by have:=h.1;omega),rfl⟩
 refine Lp [3, 15, 16, 17] (fun L' w' mes => ∃ (k : Nat), ∃ (last : Int), L' = [(3, iv last), (15, .slice Al l.length cl), (16, iv (l.length : Int)), (17, iv (k : Int))] ∧ (k ≤ l.length) ∧ (∀ i, i < k → 1 ≤ l.getD i 0 ∧ l.getD i 0 ≤ 28 ∧ (0 < i → l.getD (i - 1) 0 < l.getD i 0)) ∧ (l.length = 1 ∨ l.length = 4 ∨ l.length = 7) ∧ ((k = 0 ∧ last = 0) ∨ (0 < k ∧ last = l.getD (k - 1) 0 ∧ 1 ≤ last)) ∧ (w = w') ∧ l.length - k = mes) (l.length - 0) (by
     refine ⟨0,0,rfl,by omega, ?_,by omega, .inl ⟨rfl,rfl⟩, ?_,rfl⟩
     intro i hi;omega
     rfl) ?_
 rintro _ wr _ ⟨k,last,rfl,hk,hall,hln,hla,hw_,rfl⟩ KL1 hKL1
 subst hw_
 refine so ?_
 refine Cd ?_ ?_<;>intro hc3<;>refine so ?_
 obtain ⟨ae1,hAe1,hate1⟩:=GS.elI hl k (by omega)
 refine so ?_
 refine Gs 24 ?_ ?_<;>intro hg4<;>refine so ?_
 refine aT (so ?_)
 refine Pt ?_
 exact ⟨_,rfl,bool_f (fun h=>by have h1:=h.2 k (by omega);rcases hla with h2|h2;omega;have:=h1.2.2 (by omega);rw [←h2.2.1] at this;omega),rfl⟩
 refine Cd ?_ ?_<;>intro hc5<;>refine so ?_
 refine Pt ?_
 exact ⟨_,rfl,bool_f (fun h=>by have h1:=h.2 k (by omega);rcases hla with h2|h2;omega;have:=h1.2.2 (by omega);rw [←h2.2.1] at this;omega),rfl⟩
 refine Kl [3,15,16,17] hKL1 (l.length-(k+1)) ⟨(k+1),(l.getD k 0),rfl,by omega, ?_,hln, .inr ⟨by omega,rfl,by omega⟩, ?_,rfl⟩ (by omega)
 exact upto hall ⟨by omega,by omega,fun h0=>by rcases hla with h|h;omega;rw [←h.2.1];omega⟩
 rfl
 refine Pt ?_
 exact ⟨_,rfl,bool_t ⟨hln,fun i hi=>hall i (by omega)⟩,rfl⟩
def WKd (w : Wsh) : Prop := (w.kind = 1 ∧ 1 ≤ w.group ∧ w.group ≤ 2 ∧ 0 ≤ w.block ∧ w.block ≤ 7) ∨ (w.kind = 2 ∧ 1 ≤ w.group ∧ w.group ≤ 2 ∧ 0 ≤ w.block ∧ w.block ≤ 7 ∧ w.data.length = 16) ∨ (w.kind = 3 ∧ w.group = 0 ∧ w.epoch = 0 ∧ 1 ≤ w.block ∧ w.block ≤ 2) ∨
 (w.kind=4∧w.group=0∧w.epoch=0∧1≤w.block∧w.block≤2∧1≤w.old∧w.old≤28∧1≤w.new∧w.new≤28∧w.old≠w.new)∨(w.kind=5∧1≤w.group∧w.group≤2∧nextMay w.next)
set_option maxHeartbeats 40000000 in
theorem fIIdx_ok {Al:Option Addr} {cl:Nat} {l:List Int} {Sl:Nat→Prop} {fid:Nat} {first cap:List Value} {p0:Int→Prop} [DecidablePred p0] (hl:GS intR Sl w Al cl l) (hcl0:callable prog fid=true) (hf: ∀w1 x,Ext w w1→Ret prog fid (first++ [Value.int .i64 x]++cap).toArray w1 fun v w2=>v=Value.bool (decide (p0 x))∧Ext w1 w2):Ret prog 223 #[.slice Al l.length cl, .func (.func fid) first.toArray cap.toArray] w (fun v w'=> ∃r:Int,v= .int .i64 r∧(0≤r↔∃x∈l,p0 x)∧Ext w w'):=by
 have mhl:=hl.mx
 refine ret_of_wk func223 rfl ntmps223 leB_ ?_
 refine so ?_
 refine Lp [0,1,7,8] (fun L' w' mes=> ∃(k:Nat),L'= [(0, .slice Al l.length cl),(1, .func (.func fid) first.toArray cap.toArray),(7,iv (l.length:Int)),(8,iv (k:Int))]∧(k≤l.length)∧(∀x∈l.take k,¬p0 x)∧(GS intR Sl w' Al cl l)∧(Ext w w')∧l.length-k=mes) (l.length-0) ⟨0,rfl,by omega,by simp,hl,me,rfl⟩ ?_
 rintro _ wr _ ⟨k,rfl,hk,hall,hl,hEc,rfl⟩ KL1 hKL1
 refine so ?_
 refine Cd ?_ ?_<;>intro hc1<;>refine so ?_
 obtain ⟨ae1,hAe1,hate1⟩:=GS.elI hl k (by omega)
 refine so ?_
 have hcl:=hf _ (l.getD k 0) hEc
 refine wl_callv (f:=fid) (first:=first) (cap:=cap) (vs:= [_]) (by decide) hcl0 rfl rfl hcl ?_
 clear hcl
 rintro _ w7 ⟨rfl,hE7⟩
 refine so ?_
 refine Cd ?_ ?_<;>intro hq<;>refine so ?_
 refine Pt ?_
 exact ⟨_,rfl,_,rfl,⟨fun _=>⟨_,getD_mem (by omega),hq⟩,fun _=>by omega⟩,me⟩
 exact Kl [0,1,7,8] hKL1 (l.length-(k+1)) ⟨(k+1),rfl,by omega,forall_take hall (by omega) hq,hl.to,me,rfl⟩ (by omega)
 refine Pt ?_
 exact ⟨_,rfl,_,rfl,⟨fun h=>absurd h (by decide),fun ⟨x,hx,hpx⟩=>absurd hpx (hall x (by rw [show k=l.length by omega,List.take_length];exact hx))⟩,hEc⟩
def RiseI (l:List Int):Prop:= ∀i,i<l.length→0<i→l.getD (i-1) 0<l.getD i 0
def cmpI (x y:Int):Int:=if x<y then-1 else if y<x then 1 else 0
def orI : List Int → Int
 | []=>0
 |x::t=>if x=0 then orI t else x
set_option maxHeartbeats 4000000 in
theorem isNaN_ok {x:Int} {w:World}:Ret Tryz.prog 218 #[.int .i64 x] w (fun v w'=>v= .bool (decide (False))∧w'=w):=by
 refine ret_of_wk Tryz.func218 rfl Tryz.ntmps218 (Nat.le_of_ble_eq_true rfl) ?_
 refine wc_seq ?_
 refine wc_region ?_
 refine wl_assign (by decide) rfl ?_
 refine wl_nil ?_
 refine wk_norm ?_
 refine wc_seq ?_
 refine wc_region ?_
 refine wl_move (by decide) rfl ?_
 refine wl_move (by decide) rfl ?_
 refine wl_neq (by decide) rfl rfl ?_
 refine wl_assign (by decide) rfl ?_
 refine wl_nil ?_
 refine wk_norm ?_
 refine wc_ret ?_
 refine wk_post1 (.inl rfl) Tryz.results218 rfl ?_
 exact ⟨_,rfl,congrArg Value.bool (decide_eq_decide.2 (by simp)),rfl⟩
set_option maxHeartbeats 4000000 in
theorem bcompare_ok {Aa:Option Addr} {ca:Nat} {a:List UInt8} {Sa:Nat→Prop} {Ab:Option Addr} {cb:Nat} {b:List UInt8} {Sb:Nat→Prop} {w:World} (ha:GS byteR Sa w Aa ca a) (hb:GS byteR Sb w Ab cb b):Ret Tryz.prog 187 #[.slice Aa a.length ca, .slice Ab b.length cb] w (fun v w'=>v= .int .i64 (Lib.compareBytes a b)∧Ext w w'):=by
 have mha:=ha.mx
 have mhb:=hb.mx
 refine ret_of_wk Tryz.func187 rfl Tryz.ntmps187 (Nat.le_of_ble_eq_true rfl) ?_
 have hEc:Ext w w:=Chg.refl _ _
 refine wc_seq ?_
 refine wc_region ?_
 refine wl_assign (by decide) rfl ?_
 refine wl_nil ?_
 refine wk_norm ?_
 refine wc_seq ?_
 refine wc_region ?_
 refine wl_move (by decide) rfl ?_
 refine wl_move (by decide) rfl ?_
 refine wl_cmpB (by decide) (by kernel_rfl) rfl ha hb ?_
 refine wl_assign (by decide) rfl ?_
 refine wl_nil ?_
 refine wk_norm ?_
 refine wc_ret ?_
 refine wk_post1 (.inl rfl) Tryz.results187 rfl ?_
 exact ⟨_,rfl,by rfl,hEc⟩
def keyM (s:Int) (g:Dig):Value:= .agg ([Value.int .i64 s]++digC g).toArray
def CntF (f:Value→Option Value) (l:List Stn):Prop:= ∀s:Int,f (.int .i64 s)=if cntQ l s=0 then none else some (.int .i64 (cntQ l s:Nat))
theorem wf64 {a:Int} (h:i64 a):(Lit.int .i64 a).wf=true:=by have:=fit_int h.1 h.2;simpa [fitC] using this
theorem cntQ_le (l:List Stn) (s:Int) (k:Nat) (h:k≤l.length):cntQ (l.take k) s≤k:=by
 unfold cntQ
 have:=List.length_filter_le (fun x:Stn=>decide (x.seq=s)) (l.take k)
 rw [List.length_take] at this
 omega
theorem cntM_le (l:List Stn) (s:Int) (g:Dig) (k:Nat) (h:k≤l.length):cntM (l.take k) s g≤k:=by
 unfold cntM
 have:=List.length_filter_le (fun x:Stn=>decide (x.seq=s∧x.dig=g)) (l.take k)
 rw [List.length_take] at this
 omega
theorem cntM_next {l:List Stn} {k:Nat} (h:k<l.length):cntM (l.take (k+1)) (l.getD k stand0).seq (l.getD k stand0).dig=cntM (l.take k) (l.getD k stand0).seq (l.getD k stand0).dig+1:=by
 rw [take_snoc stand0 h,cntM_snoc];simp
theorem cntQ_next {l:List Stn} {k:Nat} (h:k<l.length):cntQ (l.take (k+1)) (l.getD k stand0).seq=cntQ (l.take k) (l.getD k stand0).seq+1:=by
 rw [take_snoc stand0 h,cntQ_snoc];simp
def mseq (cg:Chn) (k:Nat):List Int:=(cg.marks.take k).map (·.seq)
def mnode (n:Nte) (k:Nat):List Int:=(n.changes.take k).map (·.node)
theorem PkAt_iff {l:List Pck} {g e:Int} {j:Nat}:PkAt l g e j↔isSeq (l.getD j pick0).seq∧(0<j→IntKind.i64.wrap ((l.getD j pick0).seq-1)=(l.getD (j-1) pick0).seq)∧BatchMay (l.getD j pick0).batch g e∧¬((l.getD j pick0).dig=dig0∧0<(l.getD j pick0).batch.length):=by
 unfold PkAt isSeq
 constructor
 ·rintro ⟨a1, a2, a3, a4, a5⟩
  exact ⟨⟨a1,a2⟩,fun h0=>by rw [w64 (by omega) (by omega)];exact a3 h0,a4,a5⟩
 ·rintro ⟨⟨a1, a2⟩, a3, a4, a5⟩
  exact ⟨a1,a2,fun h0=>by have:=a3 h0;rw [w64 (by omega) (by omega)] at this;exact this,a4,a5⟩
theorem WishNote_iff {n:Nte}:WishNote n↔(n.batch.length:Int)=1∧BatchMay n.batch n.group n.epoch∧(31≤n.from_∧n.from_≤34)∧(n.batch.getD 0 wish0).client=n.from_∧(n.kind=1∨(n.batch.getD 0 wish0).kind=1):=by
 unfold WishNote
 constructor
 ·rintro ⟨a1,a2,a3,a4,a5,a6⟩;exact ⟨by omega,a2,⟨a3,a4⟩,a5,a6⟩
 ·rintro ⟨a1,a2,⟨a3,a4⟩,a5,a6⟩;exact ⟨by omega,a2,a3,a4,a5,a6⟩
set_option maxHeartbeats 4000000 in
theorem gDig_ok {w0 w:World} {M0 Fz:Nat→Prop} {H:List It} {gw:Nat} {A:Option Addr} {c:Nat} {out:List UInt8} {pa:Addr} {d:Dig} (hp:HP w0 M0 Fz w (itB gw 132 [.slice A out.length c]::itR 5 1 A out.length c (out.map bv)::H)) (hat:AtF Fz w pa (digC d)) (hlen:out.length+d.l.length≤1000000):Ret Tryz.prog 243 #[.pointer (some ⟨gw,0,none⟩), .pointer (some pa)] w (WrP 5 132 gw w0 M0 Fz w H (out++d.l)):=by
  have hFr:=Frz.start Fz w
  refine ret_of_wk Tryz.func243 rfl Tryz.ntmps243 (Nat.le_of_ble_eq_true rfl) ?_
  obtain ⟨KM,⟨hRo,hRk⟩,hKF,hKlt,hpo,hup⟩:=hp.apart (i:=1) rfl
  apply wc_drawTM 9 8 KM [SP.eq _,SP.eq _,SP.eq _,SP.eq _,SP.eq _,SP.eq _,SP.eq _,SP.eq (.slice (some pa) 32 32),SP.turn KM _ 5 1 (out.length+32) (out.map bv++digC d)] (by kernel_rfl) (by kernel_rfl) ⟨.inr (fun _ _ _ _ h=>h), .inr (fun _ _ _ _ h=>h), .inr (fun _ _ _ _ h=>h), .inr (fun _ _ _ _ h=>h), .inr (fun _ _ _ _ h=>h), .inr (fun _ _ _ _ h=>h), .inr (fun _ _ _ _ h=>h), .inr (fun _ _ _ _ h=>h), .inl rfl,trivial⟩
  · refine ⟨?_, ?_, ?_, ?_, ?_, ?_, ?_, ?_, ?_, trivial⟩
    ·
      intro F wF hER hEE hk
      have e0:=hk.init 0 _ rfl (by kernel_rfl)
      refine wl_move (by decide) e0 ?_
      exact wl_nil (qr_some ⟨Chg.refl _ _,rfl⟩)
    ·
      intro F wF hER hEE hk
      have e0:=hk.init 0 _ rfl (by kernel_rfl)
      refine wl_move (by decide) e0 ?_
      exact wl_nil (qr_some ⟨Chg.refl _ _,rfl⟩)
    ·
      intro F wF hER hEE hk
      obtain ⟨u5,e5,h5⟩:=hk.pred 1 (by kernel_rfl) 5 rfl
      obtain rfl:=h5
      refine wl_nilCheck (by decide) e5 ?_
      exact wl_nil (qr_some ⟨Chg.refl _ _,rfl⟩)
    ·
      intro F wF hER hEE hk
      obtain ⟨u6,e6,h6⟩:=hk.pred 2 (by kernel_rfl) 6 rfl
      obtain rfl:=h6
      refine wl_fld' (o':=0) (by decide) Tryz.fld132_0 e6 rfl ?_
      exact wl_nil (qr_some ⟨Chg.refl _ _,rfl⟩)
    ·
      intro F wF hER hEE hk
      obtain ⟨u7,e7,h7⟩:=hk.pred 3 (by kernel_rfl) 7 rfl
      obtain rfl:=h7
      refine wl_hload (i:=0) (by decide) Tryz.sc36 e7 (hpo _ hER) rfl rfl ?_
      exact wl_nil (qr_some ⟨Chg.refl _ _,rfl⟩)
    ·
      intro F wF hER hEE hk
      have e1:=hk.init 1 _ rfl (by kernel_rfl)
      refine wl_move (by decide) e1 ?_
      exact wl_nil (qr_some ⟨Chg.refl _ _,rfl⟩)
    ·
      intro F wF hER hEE hk
      obtain ⟨u9,e9,h9⟩:=hk.pred 5 (by kernel_rfl) 9 rfl
      obtain rfl:=h9
      refine wl_nilCheck (by decide) e9 ?_
      exact wl_nil (qr_some ⟨Chg.refl _ _,rfl⟩)
    ·
      intro F wF hER hEE hk
      obtain ⟨u10,e10,h10⟩:=hk.pred 6 (by kernel_rfl) 10 rfl
      obtain rfl:=h10
      refine wl_sliceA (by decide) Tryz.ar26 e10 ?_
      exact wl_nil (qr_some ⟨Chg.refl _ _,rfl⟩)
    ·
      intro F wF hER hEE hk
      have hEx:=hEE rfl
      obtain ⟨u8,e8,h8⟩:=hk.pred 4 (by kernel_rfl) 8 rfl
      obtain rfl:=h8
      obtain ⟨u11,e11,h11⟩:=hk.pred 7 (by kernel_rfl) 11 rfl
      obtain rfl:=h11
      refine wl_append (size:=1) (m:=32) (news:=digC d) (by decide) Tryz.sl36 e8 e11 (hRo.ext hEx) rfl (fun b hb=>by cases hb;exact (hat.ext hEx).at_) (by simp) (List.all_eq_true.1 rfl) (by omega) (Nat.zero_le _) ?_
      rintro A3 c3 w3 ho3 hch3 h43
      exact wl_nil (qr_some ⟨hch3.weak (fun b _ x => (hRk b).2 ⟨x.1, x.2.2⟩), A3, c3, rfl, ho3, fun b hb => (by
          rcases h43 with ⟨rfl,rfl⟩|rfl
          · exact .inl ((hRk b).2 hb)
          · obtain ⟨_, a, ha, rfl⟩ := hb
            cases ha
            exact .inr hEx.size)⟩)
  ·
    intro F wD hED hini hdo
    obtain ⟨u4,e4,h4⟩:=hdo 0 4 (Nat.lt_of_lt_of_eq (by decide) rfl) rfl
    obtain rfl:=h4
    obtain ⟨u12,e12,h12⟩:=hdo 8 12 (Nat.lt_of_lt_of_eq (by decide) rfl) rfl
    obtain ⟨A3,c3,rfl,ho3,hK3⟩:=h12
    refine wl_drop [(4,_),(12,_)] ⟨e4,e12,trivial⟩ ?_
    clear e4 e12 hini hdo
    replace hFr:=hFr.fz (hED.weak (fun b _ hb=>hKF b hb))
    replace hat:=hat.fz (hED.weak (fun b _ hb=>hKF b hb))
    replace hp:=hup _ (itR 5 1 A3 (out.length+32) c3 (out.map bv++digC d)) (fun b=>c3≠0∧blk A3 b) hED ⟨ho3,fun _=>Iff.rfl⟩ hK3
    refine wl_nilCheck (by decide) rfl ?_
    refine wl_fld' (o':=0) (by decide) Tryz.fld132_0 rfl rfl ?_
    refine wl_hstore1 (i:=0) rfl rfl hp rfl Tryz.sz36 (Nat.succ_pos _) rfl ?_
    rintro w9 hp9 hC9
    replace hFr:=(hFr.fz hC9).wid (fun b hb=>hb)
    replace hat:=(hat.fz hC9).wid (fun b hb=>hb)
    replace hp:=(hp9.as_ (H':=_::_::_) rfl)
    refine wl_nil ?_
    refine wk_post0 (.inr rfl) Tryz.results243 ?_
    have e1:out.map bv++digC d=(out++d.l).map bv:=by rw [digC_map,List.map_append]
    have e2:out.length+32=(out++d.l).length:=by rw [List.length_append,d.2]
    rw [e1,e2] at hp
    exact ⟨_,rfl,_,_,hp,hFr⟩
theorem t0_nTook_ok {p:Prop} (h:p:=by first|exact ⟨_,rfl,_,A,c,l,by simp_all,by simp_all,by simp_all,hp,mv,hl.to⟩|exact ⟨_,rfl,_,B,d,t,by simp_all,by simp_all,fun _=>rfl,hp,mv,ht.to⟩):p:=h
set_option maxHeartbeats 40000000 in
theorem nTook_ok {gr:Nat} {l:List UInt8} {bad:Bool} {B:Option Addr} {d:Nat} {t:List UInt8} {e:Int} (hp:HP w0 M0 Fz w (itB gr 223 [.slice A l.length c, .bool bad]::H)) (hl:GS byteR Fz w A c l) (ht:GS byteR Fz w B d t):Ret prog 252 #[.pointer (some ⟨gr,0,none⟩), .slice B t.length d, .int .i64 e] w (fun v w2=> ∃bad' A' c' l',v= .bool (!bad')∧bad'=(bad||decide (e≠0))∧(bad'=false→l'=t)∧HP w0 M0 Fz w2 (itB gr 223 [.slice A' (l':List UInt8).length c', .bool bad']::H)∧Frz Fz Fz w w2∧GS byteR Fz w2 A' c' l'):=by
 refine ret_of_wk func252 rfl ntmps252 leB_ ?_
 refine so ?_
 refine Gs 12 ?_ ?_<;>intro hg1<;>refine so ?_
 refine H1 0 hp (h:=fun w1 hp hC1=> ?_)
 replace hp:=hp.ay (itB gr 223 ([.slice A l.length c, .bool true])::_)
 refine so ?_
 refine aF (so ?_)
 refine Pt ?_
 exact t0_nTook_ok
 refine H1 0 hp (h:=fun w2 hp hC2=> ?_)
 replace hp:=hp.ay (itB gr 223 ([.slice A l.length c, .bool (decide (e≠0))])::_)
 refine so ?_
 refine Cd ?_ ?_<;>intro hc2<;>refine so ?_
 refine H1 0 hp (h:=fun w3 hp hC3=> ?_)
 replace hp:=hp.ay (itB gr 223 ([.slice B t.length d, .bool (decide (e≠0))])::_)
 refine so ?_
 refine Pt ?_
 exact t0_nTook_ok
 refine Pt ?_
 exact t0_nTook_ok
theorem fix32 {l:List UInt8} (h:(fixS l 32).2.2=0):(fixS l 32).1.length=32:=by
 unfold fixS at h⊢
 rw [if_neg (by omega)] at h⊢
 by_cases hl:(l.length:Int)<32
 ·rw [if_pos hl] at h;cases h
 ·rw [if_neg hl];simp;omega
theorem many_fin {bad b1 bad':Bool} {l l1:List UInt8} {x1 x' most:Int} (h:StepP numP (rst bad l) (rst b1 l1) x1) (hb:bad'=(b1||decide (most<x1))) (hx:x'=if bad'=true then 0 else x1):StepP (manyP most) (rst bad l) (rst bad' l1) x':=by
 subst hb hx
 exact step_many h
theorem many_lim {bad bad':Bool} {l l':List UInt8} {x most:Int} (h:StepP (manyP most) (rst bad l) (rst bad' l') x) (hb:bad'=false):(0≤x∧x≤9007199254740991)∧x≤most:=by
 subst hb
 cases bad with
 |true=>cases h
 |false=>exact (many_cod most).back l x l' h|>.2
theorem flat_take {α:Type} (E:α→List UInt8) (l:List α) (k:Nat) (hk:k<l.length):flatE E (l.take (k+1))=flatE E (l.take k)++E l[k]:=by
 rw [List.take_succ_eq_append_getElem hk,flatE_snoc]
theorem flat_take_le {α:Type} (E:α→List UInt8) (l:List α) (k:Nat):(flatE E (l.take k)).length≤(flatE E l).length:=by
 conv=>rhs;rw [←List.take_append_drop k l]
 unfold flatE
 rw [List.map_append,List.flatten_append,List.length_append]
 omega
theorem num_good {n:Int} (h:isNum n):numS n=(numE n,0):=by unfold isNum at h;rw [numS,if_neg (by omega)];rfl
theorem str_good {s:List UInt8} (h:s.length≤65536):strS s=(strE s,0):=by rw [strS,if_neg (by omega)];rfl
theorem nums_len {l:List Int} (h: ∀x∈l,isNum x) (k:Nat):(flatE numE (l.take k)).length≤l.length*8:=by
 have:=flatE_len numE (l.take k) 8 (fun x hx=>numE_len (h x (List.mem_of_mem_take hx)))
 rw [List.length_take] at this
 omega
theorem wish_parts (x:Wsh): [flatE numE [x.kind,x.client,x.stamp,x.group,x.epoch,x.block],strE x.data,flatE numE [x.old,x.new,(x.next.length:Int)],flatE numE x.next].flatten=wishE x:=by
 simp only [flatE,List.map_cons,List.map_nil,List.flatten_cons,List.flatten_nil,List.append_nil,wishE,listE,List.append_assoc]
theorem witem_len {x:Wsh} (h:WishMay x):(witemE x).length≤164:=by
 have h1:=(wish_fine h).2
 have h2:=strE_len (wishE x) (by omega)
 unfold witemE
 omega
theorem getD_may {l:List Wsh} (h: ∀x∈l,WishMay x) {k:Nat} (hk:k<l.length):WishMay (l.getD k wish0):=by
 rw [List.getD_eq_getElem?_getD,List.getElem?_eq_getElem hk]
 exact h _ (List.getElem_mem hk)
theorem num_is {n:Int} (hn:isNum n):numS n=(numE n,0):=by
 unfold isNum at hn
 rw [numS,if_neg (by omega)];rfl
theorem getD_ok {α:Type} {P:α→Prop} {l:List α} (h: ∀x∈l,P x) {k:Nat} (z:α) (hk:k<l.length):P (l.getD k z):=by
 rw [List.getD_eq_getElem?_getD,List.getElem?_eq_getElem hk]
 exact h _ (List.getElem_mem hk)
def headE (x:Wsh):List UInt8:=numE x.kind++(numE x.client++(numE x.stamp++(numE x.group++(numE x.epoch++numE x.block))))
end Go.Proofs.YtmbpneaibmldfaaGreat
namespace Go.Proofs.YtmbpneaibmldfaaGreat
open Go.RowKit Go.Eng _root_.Go.Proofs.Tryz Go.Eng _root_.Go.Proofs.Tryz
set_option maxRecDepth 100000
variable {w0 w:World} {M0 Fz:Nat→Prop} {H:List It} {A:Option Addr} {c:Nat}
theorem newBook_ok {w0 w:World} {M0 Fz:Nat→Prop} {H:List It} (hp:HP w0 M0 Fz w H):Ret prog 65 #[] w (fun v w'=> ∃g,v=pt g 0∧HP w0 M0 Fz w' (itB g 175 [.slice none 0 0,iv 0]::H)∧Ext w w'):=by
 refine ret_of_wk func65 rfl ntmps65 leB_ ?_
 refine so ?_
 refine wl_builtS (by decide) bld175 rfl rfl ?_
 refine Bx hp (h:=fun g w1 hp E1=>so ?_)
 refine Pt ?_
 exact ⟨_,rfl,g,rfl,hp,E1⟩
def WoP (go:Nat) (w0:World) (M0 Fz:Nat→Prop) (w:World) (H:List It) (s:WS) (_:Value) (w2:World):Prop:= ∃A' c',HP w0 M0 Fz w2 (itB go 72 [.slice A' s.1.length c', .bool s.2]::itR 5 1 A' s.1.length c' (s.1.map bv)::H)∧Frz Fz Fz w w2
theorem fold_take {α β:Type} (f:β→α→β) (s:β) (l:List α) (k:Nat) (z:α) (hk:k<l.length):(l.take (k+1)).foldl f s=f ((l.take k).foldl f s) (l.getD k z):=by
 rw [List.take_succ_eq_append_getElem hk,List.foldl_append,List.getD_eq_getElem?_getD,List.getElem?_eq_getElem hk]
 rfl
theorem fold_room {α:Type} {f:WS→α→WS} {k:Nat} (hf: ∀s x,(f s x).1.length≤s.1.length+k) (o:List UInt8) (bd:Bool) (l:List α) (most:Int) (j:Nat) (hj:j<l.length) {m:Nat} (hm:o.length+8+l.length*k≤m):((l.take j).foldl f (numW (o,bd) l.length most)).1.length+k≤m:=by
 have h1:=fold_len hf (numW (o,bd) l.length most) (l.take j)
 have h2:=numW_len (o,bd) l.length most
 rw [List.length_take,Nat.min_eq_left (Nat.le_of_lt hj)] at h1
 have h3:(j+1)*k≤l.length*k:=Nat.mul_le_mul_right k hj
 rw [Nat.succ_mul] at h3
 simp only at h2
 omega
end Go.Proofs.YtmbpneaibmldfaaGreat
namespace Go.Proofs.YtmbpneaibmldfaaGreat
open Go.RowKit Go.Eng Go.Eng _root_.Go.Proofs.Tryz
set_option maxRecDepth 100000
variable {w0 w:World} {M0 Fz:Nat→Prop} {H:List It} {A:Option Addr} {c:Nat}
theorem take_allI {α:Type} {a b:List α} {k:Nat} (h:a.take k=b.take k) (h1:a.length≤k) (h2:b.length≤k):a=b:=by rwa [List.take_of_length_le h1,List.take_of_length_le h2] at h
set_option maxHeartbeats 4000000 in
theorem crewNode_ok {n:Int} {w:World}:Ret Tryz.prog 68 #[.int .i64 n] w (fun v w'=>v= .bool (decide (1≤n∧n≤28))∧w'=w):=by
 refine ret_of_wk Tryz.func68 rfl Tryz.ntmps68 (Nat.le_of_ble_eq_true rfl) ?_
 refine wc_seq ?_
 refine wc_region ?_
 refine wl_assign (by decide) rfl ?_
 refine wl_nil ?_
 refine wk_norm ?_
 refine wc_seq ?_
 refine wc_region ?_
 refine wl_move (by decide) rfl ?_
 refine wl_geq (by decide) rfl rfl ?_
 refine wl_move (by decide) rfl ?_
 refine wl_gsplit (dj:=5) rfl (fun hg1=> ?_) (fun hg1=> ?_)
 ·
  try replace hg1:=of_decide_eq_true hg1
  refine wl_gyes rfl rfl ?_
  refine wl_move (by decide) rfl ?_
  refine wl_gyes rfl rfl ?_
  refine wl_leq (by decide) rfl rfl ?_
  refine wl_pick (by decide) rfl rfl ?_
  refine wl_assign (by decide) rfl ?_
  refine wl_nil ?_
  refine wk_norm ?_
  refine wc_ret ?_
  refine wk_post1 (.inl rfl) Tryz.results68 rfl ?_
  exact ⟨_,rfl,congrArg Value.bool (decide_eq_decide.2 (by omega)),rfl⟩
 ·
  try replace hg1:=of_decide_eq_false hg1
  refine wl_gno (by decide) rfl rfl (.inl rfl) ?_
  refine wl_gno (by decide) rfl rfl (.inl rfl) ?_
  refine wl_pick (by decide) rfl rfl ?_
  refine wl_assign (by decide) rfl ?_
  refine wl_nil ?_
  refine wk_norm ?_
  refine wc_ret ?_
  refine wk_post1 (.inl rfl) Tryz.results68 rfl ?_
  exact ⟨_,rfl,bool_f (by omega),rfl⟩
end Go.Proofs.YtmbpneaibmldfaaGreat
namespace Go.Proofs.YtmbpneaibmldfaaGreat
open Go.RowKit Go.Eng _root_.Go.Proofs.Tryz Go.Eng _root_.Go.Proofs.Tryz
set_option maxRecDepth 100000
variable {w0 w:World} {M0 Fz:Nat→Prop} {H:List It} {A:Option Addr} {c:Nat}
theorem batW_is {s:WS} {x:Bat} {e:Int} (h:e=0↔batchOk x.wishes):strW (addW s x.dig.l 0) (wbS x.wishes).1 e 65536=batW s x:=by
 unfold batW
 by_cases hb:batchOk x.wishes
 ·rw [h.2 hb,show (wbS x.wishes).2=0 by unfold wbS;rw [if_pos hb]]
 ·exact strW_bad (fun h0=>hb (h.1 h0)) (by unfold wbS;rw [if_neg hb];decide)
end Go.Proofs.YtmbpneaibmldfaaGreat
namespace Go.Proofs.YtmbpneaibmldfaaGreat
open Go.RowKit Go.Eng Go.Eng _root_.Go.Proofs.Tryz
set_option maxRecDepth 100000
variable {w0 w:World} {M0 Fz:Nat→Prop} {H:List It} {A:Option Addr} {c:Nat}
set_option maxHeartbeats 4000000 in
theorem nStand_ok {w:World} {t:Nat} {v0:Value}:Ret Tryz.prog 133 #[.iface t v0] w (fun v w2=> ∃g,v= .func (.func 159) ([]:List Value).toArray [Value.pointer (some ⟨g,0,none⟩)].toArray∧w.heap.size≤g∧w2.heap[g]? =some (.cells [Value.iface t v0].toArray 179 (0,0))∧Ext w w2):=by
 refine ret_of_wk Tryz.func133 rfl Tryz.ntmps133 (Nat.le_of_ble_eq_true rfl) ?_
 have hEc:Ext w w:=Chg.refl _ _
 refine wc_seq ?_
 refine wc_region ?_
 refine wl_box (by decide) rfl ?_
 rintro gs1 w1 hg1 hb1 hE1
 replace hEc:=hEc.trans hE1
 refine wl_assign (by decide) rfl ?_
 refine wl_nil ?_
 refine wk_norm ?_
 refine wc_seq ?_
 refine wc_region ?_
 refine wl_makeFunc (first:= []) (cap:= [.tmp 1]) (by decide) rfl rfl ?_
 refine wl_assign (by decide) rfl ?_
 refine wl_nil ?_
 refine wk_norm ?_
 refine wc_ret ?_
 refine wk_post1 (.inl rfl) Tryz.results133 rfl ?_
 exact ⟨_,rfl,gs1,rfl,by rw [hg1];exact Nat.le_refl _,hb1,hEc⟩
theorem t0_wEnd_ok {p:Prop} (h:p:=by first|rfl|(simp_all;done)|(simp_all;omega)|(simp_all;intros;omega)|(split<;>simp_all)):p:=h
set_option maxHeartbeats 40000000 in
theorem wEnd_ok {gr:Nat} {l:List UInt8} {e:Int} (hp:HP w0 M0 Fz w (itB gr 220 [.slice A l.length c, .int .i64 e]::H)) (_hl:GS byteR Fz w A c l):Ret prog 166 #[.pointer (some ⟨gr,0,none⟩)] w (fun v w2=> ∃e2 e3,v= .int .i64 e2∧(e2=if e=0∧0<l.length then 4 else e)∧HP w0 M0 Fz w2 (itB gr 220 [.slice A l.length c, .int .i64 e3]::H)∧Frz Fz Fz w w2):=by
 refine ret_of_wk func166 rfl ntmps166 leB_ ?_
 refine so ?_
 refine Gs 8 ?_ ?_<;>intro hg1<;>refine so ?_
 refine Cd ?_ ?_<;>intro hc2<;>refine so ?_
 refine H1 0 hp (h:=fun w1 hp hC1=> ?_)
 replace hp:=hp.ay (itB gr 220 ([.slice A l.length c,iv 4])::_)
 refine so ?_
 refine Pt ?_
 exact ⟨_,rfl,_,_,rfl,t0_wEnd_ok,(hp.up 0 rfl),mv⟩
 refine Pt ?_
 exact ⟨_,rfl,_,_,rfl,t0_wEnd_ok,(hp.up 0 rfl),mv⟩
 refine aF (so ?_)
 refine Pt ?_
 exact ⟨_,rfl,_,_,rfl,t0_wEnd_ok,(hp.up 0 rfl),mv⟩
def parseS (l : List UInt8) : Option Wsh := match wishP l with
 |some (x,u)=>if u= []∧WishMay x then some x else none
 |none=>none
def unbS (l : List UInt8) : Option (List Wsh) := match blistP l with
 |some (x,u)=>if u= [] then some x else none
 |none=>none
def ReadR (l:List UInt8) (x:Nte) (ok:Bool):Prop:=(ok=true→noteP l=some (x, []))∧(ok=false→∀y,noteP l≠some (y, []))
theorem changes_few {b t:List UInt8} {n:Nte} (h:noteP b=some (n,t)):n.changes.length≤7:=by
 obtain ⟨_,hok,ho⟩:=note_back b n t h
 by_cases k9:n.kind=9
 ·have h1 := hok.2.2.2.2
  unfold bodyOk at h1
  rw [if_neg (by omega),if_neg (by omega),if_neg (by omega),if_neg (by omega),if_neg (by omega),if_neg (by omega),if_neg (by omega),if_pos k9] at h1
  have h2:=h1.2.1.1
  omega
 ·have h1 : (ownN n).changes = [] := by
   unfold ownN
   simp only [if_neg k9,apply_ite Nte.changes]
   simp [note0]
  rw [ho] at h1
  rw [h1]
  exact Nat.zero_le _
theorem OwnRow.frz {e size lo n c:Nat} {A:Option Addr} {xs:List Value} {w w':World} {F8:Nat→Prop} (h:OwnRow e size lo w A n c xs) (hf: ∀b,c≠0→blk A b→F8 b) (ch:Chg (fun b=> ¬F8 b) w w'):OwnRow e size lo w' A n c xs:=by
 by_cases hc:c=0
 ·exact ⟨h.len,h.le,h.mx, .inl ⟨hc,by have:=h.le;omega⟩⟩
 ·exact h.keep ch (fun b _ _ hb hn=>hn (hf b hc hb))
def chgS (x:Chn):List UInt8×Int:=if ChangeMay x then (changeE x,0) else ([],2)
end Go.Proofs.YtmbpneaibmldfaaGreat
namespace Go.Proofs.YtmbpneaibmldfaaGreat
open Go.RowKit Go.Eng _root_.Go.Proofs.Tryz Go.Eng _root_.Go.Proofs.Tryz
set_option maxRecDepth 100000
variable {w0 w:World} {M0 Fz:Nat→Prop} {H:List It} {A:Option Addr} {c:Nat}
def TkP {α:Type} (gt:Nat) (w0:World) (M0 Fz:Nat→Prop) (w:World) (H:List It) (V:List Value→Value) (r:Rep α) (p:PR α) (bad:Bool) (l:List UInt8) (v:Value) (w2:World):Prop:=
 ∃F2 A' c' l' bad' cs x,v=V cs∧HP w0 M0 F2 w2 (itB gt 94 [.slice A' (l':List UInt8).length c', .bool bad']::H)∧Frz Fz F2 w w2∧GS byteR F2 w2 A' c' l'∧r.rd F2 w2 cs x∧StepP p (rst bad l) (rst bad' l') x
def TnP (gt:Nat) (w0:World) (M0 Fz:Nat→Prop) (w:World) (H:List It) (most:Int) (bad:Bool) (l:List UInt8) (v:Value) (w2:World):Prop:=
 ∃F2 A' c' l' bad' n,v= .int .i64 n∧HP w0 M0 F2 w2 (itB gt 94 [.slice A' (l':List UInt8).length c', .bool bad']::H)∧Frz Fz F2 w w2∧GS byteR F2 w2 A' c' l'∧(0≤n∧n≤9007199254740991∧(n≤most∨n=0))∧StepP (manyP most) (rst bad l) (rst bad' l') n
def ToP (gt:Nat) (w0:World) (M0 Fz:Nat→Prop) (w:World) (H:List It) (A:Option Addr) (c:Nat) (l:List UInt8) (bad:Bool) (B:Option Addr) (d:Nat) (rest:List UInt8) (e:Int) (v:Value) (w2:World):Prop:=
 ((bad=true∨e≠0)∧v= .bool false∧HP w0 M0 Fz w2 (itB gt 94 [.slice A l.length c, .bool true]::H)∨bad=false∧e=0∧v= .bool true∧HP w0 M0 Fz w2 (itB gt 94 [.slice B rest.length d, .bool false]::H))∧Frz Fz Fz w w2
def TsP (gt:Nat) (w0:World) (M0 Fz:Nat→Prop) (w:World) (H:List It) (most:Int) (bad:Bool) (l:List UInt8) (v:Value) (w2:World):Prop:=
 ∃F2 A' c' l' bad' B d s,v= .slice B (s:List UInt8).length d∧HP w0 M0 F2 w2 (itB gt 94 [.slice A' (l':List UInt8).length c', .bool bad']::H)∧Frz Fz F2 w w2∧GS byteR F2 w2 A' c' l'∧GS byteR F2 w2 B d s∧(∀b,d≠0→blk B b→w.heap.size≤b)∧s.length≤65536∧StepP (strP most) (rst bad l) (rst bad' l') s
theorem takeS_num {l:List UInt8} (h:(takeS l).2.2=0):0≤(takeS l).1∧(takeS l).1≤9007199254740991:=(num_cod.back l (takeS l).1 (takeS l).2.1 (by unfold numP;rw [if_pos h])).2
abbrev aggV (cs:List Value):Value:= .agg cs.toArray
def TlP {α:Type} (gt:Nat) (w0:World) (M0 Fz:Nat→Prop) (w:World) (H:List It) (r:Rep α) (p:PR α) (most:Int) (bad:Bool) (l:List UInt8) (v:Value) (w2:World):Prop:=
 ∃F2 A' c' l' bad' B d xs,v= .slice B (xs:List α).length d∧HP w0 M0 F2 w2 (itB gt 94 [.slice A' (l':List UInt8).length c', .bool bad']::H)∧Frz Fz F2 w w2∧GS byteR F2 w2 A' c' l'∧GS r F2 w2 B d xs∧StepP (listP p most) (rst bad l) (rst bad' l') xs
theorem rep_none {α : Type} {p : PR α} {s : Option (List UInt8)} {k : Nat} {x : List α} (h : StepP (repP p k) s none x) : ∀ j (y : List α), StepP (repP p (k + j)) s none y
 | 0, y => by
  unfold StepP at h⊢
  simpa using h
 |j+1,y=>StepP.bind (rep_none h j x) (StepP.bad _ _)
theorem headQe (node:Int) (s:List UInt8):flatE numE [7,node,0,0]++s=headC node s:=by simp [flatE,headC]
theorem four (node : Int) : ∀ k, k < 4 → ([iv 7, iv node, iv 0, iv 0].toArray : Array Value)[k]? = some (iv (([7, node, 0, 0] : List Int).getD k 0))
 |0,_=>rfl
 |1,_=>rfl
 |2,_=>rfl
 |3,_=>rfl
theorem four_num {node : Int} (h : isNum node) : ∀ k, k < 4 → isNum (([7, node, 0, 0] : List Int).getD k 0)
 |0,_=>(by unfold isNum;decide:isNum 7)
 |1,_=>h
 |2,_=>(by unfold isNum;decide:isNum 0)
 |3,_=>(by unfold isNum;decide:isNum 0)
theorem numS_is {n:Int} (h:isNum n):numS n=(numE n,0):=by
 unfold isNum at h
 unfold numS numE
 rw [if_neg (by omega)]
theorem step_chg {bad b2 b3:Bool} {l l2 s:List UInt8} {x:Chn} (h:StepP (strP 65536) (rst bad l) (rst b2 l2) s) (h0:b3=false→b2=false∧chgT s=some x) (h1:b3=true→b2=true∨chgT s=none):StepP chgTP (rst bad l) (rst b3 l2) x:=by
 cases bad with
 | true =>
  have hn:=StepP.gone h
  cases b2 with
  |false=>cases hn
  | true =>
   cases b3 with
   |false=>exact absurd (h0 rfl).1 (by decide)
   |true=>exact StepP.bad _ _
 | false =>
  cases b2 with
  | true =>
   have hs:strP 65536 l=none:=h
   cases b3 with
   |false=>exact absurd (h0 rfl).1 (by decide)
   |true=>exact StepP.of_none (by unfold chgTP;rw [hs])
  | false =>
   have hs:strP 65536 l=some (s,l2):=h
   cases b3 with
   |false=>exact StepP.of_some (by unfold chgTP;rw [hs];simp only;rw [(h0 rfl).2])
   | true =>
    rcases h1 rfl with h2|h2
    ·cases h2
    ·exact StepP.of_none (by unfold chgTP;rw [hs];simp only;rw [h2])
theorem chgT_num {s:List UInt8} (h:(takeS s).2.2≠0):chgT s=none:=by
 unfold chgT numP
 rw [if_neg h]
def imC (v:Int) (a:Bool) (s:Int) (d:Dig) (x0 x1 x2 x3 x4 x5 x6:Value):List Value:= [.int .i64 v, .bool a, .int .i64 s]++(digC d++ [x0,x1,x2,x3,x4,x5,x6])
def rpC (g e f:Int) (nd:Value) (im:List Value) (lf:Value) (ch:List Value) (st:Value):List Value:= [.int .i64 g, .int .i64 e, .int .i64 f,nd]++(im++(lf::(ch++ [st])))
def ch0C:List Value:= [iv 0,iv 0,iv 0,s0,s0,s0]
def dgi (b:UInt8):Dig:=⟨b::4::List.replicate 30 0,by simp⟩
def wshi:Wsh:=⟨31,5,1,2,2,3,List.replicate 16 0,0,0, []⟩
def small0:Rpl:=⟨1,0,0, [5],img0,false,change0, []⟩
theorem sl36u:prog.underlying 36=some (.slice 5):=by kernel_rfl
def want0:List UInt8:= [1,1,0,0,1,1,1,5,0,0,0]
theorem ld5 {cs:List Value} (h:cs.length=54):(cs.drop 0).take 54=cs:=by rw [List.drop_zero,List.take_of_length_le (by omega)]
theorem may_nodes {r:Rpl} (h:RplMay r): ∀y∈r.nodes,i64 y:=by
 obtain ⟨_,_,_,_,⟨_,h5⟩,_⟩:=h
 intro y hy
 have:=h5 y hy
 unfold inodeOk isNum at this
 unfold i64
 omega
end Go.Proofs.YtmbpneaibmldfaaGreat
