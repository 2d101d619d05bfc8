/- What each of these functions computes, for every argument that its theorem names; a part of what the proof of ImagePacksUpto stands on. -/
import Derived.Test.YtmbpneaibmldfaaGreatEaa
import Derived.Test.YtmbpneaibmldfaaGreatAaa
import Derived.Test.YtmbpneaibmldfaaGreatAab
import Derived.Test.YtmbpneaibmldfaaGreatAad
import Derived.Test.YtmbpneaibmldfaaGreatAaf
import Derived.Test.YtmbpneaibmldfaaGreatAag
import Derived.Test.YtmbpneaibmldfaaGreatAai
import Derived.Test.YtmbpneaibmldfaaGreatAaj
import Derived.Test.YtmbpneaibmldfaaGreatAak
import Derived.Test.YtmbpneaibmldfaaGreatAap
import Derived.Test.YtmbpneaibmldfaaGreatEab
import Derived.Test.YtmbpneaibmldfaaGreatEac
namespace Go.Proofs.YtmbpneaibmldfaaGreat
open Go.ChangeShapes Go.WideShapes Go.ChangeAt Go.RowKit Go.Eng Go.Eng _root_.Go.Proofs.Tryz
set_option maxRecDepth 100000
variable {w0 w:World} {M0 Fz:Nat→Prop} {H:List It} {A:Option Addr} {c:Nat}
theorem reads_Wsh:ReadsR Tryz.prog 112 wishR (fun _=>True):=by
  intro H enc w base sp held fuel cs x h hlt hw
  have hlen:=trod_structLen Tryz.underlying112 h
  rw [Tryz.ce112] at hlen
  obtain ⟨v0,h0,g0⟩:=reads_field Tryz.underlying112 (i:=0) rfl (reads_int Tryz.underlying3) h hlt hw
  replace h0:intR.rd _ _ ((cs.drop 0).take (Tryz.prog.cellsOf 3)) v0:=h0
  rw [Tryz.ce3] at h0
  have e0:(cs.drop 0).take 1= [.int .i64 v0]:=h0
  obtain ⟨v1,h1,g1⟩:=reads_field Tryz.underlying112 (i:=1) rfl (reads_int Tryz.underlying3) h hlt hw
  replace h1:intR.rd _ _ ((cs.drop 1).take (Tryz.prog.cellsOf 3)) v1:=h1
  rw [Tryz.ce3] at h1
  have e1:(cs.drop 1).take 1= [.int .i64 v1]:=h1
  obtain ⟨v2,h2,g2⟩:=reads_field Tryz.underlying112 (i:=2) rfl (reads_int Tryz.underlying3) h hlt hw
  replace h2:intR.rd _ _ ((cs.drop 2).take (Tryz.prog.cellsOf 3)) v2:=h2
  rw [Tryz.ce3] at h2
  have e2:(cs.drop 2).take 1= [.int .i64 v2]:=h2
  obtain ⟨v3,h3,g3⟩:=reads_field Tryz.underlying112 (i:=3) rfl (reads_int Tryz.underlying3) h hlt hw
  replace h3:intR.rd _ _ ((cs.drop 3).take (Tryz.prog.cellsOf 3)) v3:=h3
  rw [Tryz.ce3] at h3
  have e3:(cs.drop 3).take 1= [.int .i64 v3]:=h3
  obtain ⟨v4,h4,g4⟩:=reads_field Tryz.underlying112 (i:=4) rfl (reads_int Tryz.underlying3) h hlt hw
  replace h4:intR.rd _ _ ((cs.drop 4).take (Tryz.prog.cellsOf 3)) v4:=h4
  rw [Tryz.ce3] at h4
  have e4:(cs.drop 4).take 1= [.int .i64 v4]:=h4
  obtain ⟨v5,h5,g5⟩:=reads_field Tryz.underlying112 (i:=5) rfl (reads_int Tryz.underlying3) h hlt hw
  replace h5:intR.rd _ _ ((cs.drop 5).take (Tryz.prog.cellsOf 3)) v5:=h5
  rw [Tryz.ce3] at h5
  have e5:(cs.drop 5).take 1= [.int .i64 v5]:=h5
  obtain ⟨v6,h6,g6⟩:=reads_field Tryz.underlying112 (i:=6) rfl reads_t36 h hlt hw
  replace h6:(sliceR byteR).rd _ _ ((cs.drop 6).take (Tryz.prog.cellsOf 36)) v6:=h6
  rw [Tryz.ce36] at h6
  obtain ⟨A6,c6,e6,k6⟩:=h6
  obtain ⟨v7,h7,g7⟩:=reads_field Tryz.underlying112 (i:=7) rfl (reads_int Tryz.underlying3) h hlt hw
  replace h7:intR.rd _ _ ((cs.drop 7).take (Tryz.prog.cellsOf 3)) v7:=h7
  rw [Tryz.ce3] at h7
  have e7:(cs.drop 7).take 1= [.int .i64 v7]:=h7
  obtain ⟨v8,h8,g8⟩:=reads_field Tryz.underlying112 (i:=8) rfl (reads_int Tryz.underlying3) h hlt hw
  replace h8:intR.rd _ _ ((cs.drop 8).take (Tryz.prog.cellsOf 3)) v8:=h8
  rw [Tryz.ce3] at h8
  have e8:(cs.drop 8).take 1= [.int .i64 v8]:=h8
  obtain ⟨v9,h9,g9⟩:=reads_field Tryz.underlying112 (i:=9) rfl reads_t22 h hlt hw
  replace h9:(sliceR intR).rd _ _ ((cs.drop 9).take (Tryz.prog.cellsOf 22)) v9:=h9
  rw [Tryz.ce22] at h9
  obtain ⟨A9,c9,e9,k9⟩:=h9
  have e:=(List.drop_zero (l:=cs)).symm
  rw [seg_cons (m:=1) rfl e0] at e
  rw [seg_cons (m:=2) rfl e1] at e
  rw [seg_cons (m:=3) rfl e2] at e
  rw [seg_cons (m:=4) rfl e3] at e
  rw [seg_cons (m:=5) rfl e4] at e
  rw [seg_cons (m:=6) rfl e5] at e
  rw [seg_cons (m:=7) rfl e6] at e
  rw [seg_cons (m:=8) rfl e7] at e
  rw [seg_cons (m:=9) rfl e8] at e
  rw [seg_cons (m:=10) rfl e9] at e
  rw [List.drop_eq_nil_of_le (by rw [hlen];exact Nat.le_refl _)] at e
  refine ⟨{client:=v0,stamp:=v1,group:=v2,epoch:=v3,kind:=v4,block:=v5,data:=v6,old:=v7,new:=v8,next:=v9}, ?_,trivial⟩
  refine ⟨by unfold WshI i64;dsimp only;omega,_,_,_,_,e.trans (by (try simp only [List.cons_append,List.nil_append,List.append_nil]);try rfl),k6,k9⟩
theorem reads_Mrk:ReadsR Tryz.prog 28 markR (fun _=>True):=by
 intro H enc w base sp held fuel cs x h hlt hw
 have hlen:=trod_structLen Tryz.underlying28 h
 rw [Tryz.ce28] at hlen
 obtain ⟨v0,h0,g0⟩:=reads_field Tryz.underlying28 (i:=0) rfl (reads_int Tryz.underlying3) h hlt hw
 replace h0:intR.rd _ _ ((cs.drop 0).take (Tryz.prog.cellsOf 3)) v0:=h0
 rw [Tryz.ce3] at h0
 have e0:(cs.drop 0).take 1= [.int .i64 v0]:=h0
 obtain ⟨v1,h1,g1⟩:=reads_field Tryz.underlying28 (i:=1) rfl reads_t26 h hlt hw
 replace h1:digR.rd _ _ ((cs.drop 1).take (Tryz.prog.cellsOf 26)) v1:=h1
 rw [Tryz.ce26] at h1
 have e1:(cs.drop 1).take 32=digC v1:=h1
 have e:=(List.drop_zero (l:=cs)).symm
 rw [seg_cons (m:=1) rfl e0] at e
 rw [seg_cons (m:=33) rfl e1] at e
 rw [List.drop_eq_nil_of_le (by rw [hlen];exact Nat.le_refl _)] at e
 refine ⟨{seq:=v0,dig:=v1}, ?_,trivial⟩
 refine ⟨by unfold MrkI i64;dsimp only;omega,e.trans (by (try simp only [List.cons_append,List.nil_append,List.append_nil]);try rfl)⟩
theorem reads_Stn:ReadsR Tryz.prog 110 standR (fun _=>True):=by
 intro H enc w base sp held fuel cs x h hlt hw
 have hlen:=trod_structLen Tryz.underlying110 h
 rw [Tryz.ce110] at hlen
 obtain ⟨v0,h0,g0⟩:=reads_field Tryz.underlying110 (i:=0) rfl (reads_int Tryz.underlying3) h hlt hw
 replace h0:intR.rd _ _ ((cs.drop 0).take (Tryz.prog.cellsOf 3)) v0:=h0
 rw [Tryz.ce3] at h0
 have e0:(cs.drop 0).take 1= [.int .i64 v0]:=h0
 obtain ⟨v1,h1,g1⟩:=reads_field Tryz.underlying110 (i:=1) rfl reads_t26 h hlt hw
 replace h1:digR.rd _ _ ((cs.drop 1).take (Tryz.prog.cellsOf 26)) v1:=h1
 rw [Tryz.ce26] at h1
 have e1:(cs.drop 1).take 32=digC v1:=h1
 obtain ⟨v2,h2,g2⟩:=reads_field Tryz.underlying110 (i:=2) rfl (reads_int Tryz.underlying3) h hlt hw
 replace h2:intR.rd _ _ ((cs.drop 33).take (Tryz.prog.cellsOf 3)) v2:=h2
 rw [Tryz.ce3] at h2
 have e2:(cs.drop 33).take 1= [.int .i64 v2]:=h2
 have e:=(List.drop_zero (l:=cs)).symm
 rw [seg_cons (m:=1) rfl e0] at e
 rw [seg_cons (m:=33) rfl e1] at e
 rw [seg_cons (m:=34) rfl e2] at e
 rw [List.drop_eq_nil_of_le (by rw [hlen];exact Nat.le_refl _)] at e
 refine ⟨{seq:=v0,dig:=v1,view:=v2}, ?_,trivial⟩
 refine ⟨by unfold StnI i64;dsimp only;omega,e.trans (by (try simp only [List.cons_append,List.nil_append,List.append_nil]);try rfl)⟩
theorem reads_Crw:ReadsR Tryz.prog 24 crewR (fun x=> ∀y∈x.nodes,-9223372036854775808≤y∧y≤9223372036854775807):=by
 intro H enc w base sp held fuel cs x h hlt hw
 have hlen:=trod_structLen Tryz.underlying24 h
 rw [Tryz.ce24] at hlen
 obtain ⟨v0,h0,g0⟩:=reads_field Tryz.underlying24 (i:=0) rfl (reads_int Tryz.underlying3) h hlt hw
 replace h0:intR.rd _ _ ((cs.drop 0).take (Tryz.prog.cellsOf 3)) v0:=h0
 rw [Tryz.ce3] at h0
 have e0:(cs.drop 0).take 1= [.int .i64 v0]:=h0
 obtain ⟨v1,h1,g1⟩:=reads_field Tryz.underlying24 (i:=1) rfl reads_t22 h hlt hw
 replace h1:(sliceR intR).rd _ _ ((cs.drop 1).take (Tryz.prog.cellsOf 22)) v1:=h1
 rw [Tryz.ce22] at h1
 obtain ⟨A1,c1,e1,k1⟩:=h1
 have e:=(List.drop_zero (l:=cs)).symm
 rw [seg_cons (m:=1) rfl e0] at e
 rw [seg_cons (m:=2) rfl e1] at e
 rw [List.drop_eq_nil_of_le (by rw [hlen];exact Nat.le_refl _)] at e
 refine ⟨{faults:=v0,nodes:=v1}, ?_,g1.1⟩
 refine ⟨by unfold CrwI i64;dsimp only;omega,_,_,e.trans (by (try simp only [List.cons_append,List.nil_append,List.append_nil]);try rfl),k1⟩
end Go.Proofs.YtmbpneaibmldfaaGreat
namespace Go.Proofs.YtmbpneaibmldfaaGreat
open Go.RowKit Go.Eng Go.Eng _root_.Go.Proofs.Tryz
set_option maxRecDepth 100000
variable {w0 w:World} {M0 Fz:Nat→Prop} {H:List It} {A:Option Addr} {c:Nat}
theorem kN_st {out:List UInt8} {n:Int} (hp:HP w0 M0 Fz w (itR 5 1 A out.length c (out.map bv)::H)) (hn:isNum n:=by first|assumption|(unfold isNum;omega)) (hl:out.length+(numE n).length≤1000000:=by (try simp only [List.length_append]);omega):Ret prog 138 #[.slice A out.length c, .int .i64 n] w (RwP 5 w0 M0 Fz w H (out++numE n)):=qNum_ok hp hn hl
theorem rm_st {p:Prop} (h:p:=by (try simp only [List.length_append]);omega):p:=h
set_option maxHeartbeats 4000000 in
theorem qStands_ok {out:List UInt8} {l:List Stn} {B:Option Addr} {d:Nat} (hp:HP w0 M0 Fz w (itR 5 1 A out.length c (out.map bv)::H)) (hl:GS standR Fz w B d l) (hok: ∀x∈l,standOk x) (hnl:isNum (l.length:Int)) (hlen:out.length+(listE standE l).length≤1000000):Ret prog 139 #[.slice A out.length c, .slice B l.length d] w (RwP 5 w0 M0 Fz w H (out++listE standE l)):=by
 simp only [listE,List.length_append] at hlen
 have mx:=hl.mx
 refine ret_of_wk func139 rfl ntmps139 leB_ ?_
 refine so ?_
 refine Cr (kN_st (n:=(l.length:Int)) hp) fun A1 c1 w1 hp F1=>so ?_
 refine Lp [0,1,5] (fun L' w' mes=> ∃(k:Nat),∃(A2:Option Addr),∃(c2:Nat),L'= [(0, .slice A2 (catE standE (out++numE (l.length:Int)) l k).length c2),(1, .slice B l.length d),(5,iv (k:Int))]∧k≤l.length∧Frz Fz Fz w w'∧HP w0 M0 Fz w' (itR 5 1 A2 (catE standE (out++numE (l.length:Int)) l k).length c2 ((catE standE (out++numE (l.length:Int)) l k).map bv)::H)∧l.length-k=mes) (l.length-0) ⟨0,A1,c1,by rw [catE_0];rfl,Nat.zero_le _,mv,by rw [catE_0];exact hp,rfl⟩ ?_
 rintro _ wr _ ⟨k,A2,c2,rfl,hk,F2,hp,rfl⟩ KL hKL
 refine so ?_
 refine Cd ?_ ?_<;>intro hc
 · have hk9 : k < l.length := by omega
   have hr:=catE_room (E:=standE) (o:=out++numE (l.length:Int)) stand0 hk9
   simp only [standE,digE,List.length_append] at hr
   obtain ⟨o1,_,o3⟩:=getD_ok hok stand0 hk9
   obtain ⟨ae,hA,hat,hI⟩:=standR_el (hl.to (F:=Fz) (w':=wr)) k hk9
   refine so ?_
   refine Cr (kN_st (n:=(l.getD k stand0).seq) hp) fun A3 c3 w3 hp F3=>so ?_
   refine wl_sliceA (by decide) ar26 rfl ?_
   have hd3:=hat.to (F:=Fz) (w':=w3)
   refine Ar (l2:=(l.getD k stand0).dig.l) hp (((hd3.at_.drop 1).take 32).bs rfl hd3.inS hd3.lt) rm_st (fun A5 c5 w5 hp C5=>so ?_) (hm:=by rw [Dig.h])
   refine Cr (kN_st (n:=(l.getD k stand0).view) hp) fun A6 c6 w6 hp F6=>so ?_
   have e:=catE_s (E:=standE) (o:=out++numE (l.length:Int)) stand0 hk9
   simp only [standE,digE,←List.append_assoc] at e
   refine Kl [0,1,5] hKL (l.length-(k+1)) ⟨k+1,A6,c6,by rw [e];rfl,hk9,mv,by rw [e];exact hp,rfl⟩ (by omega)
 obtain rfl:k=l.length:=by omega
 refine so ?_
 refine Pt ?_
 exact enR hp (by rw [catE_all,listE,List.append_assoc])
end Go.Proofs.YtmbpneaibmldfaaGreat
namespace Go.Proofs.YtmbpneaibmldfaaGreat
open Go.ChangeShapes Go.WideShapes Go.ChangeAt Go.RowKit Go.Eng Go.Eng _root_.Go.Proofs.Tryz
set_option maxRecDepth 100000
variable {w0 w:World} {M0 Fz:Nat→Prop} {H:List It} {A:Option Addr} {c:Nat}
theorem size_Rpl {H:Type} {enc:TypeId×Value→H} {W:World} {base:Nat} {v:Value} {d:DataW H} {x:Rpl} {S:Nat→Prop} (h: ∃p,Arg enc Tryz.prog W base 38 v d p) (hr:rplR.rd S W v.cells.toList x) (hb:blkD d≤1048576):sizeR x≤1000000000000:=by
 obtain ⟨p,h⟩:=h
 obtain ⟨fuel,hf⟩:=h.rd
 have h0:=blk_nodes hr hf
 have h1:=blk_own hr hf
 have h2:=blk_p hr hf
 have h3:=blk_q hr hf
 have h4:=blk_done hr hf
 have h5:=blk_batches hr hf
 have h6:=blk_state hr hf
 unfold sizeR
 dsimp only at h0 h1 h2 h3 h4 h5 h6
 omega
end Go.Proofs.YtmbpneaibmldfaaGreat
namespace Go.Proofs.YtmbpneaibmldfaaGreat
open Go.RowKit Go.Eng _root_.Go.Proofs.Tryz Go.Eng _root_.Go.Proofs.Tryz
set_option maxRecDepth 100000
variable {w0 w:World} {M0 Fz:Nat→Prop} {H:List It} {A:Option Addr} {c:Nat}
theorem rplMay_iff {r:Rpl}:RplMay r↔(0≤r.group∧r.group≤2)∧(0≤r.epoch∧r.epoch≤1048576)∧crewMay r.faults r.nodes∧r.state.length≤4096∧ImgMay r.img∧optOk r.left r.change:=by
 rw [imgMay_iff]
 unfold RplMay rplOk
 constructor
 ·rintro ⟨a, b, c, _, _, e, _, f, g⟩
  exact ⟨⟨b.1.1,b.2⟩,⟨c.1.1,c.2⟩,a,by omega,e,f⟩
 ·rintro ⟨b, c, a, g, e, f⟩
  have a1:=a.1
  have a2:=a.2.1
  have a3:=a.2.2.1
  refine ⟨a,⟨⟨b.1,by omega⟩,b.2⟩,⟨⟨c.1,by omega⟩,c.2⟩,⟨⟨a1,by omega⟩,a2⟩,⟨by omega,fun y hy=> ?_⟩,e,trivial,f,by omega⟩
  obtain ⟨i,hi,rfl⟩:=List.mem_iff_getElem.1 hy
  have:=a.2.2.2 i hi
  rw [List.getD_eq_getElem?_getD,List.getElem?_eq_getElem hi] at this
  unfold inodeOk isNum
  have h1:=this.1
  have h2:=this.2.1
  simp only [Option.getD_some] at h1 h2
  omega
theorem marksM_ok {w:World} {S:Nat→Prop} {l:List Mrk} {A:Option Addr} {c:Nat} {most:Int} (hl:GS markR S w A c l):Ret prog 91 #[.slice A l.length c, .int .i64 most] w (fun v w'=> ∃b:Bool,v= .bool b∧(b=true↔(l.length:Int)≤most∧∀y∈l,isNum y.seq)∧w'=w):=by
 have mx:=hl.mx
 refine ret_of_wk func91 rfl ntmps91 leB_ ?_
 refine so ?_
 refine Lp [0,1,5] (fun L' w' mes=> ∃k:Nat,L'= [(0, .slice A l.length c),(1,iv most),(5,iv (k:Int))]∧k≤l.length∧(∀i,i<k→isNum (l.getD i mark0).seq)∧w=w'∧l.length-k=mes) (l.length-0) ⟨0,rfl,Nat.zero_le _,fun i h=>absurd h (Nat.not_lt_zero _),rfl,rfl⟩ ?_
 rintro _ _ _ ⟨k,rfl,hk,ha,rfl,rfl⟩ KL hKL
 refine so ?_
 refine Cd ?_ ?_<;>intro hc
 ·have hk9 : k < l.length := by omega
  obtain ⟨ae,hA,hat,hI⟩:=markR_el hl k hk9
  refine so ?_
  refine Cs n22_ok (so ?_)
  refine Cd ?_ ?_<;>intro h1<;>refine so ?_
  ·refine Pt ?_
   refine ⟨_,rfl,_,rfl,⟨fun h=>(by cases h),fun h=>absurd ?_ h1⟩,rfl⟩
   rw [getD_get hk9]
   exact h.2 _ (List.getElem_mem hk9)
  ·refine Kl [0, 1, 5] hKL (l.length - (k + 1)) ⟨k + 1, rfl, hk9, fun i hi => ?_, rfl, rfl⟩ (by omega)
   by_cases e:i=k
   ·subst e
    exact Classical.not_not.1 h1
   ·exact ha i (by omega)
 ·obtain rfl : k = l.length := by omega
  refine so ?_
  refine Pt ?_
  refine ⟨_,rfl,_,rfl,⟨fun h=>⟨of_decide_eq_true h,fun y hy=> ?_⟩,fun h=>decide_eq_true h.1⟩,rfl⟩
  obtain ⟨i,hi,rfl⟩:=List.mem_iff_getElem.1 hy
  rw [←getD_get (z:=mark0) hi]
  exact ha i hi
theorem standsM_ok {w:World} {S:Nat→Prop} {l:List Stn} {A:Option Addr} {c:Nat} {most:Int} (hl:GS standR S w A c l):Ret prog 92 #[.slice A l.length c, .int .i64 most] w (fun v w'=> ∃b:Bool,v= .bool b∧(b=true↔(l.length:Int)≤most∧∀y∈l,istandOk y)∧w'=w):=by
 have mx:=hl.mx
 have hio: ∀x:Stn,istandOk x↔isNum x.seq∧(0≤x.view∧x.view≤1048576):=fun x=>⟨fun h=>⟨h.1,h.2.2.1.1,h.2.2.2⟩,fun h=>⟨h.1,trivial,⟨h.2.1,by omega⟩,h.2.2⟩⟩
 refine ret_of_wk func92 rfl ntmps92 leB_ ?_
 refine so ?_
 refine Lp [0,1,5] (fun L' w' mes=> ∃k:Nat,L'= [(0, .slice A l.length c),(1,iv most),(5,iv (k:Int))]∧k≤l.length∧(∀i,i<k→istandOk (l.getD i stand0))∧w=w'∧l.length-k=mes) (l.length-0) ⟨0,rfl,Nat.zero_le _,fun i h=>absurd h (Nat.not_lt_zero _),rfl,rfl⟩ ?_
 rintro _ _ _ ⟨k,rfl,hk,ha,rfl,rfl⟩ KL hKL
 refine so ?_
 refine Cd ?_ ?_<;>intro hc
 ·have hk9 : k < l.length := by omega
  obtain ⟨ae,hA,hat,hI⟩:=standR_el hl k hk9
  have hno: ¬istandOk (l.getD k stand0)→¬((l.length:Int)≤most∧∀y∈l,istandOk y):=fun hn h=>hn (by rw [getD_get hk9];exact h.2 _ (List.getElem_mem hk9))
  refine so ?_
  refine Cs n22_ok (so ?_)
  refine Gs 19 ?_ ?_<;>intro h1<;>refine so ?_
  ·refine aT (so ?_)
   refine Pt ?_
   exact ⟨_,rfl,_,rfl,⟨fun h=>(by cases h),fun h=>absurd h (hno (fun q=>h1 ((hio _).1 q).1))⟩,rfl⟩
  ·refine Cs w22_ok (so ?_)
   refine Cd ?_ ?_<;>intro h2<;>refine so ?_
   ·refine Pt ?_
    exact ⟨_,rfl,_,rfl,⟨fun h=>(by cases h),fun h=>absurd h (hno (fun q=>h2 ((hio _).1 q).2))⟩,rfl⟩
   ·refine Kl [0, 1, 5] hKL (l.length - (k + 1)) ⟨k + 1, rfl, hk9, fun i hi => ?_, rfl, rfl⟩ (by omega)
    by_cases e:i=k
    ·subst e
     exact (hio _).2 ⟨Classical.not_not.1 h1,Classical.not_not.1 h2⟩
    ·exact ha i (by omega)
 ·obtain rfl : k = l.length := by omega
  refine so ?_
  refine Pt ?_
  refine ⟨_,rfl,_,rfl,⟨fun h=>⟨of_decide_eq_true h,fun y hy=> ?_⟩,fun h=>decide_eq_true h.1⟩,rfl⟩
  obtain ⟨i,hi,rfl⟩:=List.mem_iff_getElem.1 hy
  rw [←getD_get (z:=stand0) hi]
  exact ha i hi
theorem kYes_ok {w0 w:World} {M0 Fz:Nat→Prop} {H:List It} {A:Option Addr} {c:Nat} {out:List UInt8} {x:Bool} (hp:HP w0 M0 Fz w (itR 5 1 A out.length c (out.map bv)::H)) (hl:out.length+8≤1000000):Ret prog 37 #[.slice A out.length c, .bool x] w (RwP 5 w0 M0 Fz w H (out++yesE x)):=by
 have hy:=yesE_len x
 refine ret_of_wk func37 rfl ntmps37 leB_ ?_
 refine so ?_
 cases x
 ·refine aF (so ?_)
  refine Cr (kNum_ok (n:=0) hp (by unfold isNum;decide) (by have:(numE 0).length≤2:=hy;omega)) fun A1 c1 w1 hp F1=>so ?_
  refine Pt ?_
  exact enR hp rfl
 ·refine aT (so ?_)
  refine Cr (kNum_ok (n:=1) hp (by unfold isNum;decide) (by have:(numE 1).length≤2:=hy;omega)) fun A1 c1 w1 hp F1=>so ?_
  refine Pt ?_
  exact enR hp rfl
set_option maxHeartbeats 4000000 in
theorem kMarks_ok {w0 w:World} {M0 Fz:Nat→Prop} {H:List It} {A:Option Addr} {c:Nat} {out:List UInt8} {l:List Mrk} {B:Option Addr} {d:Nat} (hp:HP w0 M0 Fz w (itR 5 1 A out.length c (out.map bv)::H)) (hl:GS markR Fz w B d l) (hok: ∀x∈l,isNum x.seq) (hnl:isNum (l.length:Int)) (hlen:out.length+(listE markE l).length≤1000000):Ret prog 38 #[.slice A out.length c, .slice B l.length d] w (RwP 5 w0 M0 Fz w H (out++listE markE l)):=by
 simp only [listE,List.length_append] at hlen
 have mx:=hl.mx
 refine ret_of_wk func38 rfl ntmps38 leB_ ?_
 refine so ?_
 refine Cr (kNum_ok (n:=(l.length:Int)) hp) fun A1 c1 w1 hp F1=>so ?_
 refine Lp [0,1,5] (fun L' w' mes=> ∃(k:Nat),∃(A2:Option Addr),∃(c2:Nat),L'= [(0, .slice A2 (catE markE (out++numE (l.length:Int)) l k).length c2),(1, .slice B l.length d),(5,iv (k:Int))]∧k≤l.length∧Frz Fz Fz w w'∧HP w0 M0 Fz w' (itR 5 1 A2 (catE markE (out++numE (l.length:Int)) l k).length c2 ((catE markE (out++numE (l.length:Int)) l k).map bv)::H)∧l.length-k=mes) (l.length-0) ⟨0,A1,c1,by rw [catE_0];rfl,Nat.zero_le _,mv,by rw [catE_0];exact hp,rfl⟩ ?_
 rintro _ wr _ ⟨k,A2,c2,rfl,hk,F2,hp,rfl⟩ KL hKL
 refine so ?_
 refine Cd ?_ ?_<;>intro hc
 ·have hk9 : k < l.length := by omega
  have hr:=catE_room (E:=markE) (o:=out++numE (l.length:Int)) mark0 hk9
  simp only [markE,digE,List.length_append] at hr
  have o1:=getD_ok hok mark0 hk9
  obtain ⟨ae,hA,hat,hI⟩:=markR_el (hl.to (F:=Fz) (w':=wr)) k hk9
  refine so ?_
  refine Cr (kNum_ok (n:=(l.getD k mark0).seq) hp) fun A3 c3 w3 hp F3=>so ?_
  refine wl_sliceA (by decide) ar26 rfl ?_
  have hd3:=hat.to (F:=Fz) (w':=w3)
  refine Ar (l2:=(l.getD k mark0).dig.l) hp (((hd3.at_.drop 1).take 32).bs rfl hd3.inS hd3.lt) rmK (fun A5 c5 w5 hp C5=>so ?_) (hm:=by rw [Dig.h])
  have e:=catE_s (E:=markE) (o:=out++numE (l.length:Int)) mark0 hk9
  simp only [markE,digE,←List.append_assoc] at e
  refine Kl [0,1,5] hKL (l.length-(k+1)) ⟨k+1,A5,c5,by rw [e];rfl,hk9,mv,by rw [e];exact hp,rfl⟩ (by omega)
 obtain rfl:k=l.length:=by omega
 refine so ?_
 refine Pt ?_
 exact enR hp (by rw [catE_all,listE,List.append_assoc])
set_option maxHeartbeats 4000000 in
theorem kStands_ok {w0 w:World} {M0 Fz:Nat→Prop} {H:List It} {A:Option Addr} {c:Nat} {out:List UInt8} {l:List Stn} {B:Option Addr} {d:Nat} (hp:HP w0 M0 Fz w (itR 5 1 A out.length c (out.map bv)::H)) (hl:GS standR Fz w B d l) (hok: ∀x∈l,istandOk x) (hnl:isNum (l.length:Int)) (hlen:out.length+(listE istandE l).length≤1000000):Ret prog 39 #[.slice A out.length c, .slice B l.length d] w (RwP 5 w0 M0 Fz w H (out++listE istandE l)):=by
 simp only [listE,List.length_append] at hlen
 have mx:=hl.mx
 refine ret_of_wk func39 rfl ntmps39 leB_ ?_
 refine so ?_
 refine Cr (kNum_ok (n:=(l.length:Int)) hp) fun A1 c1 w1 hp F1=>so ?_
 refine Lp [0,1,5] (fun L' w' mes=> ∃(k:Nat),∃(A2:Option Addr),∃(c2:Nat),L'= [(0, .slice A2 (catE istandE (out++numE (l.length:Int)) l k).length c2),(1, .slice B l.length d),(5,iv (k:Int))]∧k≤l.length∧Frz Fz Fz w w'∧HP w0 M0 Fz w' (itR 5 1 A2 (catE istandE (out++numE (l.length:Int)) l k).length c2 ((catE istandE (out++numE (l.length:Int)) l k).map bv)::H)∧l.length-k=mes) (l.length-0) ⟨0,A1,c1,by rw [catE_0];rfl,Nat.zero_le _,mv,by rw [catE_0];exact hp,rfl⟩ ?_
 rintro _ wr _ ⟨k,A2,c2,rfl,hk,F2,hp,rfl⟩ KL hKL
 refine so ?_
 refine Cd ?_ ?_<;>intro hc
 ·have hk9 : k < l.length := by omega
  have hr:=catE_room (E:=istandE) (o:=out++numE (l.length:Int)) stand0 hk9
  simp only [istandE,standE,digE,List.length_append] at hr
  obtain ⟨o1,_,o3,_⟩:=getD_ok hok stand0 hk9
  obtain ⟨ae,hA,hat,hI⟩:=standR_el (hl.to (F:=Fz) (w':=wr)) k hk9
  refine so ?_
  refine Cr (kNum_ok (n:=(l.getD k stand0).seq) hp) fun A3 c3 w3 hp F3=>so ?_
  refine wl_sliceA (by decide) ar26 rfl ?_
  have hd3:=hat.to (F:=Fz) (w':=w3)
  refine Ar (l2:=(l.getD k stand0).dig.l) hp (((hd3.at_.drop 1).take 32).bs rfl hd3.inS hd3.lt) rmK (fun A5 c5 w5 hp C5=>so ?_) (hm:=by rw [Dig.h])
  refine Cr (kNum_ok (n:=(l.getD k stand0).view) hp) fun A6 c6 w6 hp F6=>so ?_
  have e:=catE_s (E:=istandE) (o:=out++numE (l.length:Int)) stand0 hk9
  simp only [istandE,standE,digE,←List.append_assoc] at e
  refine Kl [0,1,5] hKL (l.length-(k+1)) ⟨k+1,A6,c6,by rw [e];rfl,hk9,mv,by rw [e];exact hp,rfl⟩ (by omega)
 obtain rfl:k=l.length:=by omega
 refine so ?_
 refine Pt ?_
 exact enR hp (by rw [catE_all,listE,List.append_assoc])
end Go.Proofs.YtmbpneaibmldfaaGreat
