/- What each of these functions computes, for every argument that its theorem names; a part of what the proof of ImagePacksUpto stands on. -/
import Derived.Test.YtmbpneaibmldfaaGreatEaa
import Derived.Test.YtmbpneaibmldfaaGreatAaa
import Derived.Test.YtmbpneaibmldfaaGreatAab
import Derived.Test.YtmbpneaibmldfaaGreatAac
import Derived.Test.YtmbpneaibmldfaaGreatAad
import Derived.Test.YtmbpneaibmldfaaGreatAaf
import Derived.Test.YtmbpneaibmldfaaGreatAag
import Derived.Test.YtmbpneaibmldfaaGreatAai
import Derived.Test.YtmbpneaibmldfaaGreatAaj
import Derived.Test.YtmbpneaibmldfaaGreatAak
import Derived.Test.YtmbpneaibmldfaaGreatAal
import Derived.Test.YtmbpneaibmldfaaGreatAap
import Derived.Test.YtmbpneaibmldfaaGreatAaq
import Derived.Test.YtmbpneaibmldfaaGreatAas
import Derived.Test.YtmbpneaibmldfaaGreatAat
import Derived.Test.YtmbpneaibmldfaaGreatAax
import Derived.Test.YtmbpneaibmldfaaGreatAbb
import Derived.Test.YtmbpneaibmldfaaGreatAbc
import Derived.Test.YtmbpneaibmldfaaGreatEab
import Derived.Test.YtmbpneaibmldfaaGreatEac
import Derived.Test.YtmbpneaibmldfaaGreatEad
import Derived.Test.YtmbpneaibmldfaaGreatEae
namespace Go.Proofs.YtmbpneaibmldfaaGreat
open Go.ChangeShapes Go.WideShapes Go.ChangeAt Go.RowKit Go.Eng Go.Eng _root_.Go.Proofs.Tryz
set_option maxRecDepth 100000
variable {w0 w:World} {M0 Fz:Nat→Prop} {H:List It} {A:Option Addr} {c:Nat}
theorem reads_t84 : ReadsR Tryz.prog 84 (sliceR wishR) (fun l => l.length * 112 ≤ 140737488355328) := fun H enc w base sp held fuel cs x h hl hw => by
 obtain ⟨v,h1,h2⟩:=reads_slice (size:=10) (bytes:=112) Tryz.underlying84 rfl (by decide) Tryz.ce112 Tryz.by112 (by decide) reads_Wsh H enc w base sp held fuel cs x h hl hw
 exact ⟨v,h1,h2.2⟩
theorem reads_t29 : ReadsR Tryz.prog 29 (sliceR markR) (fun l => l.length * 40 ≤ 140737488355328) := fun H enc w base sp held fuel cs x h hl hw => by
 obtain ⟨v,h1,h2⟩:=reads_slice (size:=33) (bytes:=40) Tryz.underlying29 rfl (by decide) Tryz.ce28 Tryz.by28 (by decide) reads_Mrk H enc w base sp held fuel cs x h hl hw
 exact ⟨v,h1,h2.2⟩
theorem reads_t30 : ReadsR Tryz.prog 30 (sliceR standR) (fun l => l.length * 48 ≤ 140737488355328) := fun H enc w base sp held fuel cs x h hl hw => by
 obtain ⟨v,h1,h2⟩:=reads_slice (size:=34) (bytes:=48) Tryz.underlying30 rfl (by decide) Tryz.ce110 Tryz.by110 (by decide) reads_Stn H enc w base sp held fuel cs x h hl hw
 exact ⟨v,h1,h2.2⟩
theorem reads_Chn:ReadsR Tryz.prog 35 changeR (fun _=>True):=by
  intro H enc w base sp held fuel cs x h hlt hw
  have hlen:=trod_structLen Tryz.underlying35 h
  rw [Tryz.ce35] at hlen
  obtain ⟨v0,h0,g0⟩:=reads_field Tryz.underlying35 (i:=0) rfl (reads_int Tryz.underlying3) h hlt hw
  replace h0:intR.rd _ _ ((cs.drop 0).take (Tryz.prog.cellsOf 3)) v0:=h0
  rw [Tryz.ce3] at h0
  have e0:(cs.drop 0).take 1= [.int .i64 v0]:=h0
  obtain ⟨v1,h1,g1⟩:=reads_field Tryz.underlying35 (i:=1) rfl (reads_int Tryz.underlying3) h hlt hw
  replace h1:intR.rd _ _ ((cs.drop 1).take (Tryz.prog.cellsOf 3)) v1:=h1
  rw [Tryz.ce3] at h1
  have e1:(cs.drop 1).take 1= [.int .i64 v1]:=h1
  obtain ⟨v2,h2,g2⟩:=reads_field Tryz.underlying35 (i:=2) rfl (reads_int Tryz.underlying3) h hlt hw
  replace h2:intR.rd _ _ ((cs.drop 2).take (Tryz.prog.cellsOf 3)) v2:=h2
  rw [Tryz.ce3] at h2
  have e2:(cs.drop 2).take 1= [.int .i64 v2]:=h2
  obtain ⟨v3,h3,g3⟩:=reads_field Tryz.underlying35 (i:=3) rfl reads_t29 h hlt hw
  replace h3:(sliceR markR).rd _ _ ((cs.drop 3).take (Tryz.prog.cellsOf 29)) v3:=h3
  rw [Tryz.ce29] at h3
  obtain ⟨A3,c3,e3,k3⟩:=h3
  obtain ⟨v4,h4,g4⟩:=reads_field Tryz.underlying35 (i:=4) rfl reads_t30 h hlt hw
  replace h4:(sliceR standR).rd _ _ ((cs.drop 4).take (Tryz.prog.cellsOf 30)) v4:=h4
  rw [Tryz.ce30] at h4
  obtain ⟨A4,c4,e4,k4⟩:=h4
  obtain ⟨v5,h5,g5⟩:=reads_field Tryz.underlying35 (i:=5) rfl reads_t30 h hlt hw
  replace h5:(sliceR standR).rd _ _ ((cs.drop 5).take (Tryz.prog.cellsOf 30)) v5:=h5
  rw [Tryz.ce30] at h5
  obtain ⟨A5,c5,e5,k5⟩:=h5
  have e:=(List.drop_zero (l:=cs)).symm
  rw [seg_cons (m:=1) rfl e0] at e
  rw [seg_cons (m:=2) rfl e1] at e
  rw [seg_cons (m:=3) rfl e2] at e
  rw [seg_cons (m:=4) rfl e3] at e
  rw [seg_cons (m:=5) rfl e4] at e
  rw [seg_cons (m:=6) rfl e5] at e
  rw [List.drop_eq_nil_of_le (by rw [hlen];exact Nat.le_refl _)] at e
  refine ⟨{node:=v0,view:=v1,low:=v2,marks:=v3,p:=v4,q:=v5}, ?_,trivial⟩
  refine ⟨by unfold ChnI i64;dsimp only;omega,_,_,_,_,_,_,e.trans (by (try simp only [List.cons_append,List.nil_append,List.append_nil]);try rfl),k3,k4,k5⟩
theorem reads_Bat:ReadsR Tryz.prog 89 batR (fun _=>True):=by
 intro H enc w base sp held fuel cs x h hlt hw
 have hlen:=trod_structLen Tryz.underlying89 h
 rw [Tryz.ce89] at hlen
 obtain ⟨v0,h0,g0⟩:=reads_field Tryz.underlying89 (i:=0) rfl reads_t26 h hlt hw
 replace h0:digR.rd _ _ ((cs.drop 0).take (Tryz.prog.cellsOf 26)) v0:=h0
 rw [Tryz.ce26] at h0
 have e0:(cs.drop 0).take 32=digC v0:=h0
 obtain ⟨v1,h1,g1⟩:=reads_field Tryz.underlying89 (i:=1) rfl reads_t84 h hlt hw
 replace h1:(sliceR wishR).rd _ _ ((cs.drop 32).take (Tryz.prog.cellsOf 84)) v1:=h1
 rw [Tryz.ce84] at h1
 obtain ⟨A1,c1,e1,k1⟩:=h1
 have e:=(List.drop_zero (l:=cs)).symm
 rw [seg_cons (m:=32) rfl e0] at e
 rw [seg_cons (m:=33) rfl e1] at e
 rw [List.drop_eq_nil_of_le (by rw [hlen];exact Nat.le_refl _)] at e
 refine ⟨{dig:=v0,wishes:=v1}, ?_,trivial⟩
 refine ⟨_,_,e.trans (by (try simp only [List.append_nil]);try rfl),k1⟩
theorem reads_t31 : ReadsR Tryz.prog 31 (sliceR batR) (fun l => l.length * 56 ≤ 140737488355328) := fun H enc w base sp held fuel cs x h hl hw => by
 obtain ⟨v,h1,h2⟩:=reads_slice (size:=33) (bytes:=56) Tryz.underlying31 rfl (by decide) Tryz.ce89 Tryz.by89 (by decide) reads_Bat H enc w base sp held fuel cs x h hl hw
 exact ⟨v,h1,h2.2⟩
theorem reads_Img:ReadsR Tryz.prog 33 imgR (fun x=>x.batches.length*56≤140737488355328):=by
  intro H enc w base sp held fuel cs x h hlt hw
  have hlen:=trod_structLen Tryz.underlying33 h
  rw [Tryz.ce33] at hlen
  obtain ⟨v0,h0,g0⟩:=reads_field Tryz.underlying33 (i:=0) rfl (reads_int Tryz.underlying3) h hlt hw
  replace h0:intR.rd _ _ ((cs.drop 0).take (Tryz.prog.cellsOf 3)) v0:=h0
  rw [Tryz.ce3] at h0
  have e0:(cs.drop 0).take 1= [.int .i64 v0]:=h0
  obtain ⟨v1,h1,g1⟩:=reads_field Tryz.underlying33 (i:=1) rfl (reads_bool Tryz.underlying4) h hlt hw
  replace h1:boolR.rd _ _ ((cs.drop 1).take (Tryz.prog.cellsOf 4)) v1:=h1
  rw [Tryz.ce4] at h1
  have e1:(cs.drop 1).take 1= [.bool v1]:=h1
  obtain ⟨v2,h2,g2⟩:=reads_field Tryz.underlying33 (i:=2) rfl reads_Mrk h hlt hw
  replace h2:markR.rd _ _ ((cs.drop 2).take (Tryz.prog.cellsOf 28)) v2:=h2
  rw [Tryz.ce28] at h2
  obtain ⟨I2,e2⟩:=h2
  unfold MrkI i64 at I2
  obtain ⟨v3,h3,g3⟩:=reads_field Tryz.underlying33 (i:=3) rfl reads_t29 h hlt hw
  replace h3:(sliceR markR).rd _ _ ((cs.drop 35).take (Tryz.prog.cellsOf 29)) v3:=h3
  rw [Tryz.ce29] at h3
  obtain ⟨A3,c3,e3,k3⟩:=h3
  obtain ⟨v4,h4,g4⟩:=reads_field Tryz.underlying33 (i:=4) rfl reads_t30 h hlt hw
  replace h4:(sliceR standR).rd _ _ ((cs.drop 36).take (Tryz.prog.cellsOf 30)) v4:=h4
  rw [Tryz.ce30] at h4
  obtain ⟨A4,c4,e4,k4⟩:=h4
  obtain ⟨v5,h5,g5⟩:=reads_field Tryz.underlying33 (i:=5) rfl reads_t30 h hlt hw
  replace h5:(sliceR standR).rd _ _ ((cs.drop 37).take (Tryz.prog.cellsOf 30)) v5:=h5
  rw [Tryz.ce30] at h5
  obtain ⟨A5,c5,e5,k5⟩:=h5
  obtain ⟨v6,h6,g6⟩:=reads_field Tryz.underlying33 (i:=6) rfl (reads_int Tryz.underlying3) h hlt hw
  replace h6:intR.rd _ _ ((cs.drop 38).take (Tryz.prog.cellsOf 3)) v6:=h6
  rw [Tryz.ce3] at h6
  have e6:(cs.drop 38).take 1= [.int .i64 v6]:=h6
  obtain ⟨v7,h7,g7⟩:=reads_field Tryz.underlying33 (i:=7) rfl reads_t29 h hlt hw
  replace h7:(sliceR markR).rd _ _ ((cs.drop 39).take (Tryz.prog.cellsOf 29)) v7:=h7
  rw [Tryz.ce29] at h7
  obtain ⟨A7,c7,e7,k7⟩:=h7
  obtain ⟨v8,h8,g8⟩:=reads_field Tryz.underlying33 (i:=8) rfl (reads_bool Tryz.underlying4) h hlt hw
  replace h8:boolR.rd _ _ ((cs.drop 40).take (Tryz.prog.cellsOf 4)) v8:=h8
  rw [Tryz.ce4] at h8
  have e8:(cs.drop 40).take 1= [.bool v8]:=h8
  obtain ⟨v9,h9,g9⟩:=reads_field Tryz.underlying33 (i:=9) rfl reads_t31 h hlt hw
  replace h9:(sliceR batR).rd _ _ ((cs.drop 41).take (Tryz.prog.cellsOf 31)) v9:=h9
  rw [Tryz.ce31] at h9
  obtain ⟨A9,c9,e9,k9⟩:=h9
  have e:=(List.drop_zero (l:=cs)).symm
  rw [seg_cons (m:=1) rfl e0] at e
  rw [seg_cons (m:=2) rfl e1] at e
  rw [seg_cons (m:=35) rfl e2] at e
  rw [seg_cons (m:=36) rfl e3] at e
  rw [seg_cons (m:=37) rfl e4] at e
  rw [seg_cons (m:=38) rfl e5] at e
  rw [seg_cons (m:=39) rfl e6] at e
  rw [seg_cons (m:=40) rfl e7] at e
  rw [seg_cons (m:=41) rfl e8] at e
  rw [seg_cons (m:=42) rfl e9] at e
  rw [List.drop_eq_nil_of_le (by rw [hlen];exact Nat.le_refl _)] at e
  refine ⟨{view:=v0,active:=v1,low:=v2,own:=v3,p:=v4,q:=v5,ran:=v6,done:=v7,ended:=v8,batches:=v9}, ?_,g9⟩
  refine ⟨by unfold ImgI i64;dsimp only;omega,_,_,_,_,_,_,_,_,_,_,e.trans (by (try simp only [List.cons_append,List.nil_append,List.append_nil]);try rfl),k3,k4,k5,k7,k9⟩
theorem reads_Rpl:ReadsR Tryz.prog 38 rplR (fun x=>x.img.batches.length*56≤140737488355328∧∀y∈x.nodes,-9223372036854775808≤y∧y≤9223372036854775807):=by
  intro H enc w base sp held fuel cs x h hlt hw
  have hlen:=trod_structLen Tryz.underlying38 h
  rw [Tryz.ce38] at hlen
  obtain ⟨v0,h0,g0⟩:=reads_field Tryz.underlying38 (i:=0) rfl (reads_int Tryz.underlying3) h hlt hw
  replace h0:intR.rd _ _ ((cs.drop 0).take (Tryz.prog.cellsOf 3)) v0:=h0
  rw [Tryz.ce3] at h0
  have e0:(cs.drop 0).take 1= [.int .i64 v0]:=h0
  obtain ⟨v1,h1,g1⟩:=reads_field Tryz.underlying38 (i:=1) rfl (reads_int Tryz.underlying3) h hlt hw
  replace h1:intR.rd _ _ ((cs.drop 1).take (Tryz.prog.cellsOf 3)) v1:=h1
  rw [Tryz.ce3] at h1
  have e1:(cs.drop 1).take 1= [.int .i64 v1]:=h1
  obtain ⟨v2,h2,g2⟩:=reads_field Tryz.underlying38 (i:=2) rfl reads_Crw h hlt hw
  replace h2:crewR.rd _ _ ((cs.drop 2).take (Tryz.prog.cellsOf 24)) v2:=h2
  rw [Tryz.ce24] at h2
  obtain ⟨I2,A2_0,c2_0,e2,k2_0⟩:=h2
  unfold CrwI i64 at I2
  obtain ⟨v3,h3,g3⟩:=reads_field Tryz.underlying38 (i:=3) rfl reads_Img h hlt hw
  replace h3:imgR.rd _ _ ((cs.drop 4).take (Tryz.prog.cellsOf 33)) v3:=h3
  rw [Tryz.ce33] at h3
  obtain ⟨I3,A3_0,c3_0,A3_1,c3_1,A3_2,c3_2,A3_3,c3_3,A3_4,c3_4,e3,k3_0,k3_1,k3_2,k3_3,k3_4⟩:=h3
  unfold ImgI i64 at I3
  obtain ⟨v4,h4,g4⟩:=reads_field Tryz.underlying38 (i:=4) rfl (reads_bool Tryz.underlying4) h hlt hw
  replace h4:boolR.rd _ _ ((cs.drop 46).take (Tryz.prog.cellsOf 4)) v4:=h4
  rw [Tryz.ce4] at h4
  have e4:(cs.drop 46).take 1= [.bool v4]:=h4
  obtain ⟨v5,h5,g5⟩:=reads_field Tryz.underlying38 (i:=5) rfl reads_Chn h hlt hw
  replace h5:changeR.rd _ _ ((cs.drop 47).take (Tryz.prog.cellsOf 35)) v5:=h5
  rw [Tryz.ce35] at h5
  obtain ⟨I5,A5_0,c5_0,A5_1,c5_1,A5_2,c5_2,e5,k5_0,k5_1,k5_2⟩:=h5
  unfold ChnI i64 at I5
  obtain ⟨v6,h6,g6⟩:=reads_field Tryz.underlying38 (i:=6) rfl reads_t36 h hlt hw
  replace h6:(sliceR byteR).rd _ _ ((cs.drop 53).take (Tryz.prog.cellsOf 36)) v6:=h6
  rw [Tryz.ce36] at h6
  obtain ⟨A6,c6,e6,k6⟩:=h6
  have e:=(List.drop_zero (l:=cs)).symm
  rw [seg_cons (m:=1) rfl e0] at e
  rw [seg_cons (m:=2) rfl e1] at e
  rw [seg_cons (m:=4) rfl e2] at e
  rw [seg_cons (m:=46) rfl e3] at e
  rw [seg_cons (m:=47) rfl e4] at e
  rw [seg_cons (m:=53) rfl e5] at e
  rw [seg_cons (m:=54) rfl e6] at e
  rw [List.drop_eq_nil_of_le (by rw [hlen];exact Nat.le_refl _)] at e
  refine ⟨{group:=v0,epoch:=v1,faults:=v2.faults,nodes:=v2.nodes,img:=v3,left:=v4,change:=v5,state:=v6}, ?_,⟨g3,g2⟩⟩
  refine ⟨by unfold RplI i64;dsimp only;omega,_,_,_,_,_,_,_,_,_,_,_,_,_,_,_,_,_,_,_,_,e.trans (by (try simp only [List.cons_append,List.nil_append,List.append_nil,List.append_assoc]);try rfl),k2_0,k3_0,k3_1,k3_2,k3_3,k3_4,k5_0,k5_1,k5_2,k6⟩
end Go.Proofs.YtmbpneaibmldfaaGreat
namespace Go.Proofs.YtmbpneaibmldfaaGreat
open Go.RowKit Go.Eng Go.Eng _root_.Go.Proofs.Tryz
set_option maxRecDepth 100000
variable {w0 w:World} {M0 Fz:Nat→Prop} {H:List It} {A:Option Addr} {c:Nat}
theorem kN_ch {out:List UInt8} {n:Int} (hp:HP w0 M0 Fz w (itR 5 1 A out.length c (out.map bv)::H)) (hn:isNum n:=by first|assumption|(unfold isNum;omega)) (hl:out.length+(numE n).length≤1000000:=by (try simp only [List.length_append]);omega):Ret prog 138 #[.slice A out.length c, .int .i64 n] w (RwP 5 w0 M0 Fz w H (out++numE n)):=qNum_ok hp hn hl
theorem rm_ch {p:Prop} (h:p:=by (try simp only [List.length_append]);omega):p:=h
set_option maxHeartbeats 4000000 in
theorem qChange_ok {out:List UInt8} {csx:List Value} {x:Chn} (hp:HP w0 M0 Fz w (itR 5 1 A out.length c (out.map bv)::H)) (hx:changeR.rd Fz w csx x) (hok:changeOk x) (hlen:out.length+(changeE x).length≤1000000):Ret prog 88 #[.slice A out.length c, .agg csx.toArray] w (RwP 5 w0 M0 Fz w H (out++changeE x)):=by
 obtain ⟨hI,B0,d0,B1,d1,B2,d2,rfl,h0,h1,h2⟩:=hx
 have mx:=h0.mx
 obtain ⟨k0,k1,k2,⟨hm1,hm2⟩,⟨hp1,hp2⟩,hq1,hq2⟩:=hok
 have n0:=len_is hm1 (by decide)
 simp only [changeE,List.length_append] at hlen
 have hlm:(listE markE x.marks).length=(numE (x.marks.length:Int)).length+(flatE markE x.marks).length:=by simp only [listE,List.length_append]
 refine ret_of_wk func88 rfl ntmps88 leB_ ?_
 refine so ?_
 refine Bx hp (h:=fun gs w1 hp E1=> ?_)
 replace hp:=hp.up 1 rfl
 refine so ?_
 refine Cr (kN_ch (n:=x.node) hp) fun A1 c1 w2 hp F3=>so ?_
 refine Cr (kN_ch (n:=x.view) hp) fun A1 c1 w2 hp F3=>so ?_
 refine Cr (kN_ch (n:=x.low) hp) fun A1 c1 w2 hp F3=>so ?_
 refine Cr (kN_ch (n:=(x.marks.length:Int)) hp) fun A1 c1 w2 hp F3=>so ?_
 refine Lp [0,3,5] (fun L' w' mes=> ∃(k:Nat),∃(A2:Option Addr),∃(c2:Nat),L'= [(0, .slice A2 (catE markE (out++numE x.node++numE x.view++numE x.low++numE (x.marks.length:Int)) x.marks k).length c2),(3,pt gs 0),(5,iv (k:Int))]∧k≤x.marks.length∧Frz Fz Fz w1 w'∧HP w0 M0 Fz w' (itR 5 1 A2 (catE markE (out++numE x.node++numE x.view++numE x.low++numE (x.marks.length:Int)) x.marks k).length c2 ((catE markE (out++numE x.node++numE x.view++numE x.low++numE (x.marks.length:Int)) x.marks k).map bv)::itB gs 35 _::H)∧x.marks.length-k=mes) (x.marks.length-0) ⟨0,A1,c1,by rw [catE_0];rfl,Nat.zero_le _,mv,by rw [catE_0];exact hp,rfl⟩ ?_
 rintro _ wr _ ⟨k,A2,c2,rfl,hk,F4,hp,rfl⟩ KL hKL
 refine so ?_
 refine Cd ?_ ?_<;>intro hc
 · have hk9 : k < x.marks.length := by omega
   have hr:=catE_room (E:=markE) (o:=out++numE x.node++numE x.view++numE x.low++numE (x.marks.length:Int)) mark0 hk9
   simp only [markE,digE,List.length_append] at hr
   obtain ⟨o1,_⟩:=getD_ok hm2 mark0 hk9
   obtain ⟨ae,hA,hae,hIe⟩:=markR_el (h0.to (F:=Fz) (w':=wr)) k hk9
   refine so ?_
   refine Cr (kN_ch (n:=(x.marks.getD k mark0).seq) hp) fun A3 c3 w3 hp F3=>so ?_
   refine wl_sliceA (by decide) ar26 rfl ?_
   have hd3:=hae.to (F:=Fz) (w':=w3)
   refine Ar (l2:=(x.marks.getD k mark0).dig.l) hp (((hd3.at_.drop 1).take 32).bs rfl hd3.inS hd3.lt) rm_ch (fun A5 c5 w5 hp C5=>so ?_) (hm:=by rw [Dig.h])
   have e:=catE_s (E:=markE) (o:=out++numE x.node++numE x.view++numE x.low++numE (x.marks.length:Int)) mark0 hk9
   simp only [markE,digE,←List.append_assoc] at e
   refine Kl [0,3,5] hKL (x.marks.length-(k+1)) ⟨k+1,A5,c5,by rw [e];rfl,hk9,mv,by rw [e];exact hp,rfl⟩ (by omega)
 obtain rfl:k=x.marks.length:=by omega
 have hc9:=catE_le markE (out++numE x.node++numE x.view++numE x.low++numE (x.marks.length:Int)) x.marks x.marks.length
 simp only [List.length_append] at hc9
 refine so ?_
 refine Cr (qStands_ok hp (h1.to (F:=Fz)) hp2 (len_is hp1 (by decide)) rm_ch) fun A1 c1 w2 hp F3=>so ?_
 refine Cr (qStands_ok hp (h2.to (F:=Fz)) hq2 (len_is hq1 (by decide)) rm_ch) fun A1 c1 w2 hp F3=>so ?_
 refine Pt ?_
 exact enR (hp.up 1 rfl).tail (by rw [catE_all];simp only [changeE,listE,List.append_assoc])
set_option maxHeartbeats 40000000 in
theorem rChgB_ok {csx:List Value} {x:Chn} {Sx:Nat→Prop} (hx:changeR.rd Sx w csx x):Ret prog 42 #[.agg csx.toArray] w (fun v w'=> ∃A' c',v= .tuple #[.slice A' (chgS x).1.length c', .int .i64 (chgS x).2]∧OwnB 5 w.heap.size w' A' c' (chgS x).1∧Ext w w'):=by
 obtain ⟨hIx,Ax0,cx0,Ax1,cx1,Ax2,cx2,rfl,hx0,hx1,hx2⟩:=hx
 have mhx0:=hx0.mx
 have mhx1:=hx1.mx
 have mhx2:=hx2.mx
 refine ret_of_wk func42 rfl ntmps42 leB_ ?_
 have hp:=HP.begin_ w
 replace hx0:=hx0.now
 replace hx1:=hx1.now
 replace hx2:=hx2.now
 refine go ?_
 refine wl_hbox (by decide) rfl hp ?_
 rintro gs1 w1 hp1 hE1
 have q0:=hE1
 replace hp:=hp1
 replace hp:=hp.ay (itB gs1 35 ([iv x.node,iv x.view,iv x.low, .slice Ax0 x.marks.length cx0, .slice Ax1 x.p.length cx1, .slice Ax2 x.q.length cx2])::_)
 refine go ?_
 refine Hx_ ([iv x.node,iv x.view,iv x.low, .slice Ax0 x.marks.length cx0, .slice Ax1 x.p.length cx1, .slice Ax2 x.q.length cx2]) 0 ag35 rfl hp rfl rfl rfl ?_
 have hcl:=rChangeMay_ok ⟨hIx,_,_,_,_,_,_,rfl,(hx0.ext q0),(hx1.ext q0),(hx2.ext q0)⟩
 refine Cl_ cl46 rfl hcl ?_
 clear hcl
 rintro _ w2 ⟨rfl,hE2⟩
 replace q0:=q0.trans hE2
 replace hp:=hp.ext hE2
 first|refine Nd_ rfl ?_|refine Nn_ rfl ?_
 refine go ?_
 refine Cd (fun hm=> ?_) fun hm=> ?_
 have hsn:chgS x=([],2):=if_neg (by simpa using hm)
 refine go ?_
 refine P2 results42 ?_
 rw [hsn]
 exact ⟨_,rfl,_,_,rfl,OwnRow.nil _ _ _ _ _,hp.chg⟩
 have hmm:ChangeMay x:=by simpa using hm
 have hsn:chgS x=(changeE x,0):=if_pos hmm
 have hok:=change_fine hmm
 have hlen0:=changeE_len hok
 refine go ?_
 refine Hx_ ([iv x.node,iv x.view,iv x.low, .slice Ax0 x.marks.length cx0, .slice Ax1 x.p.length cx1, .slice Ax2 x.q.length cx2]) 0 ag35 rfl hp rfl rfl rfl ?_
 replace hp:=(hp.noRow 5 1).as_ (H':=itR 5 1 none (([]:List UInt8)).length 0 ((([]:List UInt8)).map bv)::itB gs1 35 ([iv x.node,iv x.view,iv x.low, .slice Ax0 x.marks.length cx0, .slice Ax1 x.p.length cx1, .slice Ax2 x.q.length cx2]):: []) rfl
 have hcl:=qChange_ok hp ⟨hIx,_,_,_,_,_,_,rfl,(hx0.ext q0),(hx1.ext q0),(hx2.ext q0)⟩ hok (by show (0:Nat)+_≤_;omega)
 refine Cl_ cl88 rfl hcl ?_
 clear hcl
 rintro _ w3 ⟨A3,c3,rfl,hp3,hF3⟩
 replace hp:=(hp3.ay (itR 5 1 A3 ((([]:List UInt8)++changeE x)).length c3 (((([]:List UInt8)++changeE x)).map bv)::itB gs1 35 ([iv x.node,iv x.view,iv x.low, .slice Ax0 x.marks.length cx0, .slice Ax1 x.p.length cx1, .slice Ax2 x.q.length cx2]):: []))
 refine go ?_
 refine P2 results42 ?_
 rw [hsn]
 exact ⟨_,rfl,_,_,rfl,hp.rowLo (i:=0) rfl,hp.chg⟩
end Go.Proofs.YtmbpneaibmldfaaGreat
namespace Go.Proofs.YtmbpneaibmldfaaGreat
open Go.RowKit Go.Eng _root_.Go.Proofs.Tryz Go.Eng _root_.Go.Proofs.Tryz
set_option maxRecDepth 100000
variable {w0 w:World} {M0 Fz:Nat→Prop} {H:List It} {A:Option Addr} {c:Nat}
set_option maxHeartbeats 8000000 in
theorem normalM_ok {w:World} {S:Nat→Prop} {cs:List Value} {m:Img} (hm:imgR.rd S w cs m):Ret prog 45 #[.agg cs.toArray] w (fun v w'=> ∃b:Bool,v= .bool b∧(b=true↔ImgMay m)∧Ext w w'):=by
 obtain ⟨hI,B0,d0,B1,d1,B2,d2,B3,d3,B4,d4,rfl,h0,h1,h2,h3,h4⟩:=hm
 have mx:=h4.mx
 refine ret_of_wk func45 rfl ntmps45 leB_ ?_
 have hp:=HP.begin_ w
 have no: ∀{w':World},Ext w w'→¬ImgMay m→∃v,Ending.returned (.bool false)= .returned v∧∃b:Bool,v= .bool b∧(b=true↔ImgMay m)∧Ext w w':=fun hE h=>⟨_,rfl,false,rfl,⟨fun q=>(by cases q),fun q=>absurd q h⟩,hE⟩
 refine so ?_
 refine Bx hp (h:=fun g1 w1 hp E1=>so ?_)
 refine Cs w22_ok (so ?_)
 refine Gs 10 ?_ ?_<;>intro q1<;>refine so ?_
 ·refine aT (so ?_)
  refine Pt ?_
  exact no hp.chg (fun h=>q1 h.1)
 refine Cs n22_ok (so ?_)
 refine Gs 17 ?_ ?_<;>intro q2<;>refine so ?_
 ·refine aT (so ?_)
  refine Pt ?_
  exact no hp.chg (fun h=>q2 h.2.1)
 refine Cs n22_ok (so ?_)
 refine Gs 23 ?_ ?_<;>intro q3<;>refine so ?_
 ·refine aT (so ?_)
  refine Pt ?_
  exact no hp.chg (fun h=>q3 h.2.2.1)
 refine Ce (marksM_ok (most:=4) (h0.ext E1)) ?_
 rintro _ w4 ⟨b4,rfl,q4,rfl⟩
 refine so ?_
 cases b4
 ·refine so ?_
  refine aT (so ?_)
  refine Pt ?_
  exact no hp.chg (fun h=>by have:=q4.2 h.2.2.2.1;cases this)
 refine so ?_
 refine Ce (marksM_ok (most:=8) (h3.ext E1)) ?_
 rintro _ w5 ⟨b5,rfl,q5,rfl⟩
 refine so ?_
 cases b5
 ·refine so ?_
  refine aT (so ?_)
  refine Pt ?_
  exact no hp.chg (fun h=>by have:=q5.2 h.2.2.2.2.1;cases this)
 refine so ?_
 refine Ce (standsM_ok (most:=8) (h1.ext E1)) ?_
 rintro _ w6 ⟨b6,rfl,q6,rfl⟩
 refine so ?_
 cases b6
 ·refine so ?_
  refine aT (so ?_)
  refine Pt ?_
  exact no hp.chg (fun h=>by have:=q6.2 h.2.2.2.2.2.1;cases this)
 refine so ?_
 refine Ce (standsM_ok (most:=32) (h2.ext E1)) ?_
 rintro _ w7 ⟨b7,rfl,q7,rfl⟩
 refine so ?_
 cases b7
 ·refine so ?_
  refine aT (so ?_)
  refine Pt ?_
  exact no hp.chg (fun h=>by have:=q7.2 h.2.2.2.2.2.2.1;cases this)
 refine so ?_
 refine Cd ?_ ?_<;>intro q8
 ·refine so ?_
  refine Pt ?_
  exact no hp.chg (fun h=>by have:=h.2.2.2.2.2.2.2.1;omega)
 refine so ?_
 refine Lp [1,3] (fun L' w' mes=> ∃k:Nat,L'= [(1,pt g1 0),(3,iv (k:Int))]∧k≤m.batches.length∧(∀i,i<k→batchOk (m.batches.getD i bat0).wishes)∧Ext w7 w'∧m.batches.length-k=mes) (m.batches.length-0) ⟨0,rfl,Nat.zero_le _,fun i h=>absurd h (Nat.not_lt_zero _),Chg.refl _ _,rfl⟩ ?_
 rintro _ wr _ ⟨k,rfl,hk,ha,Er,rfl⟩ KL hKL
 replace hp:=hp.ext Er
 refine so ?_
 refine Cd ?_ ?_<;>intro hc
 ·have hk9 : k < m.batches.length := by omega
  obtain ⟨ae,I0,i0,hA,hat,hw⟩:=batR_el ((h4.ext E1).ext Er) k hk9
  have hno: ¬batchOk (m.batches.getD k bat0).wishes→¬ImgMay m:=fun hn h=>hn (by rw [getD_get hk9];exact h.2.2.2.2.2.2.2.2 _ (List.getElem_mem hk9))
  refine so ?_
  refine Ce (r11BatchE_ok hw) ?_
  rintro _ w2 ⟨B,b,d,e,rfl,he,E2⟩
  refine so ?_
  refine Cd ?_ ?_<;>intro h5<;>refine so ?_
  ·refine Pt ?_
   exact no (hp.ext E2).chg (hno (fun h=>h5 (he.2 h)))
  ·refine Kl [1, 3] hKL (m.batches.length - (k + 1)) ⟨k + 1, rfl, hk9, fun i hi => ?_, Er.trans E2, rfl⟩ (by omega)
   by_cases e1:i=k
   ·subst e1
    exact he.1 (Classical.not_not.1 h5)
   ·exact ha i (by omega)
 ·obtain rfl : k = m.batches.length := by omega
  refine so ?_
  refine Pt ?_
  refine ⟨_,rfl,true,rfl,⟨fun _=>⟨Classical.not_not.1 q1,Classical.not_not.1 q2,Classical.not_not.1 q3,q4.1 rfl,q5.1 rfl,q6.1 rfl,q7.1 rfl,by omega,fun y hy=> ?_⟩,fun _=>rfl⟩,hp.chg⟩
  obtain ⟨i,hi,rfl⟩:=List.mem_iff_getElem.1 hy
  rw [←getD_get (z:=bat0) hi]
  exact ha i hi
set_option maxHeartbeats 8000000 in
theorem r22Check_ok {w:World} {S:Nat→Prop} {cs:List Value} {r:Rpl} (hr:rplR.rd S w cs r):Ret prog 15 #[.agg cs.toArray] w (fun v w'=>v= .int .i64 (bytesS r).2∧Ext w w'):=by
 have h2:(bytesS r).2=if RplMay r then 0 else 2:=by unfold bytesS;split<;>rfl
 rw [h2]
 clear h2
 obtain ⟨grp,ep,fl,nd,im,lf,ch,sta⟩:=r
 obtain ⟨hI,B0,d0,B1,d1,B2,d2,B3,d3,B4,d4,B5,d5,B6,d6,B7,d7,B8,d8,B9,d9,rfl,h0,h1,h2,h3,h4,h5,h6,h7,h8,h9⟩:=hr
 have mx:=h9.mx
 have hch: ∀{w'},Ext w w'→changeR.rd (fun b=>b<w.heap.size) w' [.int .i64 ch.node, .int .i64 ch.view, .int .i64 ch.low, .slice B6 ch.marks.length d6, .slice B7 ch.p.length d7, .slice B8 ch.q.length d8] ch:=fun hE=>⟨hI.change,_,_,_,_,_,_,rfl,h6.now.ext hE,h7.now.ext hE,h8.now.ext hE⟩
 refine ret_of_wk func15 rfl ntmps15 leB_ ?_
 have hp:=HP.begin_ w
 have iff9:=rplMay_iff (r:=⟨grp,ep,fl,nd,im,lf,ch,sta⟩)
 dsimp only at iff9 h0 h1 h2 h3 h4 h5 h6 h7 h8 h9 hch mx⊢
 have no: ∀{w':World},Ext w w'→¬RplMay ⟨grp,ep,fl,nd,im,lf,ch,sta⟩→∃v,Ending.returned (iv 2)= .returned v∧v= .int .i64 (if RplMay ⟨grp,ep,fl,nd,im,lf,ch,sta⟩ then 0 else 2)∧Ext w w':=fun hE h=>⟨_,rfl,by rw [if_neg h],hE⟩
 have yes: ∀{w':World},Ext w w'→RplMay ⟨grp,ep,fl,nd,im,lf,ch,sta⟩→∃v,Ending.returned (iv 0)= .returned v∧v= .int .i64 (if RplMay ⟨grp,ep,fl,nd,im,lf,ch,sta⟩ then 0 else 2)∧Ext w w':=fun hE h=>⟨_,rfl,by rw [if_pos h],hE⟩
 refine so ?_
 refine Bx hp (h:=fun g1 w1 hp E1=>so ?_)
 refine Cs w22_ok (so ?_)
 refine Gs 7 ?_ ?_<;>intro q1<;>refine so ?_
 ·refine aT (so ?_)
  refine Pt ?_
  exact no hp.chg (fun h=>q1 (iff9.1 h).1)
 refine Cs w22_ok (so ?_)
 refine Gs 13 ?_ ?_<;>intro q2<;>refine so ?_
 ·refine aT (so ?_)
  refine Pt ?_
  exact no hp.chg (fun h=>q2 (iff9.1 h).2.1)
 refine Ce (r08Check_ok (x:=⟨fl,nd⟩) ⟨hI.crew,_,_,rfl,h0.ext E1⟩) ?_
 rintro _ w2 ⟨rfl,E2⟩
 replace hp:=hp.ext E2
 by_cases hc:crewMay fl nd
 rotate_left
 ·rw [if_neg hc]
  refine so ?_
  refine aT (so ?_)
  refine Pt ?_
  exact no hp.chg (fun h=>hc (iff9.1 h).2.2.1)
 rw [if_pos hc]
 refine so ?_
 refine Gs 25 ?_ ?_<;>intro q4<;>refine so ?_
 ·refine aT (so ?_)
  refine Pt ?_
  exact no hp.chg (fun h=>by have:=(iff9.1 h).2.2.2.1;omega)
 refine Ce (normalM_ok (m:=im) ⟨hI.img,_,_,_,_,_,_,_,_,_,_,rfl,(h1.ext E1).ext E2,(h2.ext E1).ext E2,(h3.ext E1).ext E2,(h4.ext E1).ext E2,(h5.ext E1).ext E2⟩) ?_
 rintro _ w3 ⟨b5,rfl,q5,E3⟩
 replace hp:=hp.ext E3
 refine so ?_
 cases b5
 ·refine so ?_
  refine aT (so ?_)
  refine Pt ?_
  exact no hp.chg (fun h=>by have:=q5.2 (iff9.1 h).2.2.2.2.1;cases this)
 refine so ?_
 refine aF (so ?_)
 have hR9:optOk lf ch→RplMay ⟨grp,ep,fl,nd,im,lf,ch,sta⟩:=fun h=>iff9.2 ⟨Classical.not_not.1 q1,Classical.not_not.1 q2,hc,by omega,q5.1 rfl,h⟩
 cases lf
 ·refine so ?_
  refine wl_builtS (ps:= []) (by decide) bld35 rfl rfl ?_
  refine wl_gyes rfl rfl ?_
  refine Cx hp (r12SameChange_ok (a:=ch) (b:=change0) (Sb:=fun _=>True) (hch hp.chg) ⟨ChnI0,none,0,none,0,none,0,rfl,GS.nil _ _ _ _ _,GS.nil _ _ _ _ _,GS.nil _ _ _ _ _⟩) fun w4 hp E4=> ?_
  refine so ?_
  refine Cd ?_ ?_<;>intro q6<;>refine so ?_
  ·refine Pt ?_
   exact no hp.chg (fun h=>q6 (iff9.1 h).2.2.2.2.2)
  ·refine Pt ?_
   exact yes hp.chg (hR9 (Classical.not_not.1 q6))
 ·refine so ?_
  refine Cx hp (rChangeMay_ok (cg:=ch) (hch hp.chg)) fun w4 hp E4=> ?_
  refine so ?_
  refine Gs 39 ?_ ?_<;>intro q6<;>refine so ?_
  ·refine aT (so ?_)
   refine Pt ?_
   exact no hp.chg (fun h=>q6 (iff9.1 h).2.2.2.2.2)
  ·refine aF (so ?_)
   refine Pt ?_
   exact yes hp.chg (hR9 (Classical.not_not.1 q6))
set_option maxHeartbeats 16000000 in
theorem r22Bytes_ok {w:World} {S:Nat→Prop} {cs:List Value} {r:Rpl} (hr:rplR.rd S w cs r):Ret prog 11 #[.agg cs.toArray] w (fun v w'=> ∃A' c',v= .tuple #[.slice A' (bytesS r).1.length c', .int .i64 (bytesS r).2]∧OwnB 5 w.heap.size w' A' c' (bytesS r).1∧Ext w w'):=by
 have hl:=rplR.len hr
 have q0:rplR.rd (fun b=>b<w.heap.size) w cs r:=rplR.mono (fun b hb _=>hb) hr
 refine ret_of_wk func11 rfl ntmps11 leB_ ?_
 have hp:=HP.begin_ w
 generalize hF0:(fun b=>b<w.heap.size)=F0 at hp q0
 refine so ?_
 refine Bx hp (h:=fun g1 w1 hp E1=>so ?_)
 refine wl_hloadX cs (i:=0) (by decide) ag47 rfl hp rfl hl (by rw [List.drop_zero,List.take_of_length_le (by rw [hl];exact Nat.le_refl _)]) (so ?_)
 refine Ce (r22Check_ok (rplR.keep E1 (fun _ _ _ x=>x) hr)) ?_
 rintro _ w2 ⟨rfl,E2⟩
 replace hp:=hp.ext E2
 have q2:rplR.rd F0 w2 cs r:=rplR.keep E2 (fun _ _ _ x=>x) (rplR.keep E1 (fun _ _ _ x=>x) q0)
 clear q0 hr
 by_cases hm:RplMay r
 rotate_left
 ·have hbx : bytesS r = ([], 2) := if_neg hm
  rw [hbx]
  refine so ?_
  refine Cd ?_ ?_<;>intro h1
  ·refine so ?_
   refine P2 results11 ?_
   exact ⟨_,rfl,_,_,rfl,OwnRow.nil _ _ _ _ _,hp.chg⟩
  ·exact absurd (by decide) h1
 have hbx:bytesS r=(rplE r,0):=if_pos hm
 have hlen:=rpl_len hm.2
 rw [hbx]
 refine so ?_
 refine Cd ?_ ?_<;>intro h1
 ·exact absurd rfl h1
 clear h1
 have hmay:=rplMay_iff.1 hm
 have hnn:=hm.2.2.2.2.1
 have hcr:=hm.1
 clear hm hbx
 obtain ⟨grp,ep,fl,nd,im,lf,ch,sta⟩:=r
 obtain ⟨view,act,low,own,p,q,ran,done,ended,bat⟩:=im
 obtain ⟨hI,B0,d0,B1,d1,B2,d2,B3,d3,B4,d4,B5,d5,B6,d6,B7,d7,B8,d8,B9,d9,rfl,k0,k1,k2,k3,k4,k5,k6,k7,k8,k9⟩:=q2
 simp only [rplE,imgE,listE,strE,markE,digE,List.length_append] at hlen
 dsimp only [ImgMay] at hmay hnn hcr
 obtain ⟨m1,m2,m3,m4,⟨n1,n2,n3,⟨n4,n4'⟩,⟨n5,n5'⟩,⟨n6,n6'⟩,⟨n7,n7'⟩,n8,n8'⟩,m6⟩:=hmay
 have hcf:=hcr.1
 have hcg:=hcr.2.1
 have b1:isNum grp:=⟨m1.1,by omega⟩
 have b2:isNum ep:=⟨m2.1,by omega⟩
 have b3:isNum fl:=⟨hcf,by omega⟩
 have b4:isNum (nd.length:Int):=by unfold isNum;omega
 have b5:isNum view:=⟨n1.1,by omega⟩
 have b6:isNum (own.length:Int):=by unfold isNum;omega
 have b7:isNum (p.length:Int):=by unfold isNum;omega
 have b8:isNum (q.length:Int):=by unfold isNum;omega
 have b9:isNum (done.length:Int):=by unfold isNum;omega
 have b10:isNum (bat.length:Int):=by unfold isNum;omega
 dsimp only at k0 k1 k2 k3 k4 k5 k6 k7 k8 k9⊢
 have mx0:=k0.mx
 have mx5:=k5.mx
 replace hp:=(hp.noRow 5 1).as_ (H':=itR 5 1 none ([]:List UInt8).length 0 (([]:List UInt8).map bv)::_) rfl
 replace hp:=hp.as_ (H':=itR 5 1 none ([]:List UInt8).length 0 (([]:List UInt8).map bv)::itB g1 47 ([.int .i64 grp, .int .i64 ep, .int .i64 fl, .slice B0 nd.length d0, .int .i64 view, .bool act, .int .i64 low.seq]++(digC low.dig++ [.slice B1 own.length d1, .slice B2 p.length d2, .slice B3 q.length d3, .int .i64 ran, .slice B4 done.length d4, .bool ended, .slice B5 bat.length d5, .bool lf, .int .i64 ch.node, .int .i64 ch.view, .int .i64 ch.low, .slice B6 ch.marks.length d6, .slice B7 ch.p.length d7, .slice B8 ch.q.length d8, .slice B9 sta.length d9])):: []) rfl
 refine so ?_
 refine Cr (kNum_ok (n:=grp) hp b1) fun A1 c1 w3 hp F3=>so ?_
 refine Cr (kNum_ok (n:=ep) hp b2) fun A1 c1 w4 hp F4=>so ?_
 refine Cr (kNum_ok (n:=fl) hp b3) fun A1 c1 w5 hp F5=>so ?_
 refine Cr (kNum_ok (n:=(nd.length:Int)) hp b4) fun A1 c1 w6 hp F6=> ?_
 have f6:Frz F0 F0 w2 w6:=mv
 generalize ho:([]:List UInt8)++numE grp++numE ep++numE fl++numE (nd.length:Int)=o at hp⊢
 have hol:o.length=(numE grp).length+(numE ep).length+(numE fl).length+(numE (nd.length:Int)).length:=by rw [←ho];simp only [List.length_append,List.length_nil];omega
 clear F3 F4 F5 F6
 refine sl ?_
 refine wc_seq_cut (fun L' w'=> ∃(A2:Option Addr) (c2:Nat),L'= [(1,pt g1 0),(4, .slice A2 (o++flatE inodeE nd).length c2)]∧Frz F0 F0 w2 w'∧HP w (fun _=>False) F0 w' (itR 5 1 A2 (o++flatE inodeE nd).length c2 ((o++flatE inodeE nd).map bv)::itB g1 47 ([.int .i64 grp, .int .i64 ep, .int .i64 fl, .slice B0 nd.length d0, .int .i64 view, .bool act, .int .i64 low.seq]++(digC low.dig++ [.slice B1 own.length d1, .slice B2 p.length d2, .slice B3 q.length d3, .int .i64 ran, .slice B4 done.length d4, .bool ended, .slice B5 bat.length d5, .bool lf, .int .i64 ch.node, .int .i64 ch.view, .int .i64 ch.low, .slice B6 ch.marks.length d6, .slice B7 ch.p.length d7, .slice B8 ch.q.length d8, .slice B9 sta.length d9])):: [])) ?_ ?_
 ·intro K hK
  refine so ?_
  refine Lp [1,4,5] (fun L' w' mes=> ∃(k:Nat),∃(A2:Option Addr),∃(c2:Nat),L'= [(1,pt g1 0),(4, .slice A2 (catE inodeE o nd k).length c2),(5,iv (k:Int))]∧k≤nd.length∧Frz F0 F0 w2 w'∧HP w (fun _=>False) F0 w' (itR 5 1 A2 (catE inodeE o nd k).length c2 ((catE inodeE o nd k).map bv)::itB g1 47 ([.int .i64 grp, .int .i64 ep, .int .i64 fl, .slice B0 nd.length d0, .int .i64 view, .bool act, .int .i64 low.seq]++(digC low.dig++ [.slice B1 own.length d1, .slice B2 p.length d2, .slice B3 q.length d3, .int .i64 ran, .slice B4 done.length d4, .bool ended, .slice B5 bat.length d5, .bool lf, .int .i64 ch.node, .int .i64 ch.view, .int .i64 ch.low, .slice B6 ch.marks.length d6, .slice B7 ch.p.length d7, .slice B8 ch.q.length d8, .slice B9 sta.length d9])):: [])∧nd.length-k=mes) (nd.length-0) ⟨0,A1,c1,by rw [catE_0];rfl,Nat.zero_le _,f6,by rw [catE_0];exact hp,rfl⟩ ?_
  rintro _ wr _ ⟨k,A2,c2,rfl,hk,F7,hp,rfl⟩ KL hKL
  refine so ?_
  refine Cd ?_ ?_<;>intro hc
  ·have hk9 : k < nd.length := by omega
   have hr:=catE_room (E:=inodeE) (o:=o) (0:Int) hk9
   rw [show inodeE (nd.getD k 0)=numE (nd.getD k 0) from rfl] at hr
   have o1:isNum (nd.getD k 0):=(getD_ok hnn.2 0 hk9).1
   obtain ⟨ae,hA,hat⟩:=GS.el1 (k0.to F7) k hk9
   rw [←getD_get (z:=(0:Int)) hk9] at hat
   refine so ?_
   refine Cr (kNum_ok (n:=nd.getD k 0) hp o1) fun A3 c3 w8 hp F8=>so ?_
   have e:=catE_s (E:=inodeE) (o:=o) (0:Int) hk9
   rw [show inodeE (nd.getD k 0)=numE (nd.getD k 0) from rfl] at e
   refine Kl [1,4,5] hKL (nd.length-(k+1)) ⟨k+1,A3,c3,by rw [e];rfl,hk9,mv,by rw [e];exact hp,rfl⟩ (by omega)
  ·obtain rfl : k = nd.length := by omega
   rw [catE_all] at hp⊢
   refine so ?_
   exact Kd [1,4] hK ⟨A2,c2,rfl,F7,hp⟩
 clear hp f6
 rintro _ w7 ⟨A2,c2,rfl,F7,hp⟩
 generalize ho2:o++flatE inodeE nd=o2 at hp⊢
 have hol2:o2.length=o.length+(flatE inodeE nd).length:=by rw [←ho2,List.length_append]
 refine so ?_
 refine Alo hp (h:=fun g6 w8 hp E8=> ?_)
 refine Hs 0 hp (h:=fun w9 hp C9=> ?_)
 replace hp:=hp.swp.as_ (H':=itR 5 1 A2 o2.length c2 (o2.map bv)::itB g6 45 ([.int .i64 view, .bool act, .int .i64 low.seq]++(digC low.dig++ [.slice B1 own.length d1, .slice B2 p.length d2, .slice B3 q.length d3, .int .i64 ran, .slice B4 done.length d4, .bool ended, .slice B5 bat.length d5]))::itB g1 47 ([.int .i64 grp, .int .i64 ep, .int .i64 fl, .slice B0 nd.length d0, .int .i64 view, .bool act, .int .i64 low.seq]++(digC low.dig++ [.slice B1 own.length d1, .slice B2 p.length d2, .slice B3 q.length d3, .int .i64 ran, .slice B4 done.length d4, .bool ended, .slice B5 bat.length d5, .bool lf, .int .i64 ch.node, .int .i64 ch.view, .int .i64 ch.low, .slice B6 ch.marks.length d6, .slice B7 ch.p.length d7, .slice B8 ch.q.length d8, .slice B9 sta.length d9])):: []) rfl
 have F9:Frz F0 F0 w2 w9:=mv
 clear F7 E8 C9
 refine so ?_
 refine Cr (kNum_ok (n:=view) hp b5) fun A1 c1 w3 hp F3=>so ?_
 refine Cr (kYes_ok (x:=act) hp rmK) fun A1 c1 w4 hp F4=>so ?_
 refine Cr (kNum_ok (n:=low.seq) hp n2) fun A1 c1 w5 hp F5=>so ?_
 refine wl_sliceA (by decide) ar26 rfl ?_
 have hb:=hp.blkAt (i:=1) rfl
 have hdl:=low.dig.h
 refine Ar (l2:=low.dig.l) (S:=fun _=>True) hp (((hb.at_ 3).take 32).bs rfl trivial hb.lt) rmK (fun A6 c6 w6 hp C6=>so ?_) (hm:=by rw [Dig.h])
 refine Cr (kMarks_ok hp (k1.to (F:=F0)) n4' b6 rmL) fun A1 c1 w10 hp F10=>so ?_
 refine Cr (kStands_ok hp (k2.to (F:=F0)) n6' b7 rmL) fun A1 c1 w11 hp F11=>so ?_
 refine Cr (kStands_ok hp (k3.to (F:=F0)) n7' b8 rmL) fun A1 c1 w12 hp F12=>so ?_
 refine Cr (kNum_ok (n:=ran) hp n3 rmL) fun A1 c1 w13 hp F13=>so ?_
 refine Cr (kMarks_ok hp (k4.to (F:=F0)) n5' b9 rmL) fun A1 c1 w14 hp F14=>so ?_
 refine Cr (kYes_ok (x:=ended) hp rmL) fun A1 c1 w15 hp F15=>so ?_
 refine Cr (kNum_ok (n:=(bat.length:Int)) hp b10 rmL) fun A1 c1 w16 hp F16=> ?_
 have F17:Frz F0 F0 w2 w16:=mv
 clear F3 F4 F5 C6 F10 F11 F12 F13 F14 F15 F16 F9 hb k1 k2 k3 k4
 generalize ho3:o2++numE view++yesE act++numE low.seq++low.dig.l++listE markE own++listE istandE p++listE istandE q++numE ran++listE markE done++yesE ended++numE (bat.length:Int)=o3 at hp⊢
 have hol3:o3.length+(flatE batE bat).length+(yesE lf).length+(optE lf ch).length+(numL sta.length).length+sta.length≤32768:=by
  rw [←ho3]
  simp only [listE,List.length_append]
  omega
 refine sl ?_
 refine wc_seq_cut (fun L' w'=> ∃(A2:Option Addr) (c2:Nat),L'= [(1,pt g1 0),(4, .slice A2 (o3++flatE batE bat).length c2)]∧Frz F0 F0 w2 w'∧HP w (fun _=>False) F0 w' (itR 5 1 A2 (o3++flatE batE bat).length c2 ((o3++flatE batE bat).map bv)::itB g6 45 ([.int .i64 view, .bool act, .int .i64 low.seq]++(digC low.dig++ [.slice B1 own.length d1, .slice B2 p.length d2, .slice B3 q.length d3, .int .i64 ran, .slice B4 done.length d4, .bool ended, .slice B5 bat.length d5]))::itB g1 47 ([.int .i64 grp, .int .i64 ep, .int .i64 fl, .slice B0 nd.length d0, .int .i64 view, .bool act, .int .i64 low.seq]++(digC low.dig++ [.slice B1 own.length d1, .slice B2 p.length d2, .slice B3 q.length d3, .int .i64 ran, .slice B4 done.length d4, .bool ended, .slice B5 bat.length d5, .bool lf, .int .i64 ch.node, .int .i64 ch.view, .int .i64 ch.low, .slice B6 ch.marks.length d6, .slice B7 ch.p.length d7, .slice B8 ch.q.length d8, .slice B9 sta.length d9])):: [])) ?_ ?_
 ·intro K hK
  refine so ?_
  refine Lp [1,4,6,7] (fun L' w' mes=> ∃(k:Nat),∃(A2:Option Addr),∃(c2:Nat),L'= [(1,pt g1 0),(4, .slice A2 (catE batE o3 bat k).length c2),(6,pt g6 0),(7,iv (k:Int))]∧k≤bat.length∧Frz F0 F0 w2 w'∧HP w (fun _=>False) F0 w' (itR 5 1 A2 (catE batE o3 bat k).length c2 ((catE batE o3 bat k).map bv)::itB g6 45 ([.int .i64 view, .bool act, .int .i64 low.seq]++(digC low.dig++ [.slice B1 own.length d1, .slice B2 p.length d2, .slice B3 q.length d3, .int .i64 ran, .slice B4 done.length d4, .bool ended, .slice B5 bat.length d5]))::itB g1 47 ([.int .i64 grp, .int .i64 ep, .int .i64 fl, .slice B0 nd.length d0, .int .i64 view, .bool act, .int .i64 low.seq]++(digC low.dig++ [.slice B1 own.length d1, .slice B2 p.length d2, .slice B3 q.length d3, .int .i64 ran, .slice B4 done.length d4, .bool ended, .slice B5 bat.length d5, .bool lf, .int .i64 ch.node, .int .i64 ch.view, .int .i64 ch.low, .slice B6 ch.marks.length d6, .slice B7 ch.p.length d7, .slice B8 ch.q.length d8, .slice B9 sta.length d9])):: [])∧bat.length-k=mes) (bat.length-0) ⟨0,A1,c1,by rw [catE_0];rfl,Nat.zero_le _,F17,by rw [catE_0];exact hp,rfl⟩ ?_
  rintro _ wr _ ⟨k,A2,c2,rfl,hk,F7,hp,rfl⟩ KL hKL
  refine so ?_
  refine Cd ?_ ?_<;>intro hc
  ·have hk9 : k < bat.length := by omega
   have hr:=catE_room (E:=batE) (o:=o3) bat0 hk9
   rw [show batE (bat.getD k bat0)=(bat.getD k bat0).dig.l++strE (blistE (bat.getD k bat0).wishes) from rfl,List.length_append] at hr
   have o1:batchOk (bat.getD k bat0).wishes:=by rw [getD_get hk9];exact n8' _ (List.getElem_mem hk9)
   obtain ⟨ae,I0,i0,hA,hat,hw⟩:=batR_el (k5.to (F:=F0) F7) k hk9
   have e:=catE_s (E:=batE) (o:=o3) bat0 hk9
   rw [show batE (bat.getD k bat0)=(bat.getD k bat0).dig.l++strE (blistE (bat.getD k bat0).wishes) from rfl,←List.append_assoc] at e
   have hbl:=blist_len o1
   have hdx:=(bat.getD k bat0).dig.h
   refine so ?_
   refine wl_sliceA (by decide) ar26 rfl ?_
   refine Ar (l2:=(bat.getD k bat0).dig.l) hp (((hat.at_.drop 0).take 32).bs rfl hat.inS hat.lt) rmK (fun A5 c5 w8 hp C8=>so ?_) (hm:=by rw [Dig.h])
   refine Ce (r11Batch_ok (hw.to (F:=F0) (w':=w8)) o1) ?_
   rintro _ w9 ⟨A9,c9,rfl,ho9,E9⟩
   replace hp:=hp.ext E9
   refine so ?_
   refine Cr (kStr_ok hp ho9.bs (by omega) rmK) fun A3 c3 w10 hp F10=>so ?_
   refine Kl [1,4,6,7] hKL (bat.length-(k+1)) ⟨k+1,A3,c3,by rw [e];rfl,hk9,mv,by rw [e];exact hp,rfl⟩ (by omega)
  ·obtain rfl : k = bat.length := by omega
   rw [catE_all] at hp⊢
   refine so ?_
   exact Kd [1,4] hK ⟨A2,c2,rfl,F7,hp⟩
 clear hp F17
 rintro _ w17 ⟨A2,c2,rfl,F17,hp⟩
 generalize ho4:o3++flatE batE bat=o4 at hp⊢
 have hol4:o4.length=o3.length+(flatE batE bat).length:=by rw [←ho4,List.length_append]
 refine so ?_
 refine Cr (kYes_ok (x:=lf) hp (by omega)) fun A1 c1 w18 hp F18=> ?_
 have F19:Frz F0 F0 w2 w18:=mv
 generalize ho5:o4++yesE lf=o5 at hp⊢
 have hol5:o5.length=o4.length+(yesE lf).length:=by rw [←ho5,List.length_append]
 refine sl ?_
 refine wc_seq_cut (fun L' w'=> ∃(A2:Option Addr) (c2:Nat),L'= [(1,pt g1 0),(4, .slice A2 (o5++optE lf ch).length c2)]∧Frz F0 F0 w2 w'∧HP w (fun _=>False) F0 w' (itR 5 1 A2 (o5++optE lf ch).length c2 ((o5++optE lf ch).map bv)::itB g6 45 ([.int .i64 view, .bool act, .int .i64 low.seq]++(digC low.dig++ [.slice B1 own.length d1, .slice B2 p.length d2, .slice B3 q.length d3, .int .i64 ran, .slice B4 done.length d4, .bool ended, .slice B5 bat.length d5]))::itB g1 47 ([.int .i64 grp, .int .i64 ep, .int .i64 fl, .slice B0 nd.length d0, .int .i64 view, .bool act, .int .i64 low.seq]++(digC low.dig++ [.slice B1 own.length d1, .slice B2 p.length d2, .slice B3 q.length d3, .int .i64 ran, .slice B4 done.length d4, .bool ended, .slice B5 bat.length d5, .bool lf, .int .i64 ch.node, .int .i64 ch.view, .int .i64 ch.low, .slice B6 ch.marks.length d6, .slice B7 ch.p.length d7, .slice B8 ch.q.length d8, .slice B9 sta.length d9])):: [])) ?_ ?_
 ·intro K hK
  refine so ?_
  cases lf
  ·refine aF (so ?_)
   rw [show optE false ch= [] from rfl,List.append_nil] at hK
   exact Kd [1,4] hK ⟨A1,c1,rfl,F19,hp⟩
  ·have hcm : ChangeMay ch := m6
   have hcl:=changeE_len (change_fine hcm)
   have hcs:chgS ch=(changeE ch,0):=if_pos hcm
   refine aT (so ?_)
   refine Ce (rChgB_ok (x:=ch) ⟨hI.change,_,_,_,_,_,_,rfl,k6.to (F:=F0),k7.to (F:=F0),k8.to (F:=F0)⟩) ?_
   rw [hcs]
   rintro _ w19 ⟨A9,c9,rfl,ho9,E9⟩
   replace hp:=hp.ext E9
   refine so ?_
   refine Cr (kStr_ok hp ho9.bs (by show (changeE ch).length ≤ 65536; omega) (by
    have:(optE true ch).length=(strE (changeE ch)).length:=rfl
    show o5.length+(strE (changeE ch)).length≤1000000
    omega)) fun A3 c3 w20 hp F20=>so ?_
   exact Kd [1,4] hK ⟨A3,c3,rfl,mv,hp⟩
 clear hp F19 F18 F17
 rintro _ w19 ⟨A2,c2,rfl,F19,hp⟩
 refine so ?_
 have hsl:(strE sta).length=(numL sta.length).length+sta.length:=by unfold strE;rw [List.length_append]
 refine Cr (kStr_ok hp (k9.to (F:=F0) F19) (by omega) rmK) fun A3 c3 w20 hp F20=>so ?_
 have ef:o5++optE lf ch++strE sta=rplE ⟨grp,ep,fl,nd,⟨view,act,low,own,p,q,ran,done,ended,bat⟩,lf,ch,sta⟩:=by
  rw [←ho5,←ho4,←ho3,←ho2,←ho]
  simp only [rplE,imgE,listE,markE,digE,List.append_assoc,List.nil_append]
 rw [ef] at hp⊢
 refine P2 results11 ?_
 exact ⟨_,rfl,A3,c3,rfl,hp.rowLo (i:=0) rfl,hp.chg⟩
set_option maxHeartbeats 8000000 in
theorem imagePacks_ok {w:World} {cs:List Value} {r:Rpl} {S:Nat→Prop} (hr:rplR.rd S w cs r) (hn: ∀y∈r.nodes,i64 y) (hz:sizeR r≤1000000000000):Ret prog 3 #[.agg cs.toArray] w (fun v w'=>v= .bool true∧Ext w w'):=by
 have hl5:cs.length=54:=rplR.len hr
 have q0:ReadsU w cs r:=rplR.mono (fun _ _ _=>trivial) hr
 refine ret_of_wk func3 rfl ntmps3 leB_ ?_
 have hp:=HP.begin_ w
 refine so ?_
 refine Bx hp (h:=fun g1 w1 hp E1=> ?_)
 replace q0:=rpl_ext q0 E1
 refine so ?_
 refine wl_hloadX cs (i:=0) (by decide) ag38 rfl hp rfl hl5 (ld5 hl5) ?_
 refine Cl_ (xs:= [.tmp 8]) (by kernel_rfl) rfl (iBytes_ok q0 hn hz) ?_
 rintro _ w2 ⟨A2,c2,rfl,ho2,E2⟩
 replace hp:=hp.ext E2
 replace q0:=rpl_ext q0 E2
 have hb2:BS (fun _=>True) w2 A2 c2 (bytesS r).1:=ho2.bs.mono (fun _ _ _=>trivial)
 refine so ?_
 refine wl_hloadX cs (i:=0) (by decide) ag38 rfl hp rfl hl5 (ld5 hl5) ?_
 refine Cl_ (xs:= [.tmp 13]) (by kernel_rfl) rfl (outE q0 (size_bat hz)) ?_
 rintro _ w3 ⟨cs3,rfl,q3,E3⟩
 replace hp:=hp.ext E3
 replace q0:=rpl_ext q0 E3
 replace hb2:=hb2.ext E3
 refine so ?_
 refine Cl_ (xs:= [.tmp 14]) (by kernel_rfl) rfl (r22Bytes_ok q3) ?_
 rintro _ w4 ⟨A4,c4,rfl,ho4,E4⟩
 replace hp:=hp.ext E4
 replace q0:=rpl_ext q0 E4
 replace hb2:=hb2.ext E4
 have hb4:BS (fun _=>True) w4 A4 c4 (bytesS r).1:=ho4.bs.mono (fun _ _ _=>trivial)
 clear ho2 ho4 q3 hr E1 E2 E3 E4
 refine so ?_
 refine wdT 20 [.eq (iv (bytesS r).2), .eq (iv (bytesS r).2), .eq (.bool true), .eq (.bool true), .eq (.slice A2 (bytesS r).1.length c2), .eq (.slice A4 (bytesS r).1.length c4), .eq (.bool true), .eq (.bool true), .eq (.bool true), .eq (.agg cs.toArray), .eq (iv (bytesS r).2), .eq (.agg cs.toArray),rdU r, .eq (iv (bytesS r).2), .eq (.bool true), .eq (.bool true), .eq (.bool true), .eq (.bool true), .eq (.bool true), .eq (.bool true)] ?_ ?_
 ·refine ⟨?_, ?_, ?_, ?_, ?_, ?_, ?_, ?_, ?_, ?_, ?_, ?_, ?_, ?_, ?_, ?_, ?_, ?_, ?_, ?_, trivial⟩ <;> intro F wF hER hk
  ·exact dm (hk.qi 4)
  ·exact dm (hk.qi 6)
  ·exact Eq_ (hk.qe 0) (hk.qe 1) (qz ⟨Chg.refl _ _,congrArg Value.bool (decide_eq_true rfl)⟩)
  ·exact dm (hk.qe 2)
  ·exact gy (hk.qe 3) (dm (hk.qi 3))
  ·exact gy (hk.qe 3) (dm (hk.qi 5))
  ·refine gy (hk.qe 3) ?_
   have ea:=hk.qe 4
   have eb:=hk.qe 5
   refine Cl_ (xs:= [.tmp 22, .tmp 23]) (by kernel_rfl) (by simp only [evs,ev,ea,eb]) (eqBytes_ok (hb2.ext hER) (hb4.ext hER)) ?_
   rintro _ wc ⟨rfl,hEc⟩
   exact qz ⟨hEc,congrArg Value.bool (decide_eq_true rfl)⟩
  ·exact Pk_ (b:=true) (hk.qe 3) (hk.qe 6) qz
  ·exact dm (hk.qe 7)
  ·exact gy (hk.qe 8) (wl_hloadX cs (i:=0) (by decide) ag38 (hk.qi 1) (hp.ext hER) rfl hl5 (ld5 hl5) qz)
  ·refine gy (hk.qe 8) ?_
   have ea:=hk.qe 9
   refine Cl_ (xs:= [.tmp 27]) (by kernel_rfl) (by simp only [evs,ev,ea]) (iCheck_ok (rpl_ext q0 hER) hn hz) ?_
   rintro _ wc ⟨rfl,hEc⟩
   exact qz ⟨hEc,rfl⟩
  ·exact gy (hk.qe 8) (wl_hloadX cs (i:=0) (by decide) ag38 (hk.qi 1) (hp.ext hER) rfl hl5 (ld5 hl5) qz)
  ·refine gy (hk.qe 8) ?_
   have ea:=hk.qe 11
   refine Cl_ (xs:= [.tmp 29]) (by kernel_rfl) (by simp only [evs,ev,ea]) (outE (rpl_ext q0 hER) (size_bat hz)) ?_
   rintro _ wc ⟨cs,rfl,h,hEc⟩
   exact qz ⟨hEc,cs,rfl,h⟩
  ·refine gy (hk.qe 8) ?_
   obtain ⟨u9,e9,cs9,rfl,h9⟩:=hk.qp 12
   refine Cl_ (xs:= [.tmp 30]) (by kernel_rfl) (by simp only [evs,ev,e9]) (r22Check_ok h9) ?_
   rintro _ wc ⟨rfl,hEc⟩
   exact qz ⟨hEc,rfl⟩
  ·exact gy (hk.qe 8) (Eq_ (hk.qe 10) (hk.qe 13) (qz ⟨Chg.refl _ _,congrArg Value.bool (decide_eq_true rfl)⟩))
  ·exact Pk_ (b:=true) (hk.qe 8) (hk.qe 14) qz
  ·exact dm (hk.qe 15)
  ·refine gy (hk.qe 16) ?_
   refine Cl_ (xs:= []) (by kernel_rfl) rfl lAwake_ok ?_
   rintro _ wc ⟨rfl,hEc⟩
   exact qz ⟨hEc,rfl⟩
  ·exact Pk_ (b:=true) (hk.qe 16) (hk.qe 17) qz
  ·exact wl_assign (by decide) (hk.qe 18) qz
 intro F wD hED hini hdo
 have e2:=dr hdo 19
 refine wl_drop [(2,_)] ⟨e2,trivial⟩ ?_
 refine so ?_
 refine Pt ?_
 exact ⟨_,rfl,rfl,(hp.ext hED).chg⟩
end Go.Proofs.YtmbpneaibmldfaaGreat
