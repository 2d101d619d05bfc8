/- What each of these functions computes, for every argument that its theorem names; a part of what the proof of ImagePacksUpto stands on. -/
import Derived.Test.YtmbpneaibmldfaaGreatEaa
import Derived.Test.YtmbpneaibmldfaaGreatAaa
import Derived.Test.YtmbpneaibmldfaaGreatAab
import Derived.Test.YtmbpneaibmldfaaGreatAag
import Derived.Test.YtmbpneaibmldfaaGreatAam
import Derived.Test.YtmbpneaibmldfaaGreatAap
namespace Go.Proofs.YtmbpneaibmldfaaGreat
open Go.ChangeShapes Go.WideShapes Go.ChangeAt Go.RowKit Go.Eng Go.Eng _root_.Go.Proofs.Tryz
set_option maxRecDepth 100000
variable {w0 w:World} {M0 Fz:Nat→Prop} {H:List It} {A:Option Addr} {c:Nat}
theorem Tryz.ce3:Tryz.prog.cellsOf 3=1:=by kernel_rfl
theorem Tryz.ce5:Tryz.prog.cellsOf 5=1:=by kernel_rfl
theorem Tryz.ce26:Tryz.prog.cellsOf 26=32:=by kernel_rfl
theorem Tryz.by5:Tryz.prog.bytesOf 5=1:=by kernel_rfl
theorem Tryz.ce36:Tryz.prog.cellsOf 36=1:=by kernel_rfl
theorem Tryz.by3:Tryz.prog.bytesOf 3=8:=by kernel_rfl
theorem Tryz.ce22:Tryz.prog.cellsOf 22=1:=by kernel_rfl
theorem Tryz.ce112:Tryz.prog.cellsOf 112=10:=by kernel_rfl
theorem Tryz.by112:Tryz.prog.bytesOf 112=112:=by kernel_rfl
theorem Tryz.ce84:Tryz.prog.cellsOf 84=1:=by kernel_rfl
theorem Tryz.ce28:Tryz.prog.cellsOf 28=33:=by kernel_rfl
theorem Tryz.by28:Tryz.prog.bytesOf 28=40:=by kernel_rfl
theorem Tryz.ce29:Tryz.prog.cellsOf 29=1:=by kernel_rfl
theorem Tryz.ce110:Tryz.prog.cellsOf 110=34:=by kernel_rfl
theorem Tryz.by110:Tryz.prog.bytesOf 110=48:=by kernel_rfl
theorem Tryz.ce30:Tryz.prog.cellsOf 30=1:=by kernel_rfl
theorem Tryz.ce35:Tryz.prog.cellsOf 35=6:=by kernel_rfl
theorem Tryz.ce24:Tryz.prog.cellsOf 24=2:=by kernel_rfl
theorem Tryz.ce4:Tryz.prog.cellsOf 4=1:=by kernel_rfl
theorem Tryz.ce89:Tryz.prog.cellsOf 89=33:=by kernel_rfl
theorem Tryz.by89:Tryz.prog.bytesOf 89=56:=by kernel_rfl
theorem Tryz.ce31:Tryz.prog.cellsOf 31=1:=by kernel_rfl
theorem Tryz.ce33:Tryz.prog.cellsOf 33=42:=by kernel_rfl
theorem Tryz.ce38:Tryz.prog.cellsOf 38=54:=by kernel_rfl
end Go.Proofs.YtmbpneaibmldfaaGreat
namespace Go.Proofs.YtmbpneaibmldfaaGreat
open Go.RowKit Go.Eng Go.Eng _root_.Go.Proofs.Tryz
set_option maxRecDepth 100000
variable {w0 w:World} {M0 Fz:Nat→Prop} {H:List It} {A:Option Addr} {c:Nat}
set_option maxHeartbeats 40000000 in
theorem r12_within {n:Int} {least:Int} {most:Int}:Ret prog 94 #[.int .i64 n, .int .i64 least, .int .i64 most] w (fun v w'=>v= .bool (decide (least≤n∧n≤most))∧w'=w):=by
 refine ret_of_wk func94 rfl ntmps94 leB_ ?_
 refine so ?_
 refine Gs 10 ?_ ?_<;>intro hg1<;>refine so ?_
 refine Pt ?_
 exact ⟨_,rfl,congrArg Value.bool (decide_eq_decide.2 (by omega)),rfl⟩
 refine Pt ?_
 exact ⟨_,rfl,bool_f (by omega),rfl⟩
set_option maxHeartbeats 40000000 in
theorem less_ok {a:Dig} {b:Dig}:Ret prog 140 #[.agg (digC a).toArray, .agg (digC b).toArray] w (fun v w'=>v= .bool (ltD a.l b.l)∧Ext w w'):=by
 refine ret_of_wk func140 rfl ntmps140 leB_ ?_
 have hp:=HP.begin_ w
 refine so ?_
 refine Bx hp (h:=fun gs2 w1 hp hE1=> ?_)
 refine Bx hp (h:=fun gs3 w2 hp hE2=>so ?_)
 refine Lp [2, 3, 5] (fun L' w' mes => ∃ (k : Nat), L' = [(2, pt gs2 0), (3, pt gs3 0), (5, iv (k : Int))] ∧ (k ≤ 32) ∧ (ltD a.l b.l = ltD (a.l.drop k) (b.l.drop k)) ∧ Ext w2 w' ∧ 32 - k = mes) (32 - 0) (by
     refine ⟨0,rfl, ?_, ?_,me,rfl⟩
     omega
     rfl) ?_
 rintro _ wr _ ⟨k,rfl,hk,hlt,hEq0,rfl⟩ KL1 hKL1
 replace hp:=hp.ext hEq0
 refine so ?_
 refine Cd ?_ ?_<;>intro hk2<;>refine so ?_
 refine wdP 7 hp (fun wD hp hED=>by refine pm ?_;exact .op rfl (wl_idxA (by decide) ar26 rfl rfl k rfl (by omega) (wl_nil qp)) (by refine pm ?_;exact .op rfl (Ld_ sc5 rfl ((((hp.blkAt (i:=1) rfl).at_ 0).take 32).dig rfl (by omega)) (wl_nil qp)) (by refine pm ?_;exact .op rfl (wl_idxA (by decide) ar26 rfl rfl k rfl (by omega) (wl_nil qp)) (by refine pm ?_;exact .op rfl (Ld_ sc5 rfl ((((hp.blkAt (i:=0) rfl).at_ 0).take 32).dig rfl (by omega)) (wl_nil qp)) pl)))) fun wD hp hED=> ?_
 refine so ?_
 refine Cd ?_ ?_<;>intro hne<;>refine so ?_
 refine wdP 8 hp (fun wD hp hED=>by refine pm ?_;exact .op rfl (wl_idxA (by decide) ar26 rfl rfl k rfl (by omega) (wl_nil qp)) (by refine pm ?_;exact .op rfl (Ld_ sc5 rfl ((((hp.blkAt (i:=1) rfl).at_ 0).take 32).dig rfl (by omega)) (wl_nil qp)) (by refine pm ?_;exact .op rfl (wl_idxA (by decide) ar26 rfl rfl k rfl (by omega) (wl_nil qp)) (by refine pm ?_;exact .op rfl (Ld_ sc5 rfl ((((hp.blkAt (i:=0) rfl).at_ 0).take 32).dig rfl (by omega)) (wl_nil qp)) pl)))) fun wD hp hED=> ?_
 refine so ?_
 refine Pt ?_
 exact ⟨_,rfl,congrArg Value.bool (by rw [hlt,ltD_step a.h b.h (by omega:k<32),if_neg (fun e=>hne (by rw [e]))];exact decide_eq_decide.2 (by omega)),hp.chg⟩
 refine Kl [2,3,5] hKL1 (32-(k+1)) ⟨(k+1),rfl,by omega, ?_,me,rfl⟩ (by omega)
 rw [hlt,ltD_step a.h b.h (by omega),if_pos (UInt8.toNat_inj.1 (by omega))]
 refine Pt ?_
 exact ⟨_,rfl,congrArg Value.bool (by rw [hlt,ltD_end a.h (by omega)]),hp.chg⟩
def RwP (te:Nat) (w0:World) (M0 Fz:Nat→Prop) (w:World) (H:List It) (out:List UInt8) (v:Value) (w2:World):Prop:= ∃A' c',v= .slice A' out.length c'∧HP w0 M0 Fz w2 (itR te 1 A' out.length c' (out.map bv)::H)∧Frz Fz Fz w w2
theorem len_is {α:Type} {l:List α} {m:Int} (h:(l.length:Int)≤m) (hm:m≤40):isNum (l.length:Int):=by unfold isNum;omega
end Go.Proofs.YtmbpneaibmldfaaGreat
namespace Go.Proofs.YtmbpneaibmldfaaGreat
open Go.RowKit Go.Eng _root_.Go.Proofs.Tryz Go.Eng _root_.Go.Proofs.Tryz
set_option maxRecDepth 100000
variable {w0 w:World} {M0 Fz:Nat→Prop} {H:List It} {A:Option Addr} {c:Nat}
theorem size_bat {r:Rpl} (h:sizeR r≤1000000000000):r.img.batches.length*56≤140737488355328:=by
 unfold sizeR at h
 omega
def ImgMay (m:Img):Prop:=(0≤m.view∧m.view≤1048576)∧isNum m.low.seq∧isNum m.ran∧((m.own.length:Int)≤4∧∀y∈m.own,isNum y.seq)∧((m.done.length:Int)≤8∧∀y∈m.done,isNum y.seq)∧((m.p.length:Int)≤8∧∀y∈m.p,istandOk y)∧((m.q.length:Int)≤32∧∀y∈m.q,istandOk y)∧m.batches.length≤40∧∀y∈m.batches,batchOk y.wishes
theorem w22_ok {a b c:Int} {w:World}:Ret prog 43 #[.int .i64 a, .int .i64 b, .int .i64 c] w (fun v w'=>v= .bool (decide (b≤a∧a≤c))∧w'=w):=by
 refine ret_of_wk func43 rfl ntmps43 leB_ ?_
 refine so ?_
 refine Gs 10 ?_ ?_<;>intro h1<;>refine so ?_
 ·refine Pt ?_
  exact ⟨_,rfl,congrArg Value.bool (decide_eq_decide.2 ⟨fun h=>⟨h1,h⟩,fun h=>h.2⟩),rfl⟩
 ·refine Pt ?_
  exact ⟨_,rfl,congrArg Value.bool (decide_eq_false (fun h=>h1 h.1)).symm,rfl⟩
theorem n08_ok {a:Int} {w:World}:Ret prog 89 #[.int .i64 a] w (fun v w'=>v= .bool (decide (1≤a∧a≤28))∧w'=w):=by
 refine ret_of_wk func89 rfl ntmps89 leB_ ?_
 refine so ?_
 refine Gs 5 ?_ ?_<;>intro h1<;>refine so ?_
 ·refine Pt ?_
  exact ⟨_,rfl,congrArg Value.bool (decide_eq_decide.2 ⟨fun h=>⟨h1,h⟩,fun h=>h.2⟩),rfl⟩
 ·refine Pt ?_
  exact ⟨_,rfl,congrArg Value.bool (decide_eq_false (fun h=>h1 h.1)).symm,rfl⟩
theorem getD_get {α:Type} {l:List α} {k:Nat} {z:α} (h:k<l.length):l.getD k z=l[k]:=by rw [List.getD_eq_getElem?_getD,List.getElem?_eq_getElem h];rfl
theorem bytesNo_ok {w:World} {S:Nat→Prop} {cs:List Value} {x:Wsh} (hx:wishR.rd S w cs x) (hm: ¬WishMay x):Ret prog 85 #[.agg cs.toArray] w (fun v w'=>v= .tuple #[.slice none 0 0, .int .i64 2]∧Ext w w'):=by
 have hl:=wishR.len hx
 refine ret_of_wk func85 rfl ntmps85 leB_ ?_
 have hp:=HP.begin_ w
 refine so ?_
 refine Bx hp (h:=fun g1 w1 hp E1=>so ?_)
 refine wl_hloadX cs (i:=0) (by decide) ag112 rfl hp rfl hl (by rw [List.drop_zero,List.take_of_length_le (by rw [hl];exact Nat.le_refl _)]) (so ?_)
 refine Cx hp (r11Check_ok (wishR.keep E1 (fun _ _ _ x=>x) hx)) fun w2 hp E2=> ?_
 rw [if_neg hm]
 refine so ?_
 refine Cd ?_ ?_<;>intro h1<;>refine so ?_
 ·refine P2 results85 ?_
  exact ⟨_,rfl,rfl,hp.chg⟩
 ·exact absurd (by decide) h1
theorem rmK {p:Prop} (h:p:=by (try simp only [List.length_append,List.length_nil]);omega):p:=h
theorem rmL {p:Prop} (h:p:=by (try simp only [listE,List.length_append,List.length_nil]);omega):p:=h
end Go.Proofs.YtmbpneaibmldfaaGreat
