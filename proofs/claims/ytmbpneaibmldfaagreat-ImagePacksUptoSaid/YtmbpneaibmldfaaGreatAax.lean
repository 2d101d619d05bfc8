/- What each of these functions computes, for every argument that its theorem names; a part of what the proof of ImageOnce stands on. -/
import Derived.Test.YtmbpneaibmldfaaGreatAac
import Derived.Test.YtmbpneaibmldfaaGreatAad
import Derived.Test.YtmbpneaibmldfaaGreatAaf
import Derived.Test.YtmbpneaibmldfaaGreatAag
import Derived.Test.YtmbpneaibmldfaaGreatAai
import Derived.Test.YtmbpneaibmldfaaGreatAaj
import Derived.Test.YtmbpneaibmldfaaGreatAaq
import Derived.Test.YtmbpneaibmldfaaGreatAas
import Derived.Test.YtmbpneaibmldfaaGreatAav
namespace Go.Proofs.YtmbpneaibmldfaaGreat
open Go.RowKit Go.Eng Go.Eng _root_.Go.Proofs.Tryz
set_option maxRecDepth 100000
variable {w0 w:World} {M0 Fz:Nat→Prop} {H:List It} {A:Option Addr} {c:Nat}
set_option maxHeartbeats 40000000 in
theorem r11Batch_ok {Al:Option Addr} {cl:Nat} {l:List Wsh} {Sl:Nat→Prop} (hl:GS wishR Sl w Al cl l) (hok:batchOk l):Ret prog 40 #[.slice Al l.length cl] w (fun v w'=> ∃A' c',v= .tuple #[.slice A' (blistE l).length c', .int .i64 0]∧OwnB 5 w.heap.size w' A' c' (blistE l)∧Ext w w'):=by
 have hnl:isNum (l.length:Int):=by have:=hok.1;unfold isNum;omega
 have hbl4:=hok.1
 refine ret_of_wk func40 rfl ntmps40 leB_ ?_
 have hp:=HP.begin_ w
 refine so ?_
 refine Cd ?_ ?_<;>intro hc<;>refine so ?_
 omega
 refine Ce (r11NumW_ok (n:=(l.length:Int)) hnl) ?_
 rintro _ w1 ⟨A1,c1,rfl,ho1,hE1⟩
 replace hp:=((hp.ownRow hE1 ho1).as_ (H':=itR 5 1 A1 (numE (l.length:Int)).length c1 ((numE (l.length:Int)).map bv):: []) rfl)
 refine so ?_
 refine wc_loop (fun L' w' mes => ∃ (k : Nat), ∃ (A2 : Option Addr), ∃ (c2 : Nat), L' = [(0, .slice Al l.length cl), (4, .slice A2 ((numE (l.length : Int)) ++ flatE witemE (l.take k)).length c2), (5, iv (k : Int))] ∧ (k ≤ l.length) ∧ (GS wishR (fun b => b < w.heap.size) w' Al cl l) ∧ (HP w (fun _ => False) (fun b => b < w.heap.size) w' (itR 5 1 A2 ((numE (l.length : Int)) ++ flatE witemE (l.take k)).length c2 (((numE (l.length : Int)) ++ flatE witemE (l.take k)).map bv) :: [])) ∧ l.length - k = mes) [(0, .slice Al l.length cl), (4, .slice A1 ((numE (l.length : Int)) ++ flatE witemE (l.take 0)).length c1), (5, iv (0 : Int))] (l.length - 0) (by
     refine ⟨0,A1,c1,rfl, ?_, ?_, ?_,rfl⟩
     · exact Nat.zero_le _
     · exact hl.tn
     · rw [List.take_zero,flatE_nil,List.append_nil];exact hp) ⟨rfl,(by rw [List.take_zero,flatE_nil,List.append_nil];rfl),rfl,trivial⟩ ?_
 rintro _ wr _ ⟨k,A2,c2,rfl,hk,hl,hp,rfl⟩ KL1 hKL1
 refine so ?_
 refine Cd ?_ ?_<;>intro hk8
 have hk9:k<l.length:=by omega
 have hrm:=flat_roomD witemE l k wish0 hk9
 have hbl5:=blist_len hok
 (try simp only [blistE,listE,List.length_append] at hbl5)
 rw [show (witemE (l.getD k wish0)).length=(strE (wishE (l.getD k wish0))).length from rfl] at hrm
 have hsl:(wishE (l.getD k wish0)).length≤65536:=by have:=(wish_fine (getD_may hok.2 hk9)).2;omega
 refine so ?_
 obtain ⟨ae2,pe2_0,qe2_0,pe2_1,qe2_1,hAe2,hate2,hIe2,he2_0,he2_1⟩:=wishR_el hl k (by omega)
 refine so ?_
 have hmx:WishMay (l.getD k wish0):=getD_may hok.2 hk9
 refine Ce (r11Bytes_ok (x:=(l.getD k wish0)) ⟨hIe2,_,_,_,_,rfl,he2_0,he2_1⟩ hmx) ?_
 rintro _ w3 ⟨A3,c3,rfl,ho3,hE3⟩
 replace hp:=hp.ext hE3
 refine so ?_
 refine aF (so ?_)
 refine Ce (r11StrW_ok ho3.bs hsl) ?_
 rintro _ w4 ⟨A4,c4,rfl,ho4,hE4⟩
 replace hp:=hp.ext hE4
 refine wl_happendB (i:=0) (l2:=(strE (wishE (l.getD k wish0)))) (by decide) sl36 rfl rfl hp rfl ho4.bs (by (try simp only [List.length_append]);omega) ?_
 rintro A5 c5 w5 hp hC5
 refine so ?_
 have hnx:((numE (l.length:Int))++flatE witemE (l.take (k+1)))=(((numE (l.length:Int))++flatE witemE (l.take k))++(strE (wishE (l.getD k wish0)))):=by
   rw [flat_takeD witemE l k wish0 hk9]
   simp only [witemE,←List.append_assoc]
 refine wk_drop [(0, .slice Al l.length cl),(4, .slice A5 ((numE (l.length:Int))++flatE witemE (l.take (k+1))).length c5),(5,iv ((k+1):Int))] ⟨rfl,(by rw [hnx];rfl),rfl,trivial⟩ (hKL1 _ _ (m2:=l.length-(k+1)) ?_ ?_)
 refine ⟨(k+1),A5,c5,rfl,by omega,hl.to, ?_,rfl⟩
 rw [hnx];exact hp
 omega
 obtain rfl:k=l.length:=by omega
 refine so ?_
 refine P2 results40 ?_
 have e9:numE (l.length:Int)++flatE witemE (l.take l.length)=blistE l:=by rw [List.take_length];rfl
 rw [e9] at hp
 exact ⟨_,rfl,A2,c2,by rw [e9],hp.rowLo (i:=0) rfl,hp.chg⟩
end Go.Proofs.YtmbpneaibmldfaaGreat
