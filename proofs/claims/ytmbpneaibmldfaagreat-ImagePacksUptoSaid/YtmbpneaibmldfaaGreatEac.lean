/- What each of these functions computes, for every argument that its theorem names; a part of what the proof of ImagePacksUpto stands on. -/
import Derived.Test.YtmbpneaibmldfaaGreatEaa
import Derived.Test.YtmbpneaibmldfaaGreatAaa
import Derived.Test.YtmbpneaibmldfaaGreatAab
import Derived.Test.YtmbpneaibmldfaaGreatAac
import Derived.Test.YtmbpneaibmldfaaGreatAaf
import Derived.Test.YtmbpneaibmldfaaGreatAag
import Derived.Test.YtmbpneaibmldfaaGreatAai
import Derived.Test.YtmbpneaibmldfaaGreatAaj
import Derived.Test.YtmbpneaibmldfaaGreatAak
import Derived.Test.YtmbpneaibmldfaaGreatAal
import Derived.Test.YtmbpneaibmldfaaGreatAap
import Derived.Test.YtmbpneaibmldfaaGreatAaq
import Derived.Test.YtmbpneaibmldfaaGreatAas
import Derived.Test.YtmbpneaibmldfaaGreatAav
import Derived.Test.YtmbpneaibmldfaaGreatAax
import Derived.Test.YtmbpneaibmldfaaGreatEab
namespace Go.Proofs.YtmbpneaibmldfaaGreat
open Go.ChangeShapes Go.WideShapes Go.ChangeAt Go.RowKit Go.Eng Go.Eng _root_.Go.Proofs.Tryz
set_option maxRecDepth 100000
variable {w0 w:World} {M0 Fz:Nat→Prop} {H:List It} {A:Option Addr} {c:Nat}
theorem reads_t26:ReadsR Tryz.prog 26 digR (fun _=>True):=reads_digest (e:=5) Tryz.underlying26 Tryz.underlying5 Tryz.ce5 Tryz.ce26
theorem reads_t36 : ReadsR Tryz.prog 36 (sliceR byteR) (fun l => l.length * 1 ≤ 140737488355328) := fun H enc w base sp held fuel cs x h hl hw => by
 obtain ⟨v,h1,h2⟩:=reads_slice (size:=1) (bytes:=1) Tryz.underlying36 rfl (by decide) Tryz.ce5 Tryz.by5 (by decide) (reads_byte Tryz.underlying5) H enc w base sp held fuel cs x h hl hw
 exact ⟨v,h1,h2.2⟩
theorem reads_t22 : ReadsR Tryz.prog 22 (sliceR intR) (fun l => (∀ x ∈ l, -9223372036854775808 ≤ x ∧ x ≤ 9223372036854775807) ∧ l.length * 8 ≤ 140737488355328) := fun H enc w base sp held fuel cs x h hl hw => by
 obtain ⟨v,h1,h2⟩:=reads_slice (size:=1) (bytes:=8) Tryz.underlying22 rfl (by decide) Tryz.ce3 Tryz.by3 (by decide) (reads_int Tryz.underlying3) H enc w base sp held fuel cs x h hl hw
 exact ⟨v,h1,h2⟩
end Go.Proofs.YtmbpneaibmldfaaGreat
namespace Go.Proofs.YtmbpneaibmldfaaGreat
open Go.RowKit Go.Eng Go.Eng _root_.Go.Proofs.Tryz
set_option maxRecDepth 100000
variable {w0 w:World} {M0 Fz:Nat→Prop} {H:List It} {A:Option Addr} {c:Nat}
set_option maxHeartbeats 4000000 in
theorem r12_node {n:Int} {w:World}:Ret Tryz.prog 93 #[.int .i64 n] w (fun v w'=>v= .bool (decide (1≤n∧n≤28))∧w'=w):=by
 refine ret_of_wk Tryz.func93 rfl Tryz.ntmps93 (Nat.le_of_ble_eq_true rfl) ?_
 refine wc_seq ?_
 refine wc_region ?_
 refine wl_assign (by decide) rfl ?_
 refine wl_nil ?_
 refine wk_norm ?_
 refine wc_seq ?_
 refine wc_region ?_
 refine wl_move (by decide) rfl ?_
 refine wl_call (by decide) Tryz.cl94 rfl (r12_within) ?_
 rintro _ _ ⟨rfl,rfl⟩
 refine wl_assign (by decide) rfl ?_
 refine wl_nil ?_
 refine wk_norm ?_
 refine wc_ret ?_
 refine wk_post1 (.inl rfl) Tryz.results93 rfl ?_
 exact ⟨_,rfl,congrArg Value.bool (decide_eq_decide.2 (by omega)),rfl⟩
theorem t0_rStandsMay_ok {p:Prop} (h:p:=by exact .inr ⟨rfl,by omega,by omega, .inr ⟨by omega,by first|exact .inl (by omega)|exact .inr ⟨by omega,by assumption⟩|(by_cases hv:(l.getD (k-1) stand0).view=(l.getD k stand0).view<;>first|exact .inl (by omega)|exact .inr ⟨hv,by simp_all⟩)⟩⟩):p:=h
set_option maxHeartbeats 40000000 in
theorem rStandsMay_ok {Al:Option Addr} {cl:Nat} {l:List Stn} {Sl:Nat→Prop} {cscg:List Value} {cg:Chn} {Scg:Nat→Prop} {many:Nat} (hl:GS standR Sl w Al cl l) (hcg:changeR.rd Scg w cscg cg) (hlow:0≤cg.low∧cg.low≤9007199254740983) (hmany:1≤many∧many≤4):Ret prog 95 #[.slice Al l.length cl, .agg cscg.toArray, .int .i64 (many:Int)] w (fun v w'=>v= .bool (decide (StandsMay l cg.low cg.view many))∧Ext w w'):=by
 obtain ⟨hIcg,Acg0,ccg0,Acg1,ccg1,Acg2,ccg2,rfl,hcg0,hcg1,hcg2⟩:=hcg
 have mhl:=hl.mx
 have mhcg0:=hcg0.mx
 have mhcg1:=hcg1.mx
 have mhcg2:=hcg2.mx
 refine ret_of_wk func95 rfl ntmps95 leB_ ?_
 have hp:=HP.begin_ w
 refine so ?_
 refine Bx hp (h:=fun gs4 w1 hp hE1=>so ?_)
 refine wl_mul (by decide) rfl rfl (w64 (by omega) (by omega)) ?_
 refine so ?_
 refine Cd ?_ ?_<;>intro hc1<;>refine so ?_
 refine Pt ?_
 exact ⟨_,rfl,bool_f (fun h=>by have:=stands_len h;omega),hp.chg⟩
 refine Lp [0, 2, 4, 7, 8] (fun L' w' mes => ∃ (k : Nat), ∃ (same : Nat), L' = [(0, .slice Al l.length cl), (2, iv (many : Int)), (4, pt gs4 0), (7, iv (same : Int)), (8, iv (k : Int))] ∧ (k ≤ l.length) ∧ (∀ i, i < k → StandAt l cg.low cg.view many i) ∧ (RunSt l k same) ∧ (same ≤ many) ∧ (l.length ≤ 8 * many) ∧ (GS standR (fun b => b < w.heap.size) w' Al cl l) ∧ (GS markR (fun b => b < w.heap.size) w' Acg0 ccg0 cg.marks) ∧ (GS standR (fun b => b < w.heap.size) w' Acg1 ccg1 cg.p) ∧ (GS standR (fun b => b < w.heap.size) w' Acg2 ccg2 cg.q) ∧ (HP w (fun _ => False) (fun b => b < w.heap.size) w' (itB gs4 35 ([iv cg.node, iv cg.view, iv cg.low, .slice Acg0 cg.marks.length ccg0, .slice Acg1 cg.p.length ccg1, .slice Acg2 cg.q.length ccg2]) :: [])) ∧ l.length - k = mes) (l.length - 0) (by
     refine ⟨0,0,rfl,by omega, ?_,RunSt.zero l,by omega,by omega,hl.tn,hcg0.tn,hcg1.tn,hcg2.tn,hp,rfl⟩
     intro i hi;omega) ?_
 rintro _ wr _ ⟨k,same,rfl,hk,hall,hrun,hsm,hll,hl,hcg0,hcg1,hcg2,hp,rfl⟩ KL1 hKL1
 have hsk:=hrun.1
 refine so ?_
 refine Cd ?_ ?_<;>intro hc2<;>refine so ?_
 obtain ⟨ae2,hAe2,hate2,hIe2⟩:=standR_el hl k (by omega)
 refine so ?_
 refine Alo hp (h:=fun gs9 w3 hp hE3=> ?_)
 refine Hs 0 hp (h:=fun w4 hp hC4=>so ?_)
 refine Gs 32 ?_ ?_<;>intro hg3<;>refine so ?_
 refine aT (so ?_)
 refine Pt ?_
 exact ⟨_,rfl,bool_f (fun h=>by have:=h k (by omega);unfold StandAt at this;omega),hp.chg⟩
 refine Gs 40 ?_ ?_<;>intro hg4<;>refine so ?_
 refine aT (so ?_)
 refine Pt ?_
 exact ⟨_,rfl,bool_f (fun h=>by have:=h k (by omega);unfold StandAt at this;omega),hp.chg⟩
 refine Gs 45 ?_ ?_<;>intro hg5<;>refine so ?_
 refine aT (so ?_)
 refine Pt ?_
 exact ⟨_,rfl,bool_f (fun h=>by have:=h k (by omega);unfold StandAt at this;omega),hp.chg⟩
 refine Cd ?_ ?_<;>intro hc6
 refine so ?_
 refine Pt ?_
 exact ⟨_,rfl,bool_f (fun h=>by have:=h k (by omega);unfold StandAt at this;omega),hp.chg⟩
 refine sl ?_
 refine wc_seq_cut (fun L' w'=> ∃(same0:Nat),L'= [(0, .slice Al l.length cl),(2,iv (many:Int)),(4,pt gs4 0),(7,iv (same0:Int)),(8,iv (k:Int)),(9,pt gs9 0)]∧((same0=0∧(k=0∨(l.getD (k-1) stand0).seq<(l.getD k stand0).seq))∨(same0=same∧0<k∧(l.getD k stand0).seq=(l.getD (k-1) stand0).seq∧OrdLt (l.getD (k-1) stand0) (l.getD k stand0)))∧(GS standR (fun b=>b<w.heap.size) w' Al cl l)∧(GS markR (fun b=>b<w.heap.size) w' Acg0 ccg0 cg.marks)∧(GS standR (fun b=>b<w.heap.size) w' Acg1 ccg1 cg.p)∧(GS standR (fun b=>b<w.heap.size) w' Acg2 ccg2 cg.q)∧(HP w (fun _=>False) (fun b=>b<w.heap.size) w' (itB gs9 110 ([iv ((l.getD k stand0).seq)]++(digC ((l.getD k stand0).dig)++([iv ((l.getD k stand0).view)])))::itB gs4 35 ([iv cg.node,iv cg.view,iv cg.low, .slice Acg0 cg.marks.length ccg0, .slice Acg1 cg.p.length ccg1, .slice Acg2 cg.q.length ccg2]):: []))) (fun K hK=> ?_) ?_
 refine so ?_
 by_cases hs7:(k:Int)=0
 refine wP 13 hp (h:=fun wD hp hED=>so ?_)
 refine aT (so ?_)
 exact Kd [0,2,4,7,8,9] hK ⟨0,rfl, .inl ⟨rfl,by omega⟩,hl.to,hcg0.to,hcg1.to,hcg2.to,hp⟩
 obtain ⟨aw8,hAw8,hatw8,hIw8⟩:=standR_el (hl.to (w':=w4)) (k-1) (by omega)
 refine wdP 13 hp (fun wD hp hED=>by refine pm ?_;exact .op rfl (aGy rfl rfl (by first|rfl|exact bt|exact bf) (wl_idx0 (by decide) sl30 rfl rfl hAw8 (k-1) (by omega) (by omega) (wl_nil qp))) pl) fun wD hp hED=> ?_
 refine so ?_
 refine Cd ?_ ?_<;>intro hc8<;>refine so ?_
 exact Kd [0,2,4,7,8,9] hK ⟨0,rfl, .inl ⟨rfl,by omega⟩,hl.to,hcg0.to,hcg1.to,hcg2.to,hp⟩
 obtain ⟨ae5,hAe5,hate5,hIe5⟩:=standR_el (hl.to (w':=wD)) (k-1) (by omega)
 cases Option.some.inj (hAw8.symm.trans hAe5)
 refine wl_idx0 (by decide) sl30 rfl rfl hAe5 (k-1) (by omega) (by omega) (so ?_)
 refine Alo hp (h:=fun gs10 w6 hp hE6=> ?_)
 refine Hs 0 hp (h:=fun w7 hp hC7=>so ?_)
 refine Gs 75 ?_ ?_<;>intro hg9<;>refine so ?_
 refine aT (so ?_)
 refine Pt ?_
 exact ⟨_,rfl,bool_f (fun h=>stand_order (by omega) (by unfold OrdLt;simp_all;try omega) (h k (by omega))),hp.chg⟩
 refine Gs 82 ?_ ?_<;>intro hg10<;>refine so ?_
 refine aT (so ?_)
 refine Pt ?_
 exact ⟨_,rfl,bool_f (fun h=>stand_order (by omega) (by unfold OrdLt;simp_all;try omega) (h k (by omega))),hp.chg⟩
 refine Gs 88 ?_ ?_<;>intro hg11<;>refine so ?_
 refine Cx hp (less_ok) fun w8 hp hE8=>so ?_
 refine Cd ?_ ?_<;>intro hc12<;>refine so ?_
 refine Pt ?_
 exact ⟨_,rfl,bool_f (fun h=>stand_order (by omega) (by unfold OrdLt;simp_all;try omega) (h k (by omega))),hp.chg⟩
 refine Kd [0,2,4,7,8,9] hK ⟨same,rfl, ?_,hl.to,hcg0.to,hcg1.to,hcg2.to,hp.tail⟩
 exact t0_rStandsMay_ok
 refine aF (so ?_)
 refine Kd [0,2,4,7,8,9] hK ⟨same,rfl, ?_,hl.to,hcg0.to,hcg1.to,hcg2.to,hp.tail⟩
 exact t0_rStandsMay_ok
 rintro _ wc ⟨same0,rfl,hs0,hl,hcg0,hcg1,hcg2,hp⟩
 have hr2:RunSt l (k+1) (same0+1):=by
   rcases hs0 with ⟨rfl,h⟩|⟨rfl,h0,h,_⟩
   · exact hrun.up h
   · exact hrun.on h0 h
 refine so ?_
 refine Cd ?_ ?_<;>intro hc13<;>refine so ?_
 refine Pt ?_
 exact ⟨_,rfl,bool_f (fun h=>stand_many hr2 (by omega) (by omega) (h k (by omega))),hp.chg⟩
 refine wk_re (k:=11) (v:=iv ((k-same0:Nat):Int)) rfl (congrArg (Value.int .i64) (by omega)) (so ?_)
 refine Lp [0, 2, 4, 7, 8, 9, 11] (fun L' w' mes => ∃ (j : Nat), L' = [(0, .slice Al l.length cl), (2, iv (many : Int)), (4, pt gs4 0), (7, iv ((same0 : Int) + 1)), (8, iv (k : Int)), (9, pt gs9 0), (11, iv (j : Int))] ∧ (k - same0 ≤ j) ∧ (j ≤ k) ∧ (∀ i, k - same0 ≤ i → i < j → (l.getD i stand0).dig ≠ (l.getD k stand0).dig) ∧ Ext wc w' ∧ k - j = mes) (k - (k - same0 : Nat)) (by
     refine ⟨(k-same0:Nat),rfl, ?_, ?_, ?_,me,rfl⟩
     omega
     omega
     intro i h1 h2;omega) ?_
 rintro _ wj _ ⟨j,rfl,hj1,hj2,hno,hEq0,rfl⟩ KL2 hKL2
 replace hp:=hp.ext hEq0
 refine so ?_
 refine Cd ?_ ?_<;>intro hc14<;>refine so ?_
 obtain ⟨aw2,hAw2,hatw2,hIw2⟩:=standR_el (hl.to (w':=wj)) j (by omega)
 refine wdP 8 hp (fun wD hp hED=>by refine pm ?_;exact .op rfl (wl_loadA (by decide) ag26 rfl ((hatw2.to.at_.drop 1).take 32) rfl (wl_nil qp)) (by refine pm ?_;exact .op rfl (wl_eqlK (m:=6) ((l.getD j stand0).dig=(l.getD k stand0).dig) (by decide) key26 eg26 rfl rfl (digC_fit _) (digC_fit _) digC_inj (wl_nil qp)) pl)) fun wD hp hED=> ?_
 refine so ?_
 refine Cd ?_ ?_<;>intro hc15<;>refine so ?_
 refine Pt ?_
 exact ⟨_,rfl,bool_f (fun h=>stand_twice hr2 (j:=j) (by omega) (by omega) (by assumption) (h k (by omega))),hp.chg⟩
 refine Kl [0,2,4,7,8,9,11] hKL2 (k-(j+1)) ⟨(j+1),rfl,by omega,by omega, ?_,me,rfl⟩ (by omega)
 intro i h1 h2
 by_cases e:i=j
 subst e;assumption
 exact hno i h1 (by omega)
 refine Kl [0,2,4,7,8] hKL1 (l.length-(k+1)) ⟨(k+1),(same0+1),rfl,by omega, ?_,hr2,by omega,hll,hl.to,hcg0.to,hcg1.to,hcg2.to,hp.tail,rfl⟩ (by omega)
 refine upto hall (stand_step hr2 (by omega) (by omega) (by omega) (by omega) (by omega) (fun h0=> ?_) (by omega) (fun j h1 h2=>hno j (by omega) (by omega)))
 rcases hs0 with ⟨_,h|h⟩|⟨_,_,_,h⟩
 omega
 exact .inl h
 exact h
 refine Pt ?_
 exact ⟨_,rfl,bool_t (fun i hi=>hall i (by omega)),hp.chg⟩
set_option maxHeartbeats 40000000 in
theorem qNum_ok {out:List UInt8} {n:Int} (hp:HP w0 M0 Fz w (itR 5 1 A out.length c (out.map bv)::H)) (hn:isNum n) (hlen:out.length+(numE n).length≤1000000):Ret prog 138 #[.slice A out.length c, .int .i64 n] w (RwP 5 w0 M0 Fz w H (out++numE n)):=by
 have hFr:=Frz.start Fz w
 have hn0:=hn
 unfold isNum at hn0
 refine ret_of_wk func138 rfl ntmps138 leB_ ?_
 refine go ?_
 refine Cl_ cl83 rfl (rnum_is (n:=n) hn) ?_
 rintro _ w1 ⟨A1,c1,rfl,ho1,hE1⟩
 replace hFr:=hFr.ext hE1
 replace hp:=hp.ext hE1
 refine go ?_
 refine wl_happendB (i:=0) (l2:=(numE n)) (by decide) sl36 rfl rfl hp rfl ho1.bs (by omega) ?_
 rintro A2 c2 w2 hp2 hC2
 replace hFr:=hFr.fz hC2
 replace hp:=(hp2.ay (itR 5 1 A2 ((out++(numE n))).length c2 (((out++(numE n))).map bv)::H))
 refine go ?_
 refine P1 results138 ?_
 exact ⟨_,rfl,_,_,rfl,hp.less hFr.sub,hFr.chg,fun _ h=>h⟩
end Go.Proofs.YtmbpneaibmldfaaGreat
namespace Go.Proofs.YtmbpneaibmldfaaGreat
open Go.ChangeShapes Go.WideShapes Go.ChangeAt Go.RowKit Go.Eng Go.Eng _root_.Go.Proofs.Tryz
set_option maxRecDepth 100000
variable {w0 w:World} {M0 Fz:Nat→Prop} {H:List It} {A:Option Addr} {c:Nat}
theorem blk_nodes {H:Type} {enc:TypeId×Value→H} {w:World} {base:Nat} {sp:Nat→Bool} {held:Bool} {fuel:Nat} {cs:List Value} {y:DataW H×List MemPlace} {x:Rpl} {S:Nat→Prop} {W:World} (hr:rplR.rd S W cs x) (h:DataW.trod enc Tryz.prog w base sp held fuel 38 cs=some y):x.nodes.length≤blkD y.1:=by
 obtain ⟨_,A0,c0,A1,c1,A2,c2,A3,c3,A4,c4,A5,c5,A6,c6,A7,c7,A8,c8,A9,c9,e,_⟩:=hr
 obtain ⟨k2,y2,t2,b2⟩:=trod_field Tryz.underlying38 2 rfl h
 replace t2:DataW.trod enc Tryz.prog w base sp held k2 24 (cs.drop 2|>.take (Tryz.prog.cellsOf 24))=some y2:=t2
 rw [Tryz.ce24] at t2
 obtain ⟨k21,y21,t21,b21⟩:=trod_field Tryz.underlying24 1 rfl t2
 replace t21:DataW.trod enc Tryz.prog w base sp held k21 22 (((cs.drop 2).take 2).drop 1|>.take (Tryz.prog.cellsOf 22))=some y21:=t21
 rw [Tryz.ce22] at t21
 subst e
 have hl:=trod_len Tryz.underlying22 t21 rfl
 omega
theorem blk_own {H:Type} {enc:TypeId×Value→H} {w:World} {base:Nat} {sp:Nat→Bool} {held:Bool} {fuel:Nat} {cs:List Value} {y:DataW H×List MemPlace} {x:Rpl} {S:Nat→Prop} {W:World} (hr:rplR.rd S W cs x) (h:DataW.trod enc Tryz.prog w base sp held fuel 38 cs=some y):x.img.own.length≤blkD y.1:=by
 obtain ⟨_,A0,c0,A1,c1,A2,c2,A3,c3,A4,c4,A5,c5,A6,c6,A7,c7,A8,c8,A9,c9,e,_⟩:=hr
 obtain ⟨k3,y3,t3,b3⟩:=trod_field Tryz.underlying38 3 rfl h
 replace t3:DataW.trod enc Tryz.prog w base sp held k3 33 (cs.drop 4|>.take (Tryz.prog.cellsOf 33))=some y3:=t3
 rw [Tryz.ce33] at t3
 obtain ⟨k33,y33,t33,b33⟩:=trod_field Tryz.underlying33 3 rfl t3
 replace t33:DataW.trod enc Tryz.prog w base sp held k33 29 (((cs.drop 4).take 42).drop 35|>.take (Tryz.prog.cellsOf 29))=some y33:=t33
 rw [Tryz.ce29] at t33
 subst e
 have hl:=trod_len Tryz.underlying29 t33 rfl
 omega
theorem blk_p {H:Type} {enc:TypeId×Value→H} {w:World} {base:Nat} {sp:Nat→Bool} {held:Bool} {fuel:Nat} {cs:List Value} {y:DataW H×List MemPlace} {x:Rpl} {S:Nat→Prop} {W:World} (hr:rplR.rd S W cs x) (h:DataW.trod enc Tryz.prog w base sp held fuel 38 cs=some y):x.img.p.length≤blkD y.1:=by
 obtain ⟨_,A0,c0,A1,c1,A2,c2,A3,c3,A4,c4,A5,c5,A6,c6,A7,c7,A8,c8,A9,c9,e,_⟩:=hr
 obtain ⟨k3,y3,t3,b3⟩:=trod_field Tryz.underlying38 3 rfl h
 replace t3:DataW.trod enc Tryz.prog w base sp held k3 33 (cs.drop 4|>.take (Tryz.prog.cellsOf 33))=some y3:=t3
 rw [Tryz.ce33] at t3
 obtain ⟨k34,y34,t34,b34⟩:=trod_field Tryz.underlying33 4 rfl t3
 replace t34:DataW.trod enc Tryz.prog w base sp held k34 30 (((cs.drop 4).take 42).drop 36|>.take (Tryz.prog.cellsOf 30))=some y34:=t34
 rw [Tryz.ce30] at t34
 subst e
 have hl:=trod_len Tryz.underlying30 t34 rfl
 omega
theorem blk_q {H:Type} {enc:TypeId×Value→H} {w:World} {base:Nat} {sp:Nat→Bool} {held:Bool} {fuel:Nat} {cs:List Value} {y:DataW H×List MemPlace} {x:Rpl} {S:Nat→Prop} {W:World} (hr:rplR.rd S W cs x) (h:DataW.trod enc Tryz.prog w base sp held fuel 38 cs=some y):x.img.q.length≤blkD y.1:=by
 obtain ⟨_,A0,c0,A1,c1,A2,c2,A3,c3,A4,c4,A5,c5,A6,c6,A7,c7,A8,c8,A9,c9,e,_⟩:=hr
 obtain ⟨k3,y3,t3,b3⟩:=trod_field Tryz.underlying38 3 rfl h
 replace t3:DataW.trod enc Tryz.prog w base sp held k3 33 (cs.drop 4|>.take (Tryz.prog.cellsOf 33))=some y3:=t3
 rw [Tryz.ce33] at t3
 obtain ⟨k35,y35,t35,b35⟩:=trod_field Tryz.underlying33 5 rfl t3
 replace t35:DataW.trod enc Tryz.prog w base sp held k35 30 (((cs.drop 4).take 42).drop 37|>.take (Tryz.prog.cellsOf 30))=some y35:=t35
 rw [Tryz.ce30] at t35
 subst e
 have hl:=trod_len Tryz.underlying30 t35 rfl
 omega
theorem blk_done {H:Type} {enc:TypeId×Value→H} {w:World} {base:Nat} {sp:Nat→Bool} {held:Bool} {fuel:Nat} {cs:List Value} {y:DataW H×List MemPlace} {x:Rpl} {S:Nat→Prop} {W:World} (hr:rplR.rd S W cs x) (h:DataW.trod enc Tryz.prog w base sp held fuel 38 cs=some y):x.img.done.length≤blkD y.1:=by
 obtain ⟨_,A0,c0,A1,c1,A2,c2,A3,c3,A4,c4,A5,c5,A6,c6,A7,c7,A8,c8,A9,c9,e,_⟩:=hr
 obtain ⟨k3,y3,t3,b3⟩:=trod_field Tryz.underlying38 3 rfl h
 replace t3:DataW.trod enc Tryz.prog w base sp held k3 33 (cs.drop 4|>.take (Tryz.prog.cellsOf 33))=some y3:=t3
 rw [Tryz.ce33] at t3
 obtain ⟨k37,y37,t37,b37⟩:=trod_field Tryz.underlying33 7 rfl t3
 replace t37:DataW.trod enc Tryz.prog w base sp held k37 29 (((cs.drop 4).take 42).drop 39|>.take (Tryz.prog.cellsOf 29))=some y37:=t37
 rw [Tryz.ce29] at t37
 subst e
 have hl:=trod_len Tryz.underlying29 t37 rfl
 omega
theorem blk_batches {H:Type} {enc:TypeId×Value→H} {w:World} {base:Nat} {sp:Nat→Bool} {held:Bool} {fuel:Nat} {cs:List Value} {y:DataW H×List MemPlace} {x:Rpl} {S:Nat→Prop} {W:World} (hr:rplR.rd S W cs x) (h:DataW.trod enc Tryz.prog w base sp held fuel 38 cs=some y):x.img.batches.length≤blkD y.1:=by
 obtain ⟨_,A0,c0,A1,c1,A2,c2,A3,c3,A4,c4,A5,c5,A6,c6,A7,c7,A8,c8,A9,c9,e,_⟩:=hr
 obtain ⟨k3,y3,t3,b3⟩:=trod_field Tryz.underlying38 3 rfl h
 replace t3:DataW.trod enc Tryz.prog w base sp held k3 33 (cs.drop 4|>.take (Tryz.prog.cellsOf 33))=some y3:=t3
 rw [Tryz.ce33] at t3
 obtain ⟨k39,y39,t39,b39⟩:=trod_field Tryz.underlying33 9 rfl t3
 replace t39:DataW.trod enc Tryz.prog w base sp held k39 31 (((cs.drop 4).take 42).drop 41|>.take (Tryz.prog.cellsOf 31))=some y39:=t39
 rw [Tryz.ce31] at t39
 subst e
 have hl:=trod_len Tryz.underlying31 t39 rfl
 omega
theorem blk_state {H:Type} {enc:TypeId×Value→H} {w:World} {base:Nat} {sp:Nat→Bool} {held:Bool} {fuel:Nat} {cs:List Value} {y:DataW H×List MemPlace} {x:Rpl} {S:Nat→Prop} {W:World} (hr:rplR.rd S W cs x) (h:DataW.trod enc Tryz.prog w base sp held fuel 38 cs=some y):x.state.length≤blkD y.1:=by
 obtain ⟨_,A0,c0,A1,c1,A2,c2,A3,c3,A4,c4,A5,c5,A6,c6,A7,c7,A8,c8,A9,c9,e,_⟩:=hr
 obtain ⟨k6,y6,t6,b6⟩:=trod_field Tryz.underlying38 6 rfl h
 replace t6:DataW.trod enc Tryz.prog w base sp held k6 36 (cs.drop 53|>.take (Tryz.prog.cellsOf 36))=some y6:=t6
 rw [Tryz.ce36] at t6
 subst e
 have hl:=trod_len Tryz.underlying36 t6 rfl
 omega
end Go.Proofs.YtmbpneaibmldfaaGreat
namespace Go.Proofs.YtmbpneaibmldfaaGreat
open Go.RowKit Go.Eng _root_.Go.Proofs.Tryz Go.Eng _root_.Go.Proofs.Tryz
set_option maxRecDepth 100000
variable {w0 w:World} {M0 Fz:Nat→Prop} {H:List It} {A:Option Addr} {c:Nat}
theorem imgMay_iff {m:Img}:ImgMay m↔imgOk m:=by
 unfold ImgMay imgOk batOk markOk isNum
 constructor
 ·rintro ⟨a, b, c, d, e, f, g, h, i⟩
  exact ⟨⟨⟨a.1,by omega⟩,a.2⟩,trivial,⟨b,trivial⟩,⟨d.1,fun y hy=>⟨d.2 y hy,trivial⟩⟩,f,g,c,⟨e.1,fun y hy=>⟨e.2 y hy,trivial⟩⟩,trivial,by omega,fun y hy=>⟨trivial,i y hy⟩⟩
 ·rintro ⟨a, _, b, d, f, g, c, e, _, h, i⟩
  exact ⟨⟨a.1.1,a.2⟩,b.1,c,⟨d.1,fun y hy=>(d.2 y hy).1⟩,⟨e.1,fun y hy=>(e.2 y hy).1⟩,f,g,by omega,fun y hy=>(i y hy).2⟩
theorem n22_ok {a:Int} {w:World}:Ret prog 90 #[.int .i64 a] w (fun v w'=>v= .bool (decide (0≤a∧a≤9007199254740991))∧w'=w):=by
 refine ret_of_wk func90 rfl ntmps90 leB_ ?_
 refine so ?_
 refine Cs w22_ok (so ?_)
 refine Pt ?_
 exact ⟨_,rfl,congrArg Value.bool (decide_eq_decide.2 Iff.rfl),rfl⟩
set_option maxHeartbeats 4000000 in

theorem r11BatchE_ok {w:World} {S:Nat→Prop} {l:List Wsh} {A:Option Addr} {c:Nat} (hl:GS wishR S w A c l):Ret prog 40 #[.slice A l.length c] w (fun v w'=> ∃B b d e,v= .tuple #[.slice B (b:List UInt8).length d, .int .i64 e]∧(e=0↔batchOk l)∧Ext w w'):=by
 by_cases hok:batchOk l
 ·exact (r11Batch_ok hl hok).mono (by
   rintro v w' ⟨A',c',rfl,_,hE⟩
   exact ⟨A',_,c',0,rfl,⟨fun _=>hok,fun _=>rfl⟩,hE⟩)
 have mx:=hl.mx
 refine ret_of_wk func40 rfl ntmps40 leB_ ?_
 have hp:=HP.begin_ w
 refine so ?_
 refine Cd ?_ ?_<;>intro h1<;>refine so ?_
 ·refine P2 results40 ?_
  exact ⟨_,rfl,none, [],0,5,rfl,⟨fun h=>(by cases h),fun h=>absurd h hok⟩,hp.chg⟩
 refine Ce (r11NumW_ok (n:=(l.length:Int)) (by unfold isNum;omega)) ?_
 rintro _ w1 ⟨A1,c1,rfl,ho1,E1⟩
 have hn1:(numE (l.length:Int)).length≤2:=numE_small (by omega) (by omega)
 replace hp:=hp.ownRow E1 ho1
 have hlF:=(hl.ext E1).now
 refine so ?_
 refine Lp [0,4,5] (fun L' w' mes=> ∃(k:Nat) (A2:Option Addr) (c2:Nat) (o:List UInt8),L'= [(0, .slice A l.length c),(4, .slice A2 o.length c2),(5,iv (k:Int))]∧k≤l.length∧o.length≤2+70*k∧(∀i,i<k→WishMay (l.getD i wish0))∧HP w (fun _=>False) (fun b=>b<w.heap.size) w' [itR 5 1 A2 o.length c2 (o.map bv)]∧l.length-k=mes) (l.length-0) ⟨0,A1,c1,_,rfl,Nat.zero_le _,hn1,fun i h=>absurd h (Nat.not_lt_zero _),hp,rfl⟩ ?_
 rintro _ wr _ ⟨k,A2,c2,o,rfl,hk,hol,ha,hp,rfl⟩ KL hKL
 refine so ?_
 refine Cd ?_ ?_<;>intro hc
 ·have hk9 : k < l.length := by omega
  have hlr:GS wishR (fun b=>b<w.heap.size) wr A c l:=hl.now.keep hp.chg (fun _ _ _ h=>h)
  obtain ⟨ae,cs,hA,hat,hre⟩:=hlr.el k hk9
  have hls:=wishR.len hre
  refine so ?_
  have hat:AtF (fun b=>b<w.heap.size) wr (ae.add (k*10)) cs:=hat
  refine wl_loadA (by decide) ag112 rfl hat.at_ hls (so ?_)
  by_cases hm:WishMay l[k]
  ·have hwl := wish_len hm
   refine Ce (r11Bytes_ok hre hm) ?_
   rintro _ w2 ⟨A3,c3,rfl,ho3,E2⟩
   replace hp:=hp.ext E2
   refine so ?_
   refine Cd ?_ ?_<;>intro h2
   ·exact absurd rfl h2
   refine so ?_
   refine Ce (r11StrW_ok ho3.bs (by omega)) ?_
   rintro _ w3 ⟨A4,c4,rfl,ho4,E3⟩
   replace hp:=hp.ext E3
   have hsl:(strE (wishE l[k])).length≤64:=by
    have:(numL (wishE l[k]).length).length≤2:=numE_small (n:=((wishE l[k]).length:Int)) (by omega) (by omega)
    unfold strE
    rw [List.length_append]
    omega
   refine so ?_
   refine Ar (l2:=strE (wishE l[k])) hp ho4.bs (by omega) fun A5 c5 w5 hp C5=>so ?_
   refine Kl [0,4,5] hKL (l.length-(k+1)) ⟨k+1,A5,c5,_,rfl,hk9,by rw [List.length_append];omega,fun i hi=> ?_,hp,rfl⟩ (by omega)
   by_cases e:i=k
   ·subst e
    rw [getD_get hk9]
    exact hm
   ·exact ha i (by omega)
  ·refine Ce (bytesNo_ok hre hm) ?_
   rintro _ w2 ⟨rfl,E2⟩
   refine so ?_
   refine Cd ?_ ?_<;>intro h2
   ·refine so ?_
    refine P2 results40 ?_
    exact ⟨_,rfl,none, [],0,2,rfl,⟨fun h=>(by cases h),fun h=>absurd h hok⟩,(hp.ext E2).chg⟩
   ·exact absurd (by decide) h2
 ·obtain rfl : k = l.length := by omega
  refine absurd ⟨by omega,fun x hx=> ?_⟩ hok
  obtain ⟨i,hi,rfl⟩:=List.mem_iff_getElem.1 hx
  rw [←getD_get (z:=wish0) hi]
  exact ha i hi
set_option maxHeartbeats 4000000 in
theorem r08Check_ok {cs:List Value} {x:Crw} {S:Nat→Prop} {w:World} (hx:crewR.rd S w cs x):Ret prog 44 #[.agg cs.toArray] w (fun v w'=>v= .int .i64 (if crewMay x.faults x.nodes then 0 else 110)∧Ext w w'):=by
 obtain ⟨hI,B0,d0,rfl,h0⟩:=hx
 have mx:=h0.mx
 refine ret_of_wk func44 rfl ntmps44 leB_ ?_
 have hp:=HP.begin_ w
 have no: ∀{w':World},Ext w w'→¬crewMay x.faults x.nodes→∃v,Ending.returned (iv 110)= .returned v∧v= .int .i64 (if crewMay x.faults x.nodes then 0 else 110)∧Ext w w':=fun hE h=>⟨_,rfl,by rw [if_neg h],hE⟩
 refine so ?_
 refine Bx hp (h:=fun g1 w1 hp E1=>so ?_)
 refine Gs 7 ?_ ?_<;>intro h1<;>refine so ?_
 ·refine aT (so ?_)
  refine Pt ?_
  exact no hp.chg (fun h=>by have:=h.1;omega)
 refine Gs 12 ?_ ?_<;>intro h2<;>refine so ?_
 ·refine aT (so ?_)
  refine Pt ?_
  exact no hp.chg (fun h=>by have:=h.2.1;omega)
 refine wl_mul (by decide) rfl rfl (w64 (by omega) (by omega)) ?_
 refine so ?_
 refine Cd ?_ ?_<;>intro h3<;>refine so ?_
 ·refine Pt ?_
  exact no hp.chg (fun h=>by have:=h.2.2.1;omega)
 refine Lp [1,3] (fun L' w' mes=> ∃(k:Nat),L'= [(1,pt g1 0),(3,iv (k:Int))]∧k≤x.nodes.length∧(∀i,i<k→1≤x.nodes.getD i 0∧x.nodes.getD i 0≤28∧(0<i→x.nodes.getD (i-1) 0<x.nodes.getD i 0))∧Ext w1 w'∧x.nodes.length-k=mes) (x.nodes.length-0) ⟨0,rfl,Nat.zero_le _,fun i h=>absurd h (Nat.not_lt_zero _),Chg.refl _ _,rfl⟩ ?_
 rintro _ wr _ ⟨k,rfl,hk,hr,hE,rfl⟩ KL hKL
 replace hp:=hp.ext hE
 refine so ?_
 refine Cd ?_ ?_<;>intro hc
 ·have hk9 : k < x.nodes.length := by omega
  have hl:=(h0.ext E1).ext hE
  obtain ⟨ae,hA,hat⟩:=GS.el1 hl k hk9
  have hgd:x.nodes.getD k 0=x.nodes[k]:=by rw [List.getD_eq_getElem?_getD,List.getElem?_eq_getElem hk9];rfl
  rw [←hgd] at hat
  have nx: ∀w9,Ext wr w9→1≤x.nodes.getD k 0∧x.nodes.getD k 0≤28∧(0<k→x.nodes.getD (k-1) 0<x.nodes.getD k 0)→WK 54 KL [(1,pt g1 0),(3,iv ((k:Int)+1))] w9:=fun w9 h9 h=>by
   refine Kl [1,3] hKL (x.nodes.length-(k+1)) ⟨k+1,rfl,hk9,fun i hi=> ?_,hE.trans h9,rfl⟩ (by omega)
   by_cases e:i=k
   ·subst e
    exact h
   ·exact hr i (by omega)
  have fin: ∀{L:List (Nat×Value)} {w9},pk L [1,3]= [(1,pt g1 0),(3,iv ((k:Int)+1))]→([1,3].all fun i=>(lk L i).isSome)=true→Ext wr w9→1≤x.nodes.getD k 0∧x.nodes.getD k 0≤28∧(0<k→x.nodes.getD (k-1) 0<x.nodes.getD k 0)→WK 54 KL L w9:=fun h1 h2 h3 h4=>wk_drop _ (by rw [←h1];exact pk_sub h2) (nx _ h3 h4)
  clear nx hKL hgd
  have bad: ¬(1≤x.nodes.getD k 0∧x.nodes.getD k 0≤28∧(0<k→x.nodes.getD (k-1) 0<x.nodes.getD k 0))→¬crewMay x.faults x.nodes:=fun hn h=>hn (h.2.2.2 k hk9)
  refine so ?_
  by_cases b1:1≤x.nodes.getD k 0∧x.nodes.getD k 0≤28
  ·have nb1 : ¬ ¬ (1 ≤ x.nodes.getD k 0 ∧ x.nodes.getD k 0 ≤ 28) := fun h => h b1
   by_cases b2:(k:Int)>0
   ·obtain ⟨ae2, hA2, hat2⟩ := GS.el1 hl (k - 1) (by omega)
    rw [hA] at hA2
    cases hA2
    have hgd2:x.nodes.getD (k-1) 0=x.nodes[k-1]:=by rw [List.getD_eq_getElem?_getD,List.getElem?_eq_getElem (by omega:k-1<x.nodes.length)];rfl
    rw [←hgd2] at hat2
    refine wdP 22 hp (fun wD hp hED=>by
     refine pm ?_
     exact PLs n08_ok (h:=by
      refine pm ?_
      exact .op rfl (aGy rfl rfl bt0 (wl_idx0 (by decide) sl22 rfl rfl hA (k-1) (by omega) (by omega) (wl_nil qp))) pl)) fun wD hp hED=>so ?_
    refine Gs 36 ?_ ?_<;>intro c1
    ·exact absurd b1 c1
    refine so ?_
    refine Gs 39 ?_ ?_<;>intro c2
    rotate_left
    ·exact absurd b2 c2
    refine so ?_
    refine Cd ?_ ?_<;>intro c3<;>refine so ?_
    ·refine Pt ?_
     exact no hp.chg (bad (fun h=>by have:=h.2.2 (by omega);omega))
    ·exact fin rfl rfl hED ⟨b1.1,b1.2,fun _=>by omega⟩
   ·refine wdP 22 hp (fun wD hp hED => by
     refine pm ?_
     exact PLs n08_ok (h:=pl)) fun wD hp hED=>so ?_
    refine Gs 36 ?_ ?_<;>intro c1
    ·exact absurd b1 c1
    refine so ?_
    refine Gs 39 ?_ ?_<;>intro c2
    ·exact absurd c2 b2
    refine so ?_
    refine aF (so ?_)
    exact fin rfl rfl hED ⟨b1.1,b1.2,fun _=>by omega⟩
  ·refine wdP 22 hp (fun wD hp hED => by
    refine pm ?_
    exact PLs n08_ok (h:=pl)) fun wD hp hED=>so ?_
   refine Gs 36 ?_ ?_<;>intro c1
   rotate_left
   ·exact absurd b1 c1
   refine so ?_
   refine aT (so ?_)
   refine Pt ?_
   exact no hp.chg (bad (fun h=>b1 ⟨h.1,h.2.1⟩))
 obtain rfl:k=x.nodes.length:=by omega
 refine so ?_
 refine Pt ?_
 exact ⟨_,rfl,by rw [if_pos ⟨by omega,by omega,by omega,hr⟩],hp.chg⟩
theorem kNum_ok {w0 w:World} {M0 Fz:Nat→Prop} {H:List It} {A:Option Addr} {c:Nat} {out:List UInt8} {n:Int} (hp:HP w0 M0 Fz w (itR 5 1 A out.length c (out.map bv)::H)) (hn:isNum n:=by first|assumption|(unfold isNum;omega)) (hl:out.length+(numE n).length≤1000000:=by (try simp only [List.length_append,List.length_nil]);omega):Ret prog 36 #[.slice A out.length c, .int .i64 n] w (RwP 5 w0 M0 Fz w H (out++numE n)):=by
 refine ret_of_wk func36 rfl ntmps36 leB_ ?_
 refine so ?_
 refine Ce (rnum_is hn) ?_
 rintro _ w1 ⟨B,d,rfl,ho,E1⟩
 replace hp:=hp.ext E1
 refine so ?_
 refine Ar (l2:=numE n) hp ho.bs (by omega) fun A2 c2 w2 hp C2=>so ?_
 refine Pt ?_
 exact enR hp rfl
theorem kStr_ok {w0 w:World} {M0 Fz:Nat→Prop} {H:List It} {A:Option Addr} {c:Nat} {out s:List UInt8} {B:Option Addr} {d:Nat} {S:Nat→Prop} (hp:HP w0 M0 Fz w (itR 5 1 A out.length c (out.map bv)::H)) (hs:BS S w B d s) (hn:s.length≤65536) (hl:out.length+(strE s).length≤1000000):Ret prog 41 #[.slice A out.length c, .slice B s.length d] w (RwP 5 w0 M0 Fz w H (out++strE s)):=by
 refine ret_of_wk func41 rfl ntmps41 leB_ ?_
 refine so ?_
 refine Ce (rstr_is hs hn) ?_
 rintro _ w1 ⟨B1,d1,rfl,ho,E1⟩
 replace hp:=hp.ext E1
 refine so ?_
 refine Ar (l2:=strE s) hp ho.bs (by omega) fun A2 c2 w2 hp C2=>so ?_
 refine Pt ?_
 exact enR hp rfl
end Go.Proofs.YtmbpneaibmldfaaGreat
