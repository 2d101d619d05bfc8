/- What each of these functions computes, for every argument that its theorem names; a part of what the proof of ImageOnce stands on. -/
import Derived.Test.YtmbpneaibmldfaaGreatAac
import Derived.Test.YtmbpneaibmldfaaGreatAad
import Derived.Test.YtmbpneaibmldfaaGreatAaf
import Derived.Test.YtmbpneaibmldfaaGreatAag
namespace Go.Proofs.YtmbpneaibmldfaaGreat
open Go.RowKit Go.Eng Go.Eng _root_.Go.Proofs.Tryz
set_option maxRecDepth 100000
variable {w0 w:World} {M0 Fz:Nat→Prop} {H:List It} {A:Option Addr} {c:Nat}
theorem wishR_el {S:Nat→Prop} {w:World} {A:Option Addr} {c:Nat} {l:List Wsh} (h:GS wishR S w A c l) (i:Nat) (hi:i<l.length): ∃a A0 c0 A1 c1,A=some a∧AtF S w (a.add (i*10)) ([.int .i64 (l.getD i wish0).client, .int .i64 (l.getD i wish0).stamp, .int .i64 (l.getD i wish0).group, .int .i64 (l.getD i wish0).epoch, .int .i64 (l.getD i wish0).kind, .int .i64 (l.getD i wish0).block, .slice A0 (l.getD i wish0).data.length c0, .int .i64 (l.getD i wish0).old, .int .i64 (l.getD i wish0).new, .slice A1 (l.getD i wish0).next.length c1])∧WshI (l.getD i wish0)∧GS byteR S w A0 c0 (l.getD i wish0).data∧GS intR S w A1 c1 (l.getD i wish0).next:=by
 obtain ⟨a,cs,h1,h2,hI,A0,c0,A1,c1,rfl,k0,k1⟩:=GS.el h i hi
 have e:(l.getD i wish0)=l[i]:=by rw [List.getD_eq_getElem?_getD,List.getElem?_eq_getElem hi];rfl
 rw [e]
 exact ⟨a,_,_,_,_,h1,h2,hI,k0,k1⟩
theorem standR_el {S:Nat→Prop} {w:World} {A:Option Addr} {c:Nat} {l:List Stn} (h:GS standR S w A c l) (i:Nat) (hi:i<l.length): ∃a,A=some a∧AtF S w (a.add (i*34)) ([.int .i64 (l.getD i stand0).seq]++(digC (l.getD i stand0).dig++([.int .i64 (l.getD i stand0).view])))∧StnI (l.getD i stand0):=by
 obtain ⟨a,cs,h1,h2,hI,rfl⟩:=GS.el h i hi
 have e:(l.getD i stand0)=l[i]:=by rw [List.getD_eq_getElem?_getD,List.getElem?_eq_getElem hi];rfl
 rw [e]
 exact ⟨a,h1,h2,hI⟩
def pickR:Rep Pck where
 size:=34
 rd:=fun S w cs x=>PckI x∧∃A0 c0,cs= [.int .i64 x.seq]++(digC x.dig++([.slice A0 x.batch.length c0]))∧GS wishR S w A0 c0 x.batch
 len:=by rintro _ _ _ _ ⟨hI,A0,c0,rfl,k0⟩;rfl
 one:=by rintro _ _ _ _ ⟨hI,A0,c0,rfl,k0⟩;exact List.all_eq_true.1 rfl
 keep:=by rintro _ _ _ _ _ _ ch hm ⟨hI,A0,c0,rfl,k0⟩;exact ⟨hI,_,_,rfl,k0.keep ch hm⟩
 mono:=by rintro _ _ _ _ _ hs ⟨hI,A0,c0,rfl,k0⟩;exact ⟨hI,_,_,rfl,k0.mono hs⟩
def batR:Rep Bat where
 size:=33
 rd:=fun S w cs x=> ∃A0 c0,cs=digC x.dig++([.slice A0 x.wishes.length c0])∧GS wishR S w A0 c0 x.wishes
 len:=by rintro _ _ _ _ ⟨A0,c0,rfl,k0⟩;rfl
 one:=by rintro _ _ _ _ ⟨A0,c0,rfl,k0⟩;exact List.all_eq_true.1 rfl
 keep:=by rintro _ _ _ _ _ _ ch hm ⟨A0,c0,rfl,k0⟩;exact ⟨_,_,rfl,k0.keep ch hm⟩
 mono:=by rintro _ _ _ _ _ hs ⟨A0,c0,rfl,k0⟩;exact ⟨_,_,rfl,k0.mono hs⟩
end Go.Proofs.YtmbpneaibmldfaaGreat
namespace Go.Proofs.YtmbpneaibmldfaaGreat
open Go.RowKit Go.Eng _root_.Go.Proofs.Tryz Go.Eng _root_.Go.Proofs.Tryz
set_option maxRecDepth 100000
variable {w0 w:World} {M0 Fz:Nat→Prop} {H:List It} {A:Option Addr} {c:Nat}
def schA (B : List UInt8) : Nat → List Int
 |0=>List.replicate 64 0
 |k+1=>(schA B k).set k (sch1 (B.getD (4*k) 0) (B.getD (4*k+1) 0) (B.getD (4*k+2) 0) (B.getD (4*k+3) 0))
def rStep (s:List Int) (kt wt:Int):List Int:=
 [wu (rBig s kt wt+rSmall s),s.getD 0 0,s.getD 1 0,s.getD 2 0,wu (s.getD 3 0+rBig s kt wt),s.getD 4 0,s.getD 5 0,s.getD 6 0]
theorem tailB_len (n:Int) (j:Nat):(tailB n j).length=j:=by
 induction j with
 |zero=>rfl
 |succ j ih=>rw [tailB,List.length_append,ih];rfl
end Go.Proofs.YtmbpneaibmldfaaGreat
namespace Go.Proofs.YtmbpneaibmldfaaGreat
open Go.RowKit Go.Eng Go.Eng _root_.Go.Proofs.Tryz
set_option maxRecDepth 100000
variable {w0 w:World} {M0 Fz:Nat→Prop} {H:List It} {A:Option Addr} {c:Nat}
theorem str_ok {b:List UInt8} {Sa:Nat→Prop} (h:BS Sa w A c b):Ret prog 82 #[.slice A b.length c] w (fun v w'=> ∃A c,v= .tuple #[.slice A (strS b).1.length c, .int .i64 (strS b).2]∧OwnB 5 w.heap.size w' A c (strS b).1∧Ext w w'):=by
 refine ret_of_wk func82 rfl ntmps82 leB_ ?_
 refine go ?_
 refine Ln_ underlying36 rfl ?_
 refine Gt_ rfl rfl (go ?_)
 refine Cd (fun hl=> ?_) fun hl=> ?_
 refine go ?_
 refine P2 results82 ?_
 have e:strS b=([],5):=by simp only [strS];rw [if_pos (by omega)]
 exact ⟨_,rfl,none,0,by rw [e];try rfl,by rw [e];exact OwnRow.nil _ _ _ _ _,Chg.refl _ _⟩
 have hns:numS (b.length:Int)=(numL b.length,0):=by rw [numS,if_neg (by omega)];simp
 have hnl:=numL_len b.length (by omega)
 refine go ?_
 refine Ln_ underlying36 rfl ?_
 refine Cl_ cl72 rfl (num_ok (by omega) (by omega)) ?_
 rintro _ w1 ⟨A1,c1,rfl,ho1,hE1⟩
 rw [hns] at ho1⊢
 refine go ?_
 refine Ne_ rfl rfl (go ?_)
 refine Cd (fun hz=> ?_) fun hz=> ?_
 exact absurd rfl hz
 refine go ?_
 refine wl_bslice (xs:= [.tmp 18, .tmp 19]) (vs:= [.slice A1 (numL b.length).length c1, .slice A b.length c]) (by decide) sl173 rfl rfl rfl (by intro v hv;simp only [List.mem_cons,List.not_mem_nil,or_false] at hv;rcases hv with rfl|rfl<;>rfl) (by simp) w1.heap.size (Nat.le_refl _) ?_
 rintro g w2 hg2 ho2 hE2
 have hat2:At w2 ⟨g,0,none⟩ [.slice A1 (numL b.length).length c1, .slice A b.length c]:=ho2.at0
 have hgs:GS (sliceR byteR) (fun _=>True) w2 (some ⟨g,0,none⟩) 2 [numL b.length,b]:=GS.two hat2 ho2.lt0 (Nat.le_refl _) trivial (sliceR_mk ((ho1.bs.ext hE2).mono (fun _ _ _=>trivial))) (sliceR_mk (((h.ext hE1).ext hE2).mono (fun _ _ _=>trivial)))
 have hcl:=join_ok hgs (by simp;omega)
 refine Cl_ cl134 rfl hcl ?_
 clear hcl
 rintro _ w3 ⟨A3,c3,rfl,ho3,hE3⟩
 refine go ?_
 refine P2 results82 ?_
 have e:strS b=(numL b.length++b,0):=by simp only [strS];rw [if_neg (by omega)]
 have e2: [numL b.length,b].flatten=numL b.length++b:=by simp
 rw [e2] at ho3⊢
 exact ⟨_,rfl,A3,c3,by rw [e],by rw [e];exact ho3.lower (hE1.trans hE2).size,(hE1.trans hE2).trans hE3⟩
set_option maxHeartbeats 40000000 in
theorem r11Same_ok {csa:List Value} {a:Wsh} {Sa:Nat→Prop} {csb:List Value} {b:Wsh} {Sb:Nat→Prop} (ha:wishR.rd Sa w csa a) (hb:wishR.rd Sb w csb b):Ret prog 154 #[.agg csa.toArray, .agg csb.toArray] w (fun v w'=>v= .bool (decide (a=b))∧Ext w w'):=by
 obtain ⟨hIa,Aa0,ca0,Aa1,ca1,rfl,ha0,ha1⟩:=ha
 obtain ⟨hIb,Ab0,cb0,Ab1,cb1,rfl,hb0,hb1⟩:=hb
 refine ret_of_wk func154 rfl ntmps154 leB_ ?_
 have hp:=HP.begin_ w
 refine so ?_
 refine Bx hp (h:=fun gs2 w1 hp hE1=> ?_)
 refine Bx hp (h:=fun gs3 w2 hp hE2=>so ?_)
 refine Gs 10 ?_ ?_<;>intro hg1<;>refine so ?_
 refine Gs 17 ?_ ?_<;>intro hg2<;>refine so ?_
 refine Gs 24 ?_ ?_<;>intro hg3<;>refine so ?_
 refine Gs 31 ?_ ?_<;>intro hg4<;>refine so ?_
 refine Gs 38 ?_ ?_<;>intro hg5<;>refine so ?_
 refine Gs 45 ?_ ?_<;>intro hg6<;>refine so ?_
 refine Cx hp (eqBytes_ok ha0.tn hb0.tn) fun w3 hp hE3=>so ?_
 refine Gs 52 ?_ ?_<;>intro hg7<;>refine so ?_
 refine Gs 59 ?_ ?_<;>intro hg8<;>refine so ?_
 refine Gs 66 ?_ ?_<;>intro hg9<;>refine so ?_
 refine Cx hp (eqInts_ok ha1.tn hb1.tn) fun w4 hp hE4=>so ?_
 refine Pt ?_
 exact ⟨_,rfl,congrArg Value.bool (decide_eq_decide.2 (by rw [Wsh_eq];simp_all)),hp.chg⟩
 refine Pt ?_
 exact ⟨_,rfl,bool_f (by rw [Wsh_eq];simp_all),hp.chg⟩
 refine Pt ?_
 exact ⟨_,rfl,bool_f (by rw [Wsh_eq];simp_all),hp.chg⟩
 refine Pt ?_
 exact ⟨_,rfl,bool_f (by rw [Wsh_eq];simp_all),hp.chg⟩
 refine Pt ?_
 exact ⟨_,rfl,bool_f (by rw [Wsh_eq];simp_all),hp.chg⟩
 refine Pt ?_
 exact ⟨_,rfl,bool_f (by rw [Wsh_eq];simp_all),hp.chg⟩
 refine Pt ?_
 exact ⟨_,rfl,bool_f (by rw [Wsh_eq];simp_all),hp.chg⟩
 refine Pt ?_
 exact ⟨_,rfl,bool_f (by rw [Wsh_eq];simp_all),hp.chg⟩
 refine Pt ?_
 exact ⟨_,rfl,bool_f (by rw [Wsh_eq];simp_all),hp.chg⟩
 refine Pt ?_
 exact ⟨_,rfl,bool_f (by rw [Wsh_eq];simp_all),hp.chg⟩
instance (w:Wsh):Decidable (WQ w):=by unfold WQ;infer_instance
set_option maxHeartbeats 4000000 in
theorem answerMay1_ok {n:Int} {w:World}:Ret Tryz.prog 222 #[.int .i64 n] w (fun v w'=>v= .bool (decide (¬(1≤n∧n≤28)))∧w'=w):=by
 refine ret_of_wk Tryz.func222 rfl Tryz.ntmps222 (Nat.le_of_ble_eq_true rfl) ?_
 refine wc_seq ?_
 refine wc_region ?_
 refine wl_assign (by decide) rfl ?_
 refine wl_nil ?_
 refine wk_norm ?_
 refine wc_seq ?_
 refine wc_region ?_
 refine wl_move (by decide) rfl ?_
 refine wl_call (by decide) Tryz.cl126 rfl (n_isNode) ?_
 rintro _ _ ⟨rfl,rfl⟩
 first|refine wl_notd (by decide) rfl ?_|refine wl_not (by decide) rfl ?_
 refine wl_assign (by decide) rfl ?_
 refine wl_nil ?_
 refine wk_norm ?_
 refine wc_ret ?_
 refine wk_post1 (.inl rfl) Tryz.results222 rfl ?_
 exact ⟨_,rfl,rfl,rfl⟩
set_option maxHeartbeats 40000000 in
theorem nRise_ok {Al:Option Addr} {cl:Nat} {l:List Int} {Sl:Nat→Prop} (hl:GS intR Sl w Al cl l):Ret prog 128 #[.slice Al l.length cl] w (fun v w'=>v= .bool (decide (RiseI l))∧Ext w w'):=by
 have mhl:=hl.mx
 refine ret_of_wk func128 rfl ntmps128 leB_ ?_
 refine so ?_
 refine Lp [0, 3] (fun L' w' mes => ∃ (k : Nat), L' = [(0, .slice Al l.length cl), (3, iv (k : Int))] ∧ (1 ≤ k) ∧ (∀ i, i < k → 0 < i → l.getD (i - 1) 0 < l.getD i 0) ∧ (GS intR Sl w' Al cl l) ∧ (Ext w w') ∧ l.length - k = mes) (l.length - 1) (by
     refine ⟨1,rfl,by omega, ?_,hl,me,rfl⟩
     intro i hi;omega) ?_
 rintro _ wr _ ⟨k,rfl,h1,hall,hl,hEc,rfl⟩ KL1 hKL1
 refine so ?_
 refine Cd ?_ ?_<;>intro hc1<;>refine so ?_
 obtain ⟨aw2,hAw2,hatw2⟩:=GS.elI hl k (by omega)
 obtain ⟨aw7,hAw7,hatw7⟩:=GS.elI hl (k-1) (by omega)
 cases Option.some.inj (hAw2.symm.trans hAw7)
 refine wdE 10 (fun wD hED=>by refine pm ?_;exact .op rfl (wl_idx0 (by decide) sl22 rfl rfl hAw7 (k-1) (by omega) (by omega) (wl_nil qp)) pl) fun wD hED=> ?_
 refine so ?_
 refine Cd ?_ ?_<;>intro hc2<;>refine so ?_
 refine Pt ?_
 exact ⟨_,rfl,bool_f (fun h=>by have:=h k (by omega) (by omega);omega),me⟩
 exact Kl [0,3] hKL1 (l.length-(k+1)) ⟨(k+1),rfl,by omega,upto hall (fun _=>by omega),hl.to,me,rfl⟩ (by omega)
 refine Pt ?_
 exact ⟨_,rfl,bool_t (fun i hi=>hall i (by omega)),hEc⟩
set_option maxHeartbeats 40000000 in
theorem orI_ok {Al:Option Addr} {cl:Nat} {l:List Int} {Sl:Nat→Prop} (hl:GS intR Sl w Al cl l):Ret prog 185 #[.slice Al l.length cl] w (fun v w'=>v= .int .i64 (orI l)∧w'=w):=by
 have mhl:=hl.mx
 refine ret_of_wk func185 rfl ntmps185 leB_ ?_
 refine so ?_
 refine Lp [3, 6, 7, 8] (fun L' w' mes => ∃ (k : Nat), L' = [(3, iv 0), (6, .slice Al l.length cl), (7, iv (l.length : Int)), (8, iv (k : Int))] ∧ (k ≤ l.length) ∧ (orI l = orI (l.drop k)) ∧ (w = w') ∧ l.length - k = mes) (l.length - 0) (by
     refine ⟨0,rfl,by omega, ?_, ?_,rfl⟩
     rfl
     rfl) ?_
 rintro _ wr _ ⟨k,rfl,hk,hor,hw_,rfl⟩ KL1 hKL1
 subst hw_
 refine so ?_
 refine Cd ?_ ?_<;>intro hc1<;>refine so ?_
 obtain ⟨ae1,hAe1,hate1⟩:=GS.elI hl k (by omega)
 refine so ?_
 refine Cd ?_ ?_<;>intro hc2<;>refine so ?_
 refine Pt ?_
 exact ⟨_,rfl,congrArg (Value.int .i64) (by rw [hor,orI_step (by omega),if_neg (by omega)]),rfl⟩
 refine Kl [3,6,7,8] hKL1 (l.length-(k+1)) ⟨(k+1),rfl,by omega, ?_, ?_,rfl⟩ (by omega)
 rw [hor,orI_step (by omega),if_pos (by omega)]
 rfl
 refine Pt ?_
 exact ⟨_,rfl,congrArg (Value.int .i64) (by rw [hor,show k=l.length by omega,List.drop_length];rfl),rfl⟩
theorem SeenF.step {f:Value→Option Value} {l:List Stn} (h:SeenF f l) (x:Stn):SeenF (updF f (keyM x.seq x.dig) (.int .i64 ((cntM l x.seq x.dig:Nat)+1))) (l++ [x]):=by
 intro s g
 rw [cntM_snoc]
 by_cases e:x.seq=s∧x.dig=g
 ·obtain ⟨rfl,rfl⟩:=e;rw [updF_same];simp
 ·rw [updF_other f (fun he=>e (by have:=keyM_inj.1 he;exact ⟨this.1.symm,this.2.symm⟩)),if_neg e,Nat.add_zero];exact h s g
theorem ordS_neg {a b:Stn}:ordS a b<0↔OrdLt a b:=by
 have h1:=cmpI_lt a.seq b.seq
 have h2:=cmpI_lt a.view b.view
 have h3:=cmpB_lt a.dig.l b.dig.l (by rw [a.dig.h,b.dig.h])
 unfold ordS OrdLt orI orI orI orI
 split
 ·split
  ·split
   ·rename_i e1 e2 e3
    have:=h1.2.1 e1;have:=h2.2.1 e2
    rw [e3] at h3
    constructor
    ·intro h;exact absurd h (by omega)
    ·rintro (h | ⟨_, h | ⟨_, h⟩⟩)
     ·omega
     ·omega
     ·exact absurd (h3.2 h) (by omega)
   ·rename_i e1 e2 e3
    have:=h1.2.1 e1;have:=h2.2.1 e2
    rw [h3]
    exact ⟨fun h=> .inr ⟨by omega, .inr ⟨by omega,h⟩⟩,fun h=>by rcases h with h|⟨_,h|⟨_,h⟩⟩;omega;omega;exact h⟩
  ·rename_i e1 e2
   have:=h1.2.1 e1
   rw [h2.1]
   exact ⟨fun h=> .inr ⟨by omega, .inl h⟩,fun h=>by rcases h with h|⟨_,h|⟨h,_⟩⟩;omega;exact h;exact absurd (h2.2.2 h) e2⟩
 ·rename_i e1
  rw [h1.1]
  exact ⟨fun h=> .inl h,fun h=>by rcases h with h|⟨h,_⟩;exact h;exact absurd (h1.2.2 h) e1⟩
theorem marks_fwd {cg:Chn} (h:MarksRise cg.marks):RiseI (mseq cg cg.marks.length):=fun i hi h0=>by
 rw [mseq_len (Nat.le_refl _)] at hi
 rw [mseq_get (by omega),mseq_get (by omega)]
 exact (h i hi h0).1
theorem nodesR_iff {l:List Int}:NodesRise l↔RiseI l∧¬ ∃x∈l,¬(1≤x∧x≤28):=by
 constructor
 ·intro h
  exact ⟨fun i hi h0=>(h i hi).2.2 h0,fun ⟨x,hx,hn⟩=>hn (h.mem x hx)⟩
 ·rintro ⟨h1, h2⟩ i hi
  have h3:1≤l.getD i 0∧l.getD i 0≤28:=Decidable.byContradiction fun hn=>h2 ⟨_,getD_mem hi,hn⟩
  exact ⟨h3.1,h3.2,fun h0=>h1 i hi h0⟩
set_option maxHeartbeats 40000000 in
theorem nNum_ok {gr:Nat} {l:List UInt8} {bad:Bool} {X:List Value→It} {pX:Addr} {v0:Int} (hp:HP w0 M0 Fz w (itB gr 223 [.slice A l.length c, .bool bad]::X ([.int .i64 v0])::H)) (hS:Slot X pX 1) (hl:GS byteR Fz w A c l) (hv0:i64 v0):Ret prog 250 #[.pointer (some ⟨gr,0,none⟩), .pointer (some pX)] w (RdP 223 gr w0 M0 Fz w H X i64R numP bad l):=by
 refine ret_of_wk func250 rfl ntmps250 leB_ ?_
 refine so ?_
 refine Ce (takeNum_ok hl) ?_
 rintro _ w1 ⟨A1,c1,rfl,ho1,hE1⟩
 replace ho1:=ho1.bs
 have hsz2:=hp.chg.size
 obtain ⟨Fz2,hp2,hsub2,hnew2,hup2⟩:=hp.frz hE1
 replace hp:=hp2
 replace ho1:=ho1.frz hnew2
 refine so ?_
 refine Ce (nTook_ok (e:=(takeS l).2.2) hp hl.to ho1) ?_
 rintro _ w3 ⟨b3,A3,c3,l3,rfl,hb3,hn3,hp,hF3,hl3⟩
 refine so ?_
 refine Cd ?_ ?_<;>intro ht<;>refine so ?_
 refine wl_sstore1 0 (i:=1) hS (by rw [add_zero'];rfl) rfl hp rfl rfl sz3 (by decide) rfl ?_
 rintro w4 hp hC4
 replace hp:=hp.ay (_::X ([iv ((takeS l).1)])::_)
 refine so ?_
 refine wk_post0 (.inr rfl) results250 ?_
 have hlm:=takeS_lim l
 exact ⟨_,rfl,_,A3,c3,l3,b3,_,_,hp,mv,hl3.to,⟨⟨by omega,by omega⟩,rfl⟩,step_num hb3 (fun h=>⟨hn3 h,rfl⟩)⟩
 refine wk_post0 (.inr rfl) results250 ?_
 exact ⟨_,rfl,_,A3,c3,l3,b3,_,_,hp,mv,hl3,⟨hv0,rfl⟩,step_num hb3 (fun h=>absurd ht (by simp [h]))⟩
theorem body_flat (x:Wsh):([headE x,strE x.data,numE x.old,numE x.new,numE (x.next.length:Int)]:List (List UInt8)).flatten=bodyW x:=by simp [bodyW]
end Go.Proofs.YtmbpneaibmldfaaGreat
namespace Go.Proofs.YtmbpneaibmldfaaGreat
open Go.RowKit Go.Eng _root_.Go.Proofs.Tryz Go.Eng _root_.Go.Proofs.Tryz
set_option maxRecDepth 100000
variable {w0 w:World} {M0 Fz:Nat→Prop} {H:List It} {A:Option Addr} {c:Nat}
theorem iNum_ok {w0 w:World} {M0 Fz:Nat→Prop} {H:List It} {A:Option Addr} {c:Nat} {go:Nat} {o:List UInt8} {bd:Bool} {n most:Int} (hp:HP w0 M0 Fz w (itB go 72 [.slice A o.length c, .bool bd]::itR 5 1 A o.length c (o.map bv)::H)) (hn:i64 n) (hl:o.length+8≤1099511627776):Ret prog 29 #[pt go 0, .int .i64 n, .int .i64 most] w (WoP go w0 M0 Fz w H (numW (o,bd) n most)):=by
 have hz:=numS_len n
 refine ret_of_wk func29 rfl ntmps29 leB_ ?_
 refine so ?_
 cases bd
 ·refine so ?_
  refine H1 0 hp (h:=fun w2 hp C2=>so ?_)
  refine Ce (num_ok hn.1 hn.2) ?_
  rintro _ w3 ⟨B,d,rfl,ho,hE⟩
  replace hp:=hp.ext hE
  refine so ?_
  refine Cw (iAdd_ok hp ho.bs (by omega)) fun v A3 c3 w4 hp F4=>so ?_
  refine wk_post0 (.inr rfl) results29 ?_
  exact ⟨_,rfl,A3,c3,hp,mv⟩
 ·refine so ?_
  refine H1 0 hp (h:=fun w2 hp C2=>so ?_)
  refine Ce (num_ok hn.1 hn.2) ?_
  rintro _ w3 ⟨B,d,rfl,ho,hE⟩
  replace hp:=hp.ext hE
  refine so ?_
  refine Cw (iAdd_ok hp ho.bs (by omega)) fun v A3 c3 w4 hp F4=>so ?_
  refine wk_post0 (.inr rfl) results29 ?_
  exact ⟨_,rfl,A3,c3,hp,mv⟩
end Go.Proofs.YtmbpneaibmldfaaGreat
namespace Go.Proofs.YtmbpneaibmldfaaGreat
open Go.RowKit Go.Eng Go.Eng _root_.Go.Proofs.Tryz
set_option maxRecDepth 100000
variable {w0 w:World} {M0 Fz:Nat→Prop} {H:List It} {A:Option Addr} {c:Nat}
set_option maxHeartbeats 40000000 in
theorem wNum_ok {gr:Nat} {l:List UInt8} {e:Int} (hp:HP w0 M0 Fz w (itB gr 220 [.slice A l.length c, .int .i64 e]::H)) (hl:GS byteR Fz w A c l):Ret prog 188 #[.pointer (some ⟨gr,0,none⟩)] w (RvE 220 gr w0 M0 Fz w H i64R false numP e l):=by
 refine ret_of_wk func188 rfl ntmps188 leB_ ?_
 refine so ?_
 refine Cd ?_ ?_<;>intro hc1<;>refine so ?_
 refine Ce (takeNum_ok hl) ?_
 rintro _ w1 ⟨A1,c1,rfl,ho1,hE1⟩
 replace ho1:=ho1.bs
 have hsz2:=hp.chg.size
 obtain ⟨Fz2,hp2,hsub2,hnew2,hup2⟩:=hp.frz hE1
 replace hp:=hp2
 replace ho1:=ho1.frz hnew2
 refine so ?_
 refine H1 0 hp (h:=fun w3 hp hC3=> ?_)
 replace hp:=hp.ay (itB gr 220 ([.slice A1 (takeS l).2.1.length c1,iv e])::_)
 refine so ?_
 refine H1 0 hp (h:=fun w4 hp hC4=> ?_)
 replace hp:=hp.ay (itB gr 220 ([.slice A1 (takeS l).2.1.length c1,iv ((takeS l).2.2)])::_)
 refine so ?_
 refine Pt ?_
 have hlm:=takeS_lim l
 exact ⟨_,rfl,_,A1,c1,(takeS l).2.1,((takeS l).2.2),_,(takeS l).1,rfl,(hp.up 0 rfl),mv,ho1.to,⟨⟨by omega,by omega⟩,rfl⟩,step_num (by first|rfl|(simp_all;done)|(simp_all;omega)) (fun h=>by first|exact ⟨rfl,rfl⟩|(simp_all;done))⟩
 refine Pt ?_
 have hlm:=takeS_lim l
 exact ⟨_,rfl,_,A,c,l,e,_,0,rfl,(hp.up 0 rfl),mv,hl,⟨⟨by omega,by omega⟩,rfl⟩,step_num (by first|rfl|(simp_all;done)|(simp_all;omega)) (fun h=>by first|exact ⟨rfl,rfl⟩|(simp_all;done))⟩
theorem unb_no {l lR:List UInt8} {eR e2:Int} {x:List Wsh} (h:StepP blistP (some l) (rst (decide (eR≠0)) lR) x) (hen:e2=if eR=0∧0<lR.length then 4 else eR) (h2:e2≠0):unbS l=none:=by
 have h0:=(not_congr (end_E hen)).1 h2
 cases hs:rst (decide (eR≠0)) lR with
 |none=>rw [hs] at h;exact unb_fail h
 | some u =>
  rw [hs] at h h0
  have h1:blistP l=some (x,u):=h
  unfold unbS
  rw [h1]
  exact if_neg (fun hh=>h0 (by rw [hh]))
theorem step_witem_no {bad:Bool} {l l' s:List UInt8} {e eP:Int} {x:Wsh} (h:StepP (strP 256) (rst bad l) (rst (decide (e≠0)) l') s) (hh:e≠0∨(¬e≠0∧ParseR s x eP∧eP≠0)):StepP witemP (rst bad l) none wish0:=by
 rcases hh with he|⟨he,hp,heP⟩
 ·rw [show decide (e ≠ 0) = true from decide_eq_true he] at h
  cases bad with
  |true=>rfl
  | false =>
   have h1:strP 256 l=none:=h
   show witemP l=none
   unfold witemP boxP
   rw [h1]
 ·rw [show decide (e ≠ 0) = false from decide_eq_false he] at h
  cases bad with
  |true=>rfl
  | false =>
   have h1:strP 256 l=some (s,l'):=h
   show witemP l=none
   unfold witemP boxP
   rw [h1]
   rcases hp with ⟨hz,_⟩|⟨_,hp,_⟩
   ·exact absurd hz heP
   ·unfold parseS at hp
    cases hw:wishP s with
    |none=>simp only [hw]
    | some v =>
     obtain ⟨y,u⟩:=v
     simp only [hw] at hp⊢
     by_cases hc:u= []∧WishMay y
     ·rw [if_pos hc] at hp;cases hp
     ·rw [if_neg hc]
theorem step_batch {bad b' b2:Bool} {l l' s:List UInt8} {xs x:List Wsh} {e:Int} (h:StepP (strP 65536) (rst bad l) (rst b' l') s) (hu:UnbR s xs e) (hb:b2=(b'||decide (e≠0))) (hx:b2=false→x=xs):StepP batchP (rst bad l) (rst b2 l') x:=by
 have key: ∀{l:List UInt8},strP 65536 l=none→batchP l=none:=fun hn=>by unfold batchP boxP;rw [hn]
 cases bad with
 | true =>
   have hb' : b' = true := by cases b' with
     |true=>rfl
     |false=>cases h
   subst hb'
   rw [Bool.true_or] at hb
   subst hb
   rfl
 | false =>
   cases b' with
   | true =>
     rw [Bool.true_or] at hb
     subst hb
     exact key h
   | false =>
     have h1:strP 65536 l=some (s,l'):=h
     rw [Bool.false_or] at hb
     rcases hu with ⟨he,hu⟩|⟨he,hu,_⟩
     · have hb0 : b2 = false := by rw [hb]; simp [he]
       rw [hx hb0]
       subst hb0
       show batchP l=some (xs,l')
       unfold unbS at hu
       unfold batchP boxP
       rw [h1]
       cases hw:blistP s with
       |none=>rw [hw] at hu;cases hu
       | some v =>
         obtain ⟨y,u⟩:=v
         simp only [hw] at hu⊢
         by_cases hc:u= []
         · rw [if_pos hc] at hu;cases hu;rw [if_pos ⟨hc,trivial⟩]
         · rw [if_neg hc] at hu;cases hu
     · have hb0 : b2 = true := by rw [hb]; simp [he]
       subst hb0
       show batchP l=none
       unfold unbS at hu
       unfold batchP boxP
       rw [h1]
       cases hw:blistP s with
       |none=>simp only [hw]
       | some v =>
         obtain ⟨y,u⟩:=v
         simp only [hw] at hu⊢
         by_cases hc:u= []
         · rw [if_pos hc] at hu;cases hu
         · rw [if_neg (fun hh=>hc hh.1)]
end Go.Proofs.YtmbpneaibmldfaaGreat
namespace Go.Proofs.YtmbpneaibmldfaaGreat
open Go.RowKit Go.Eng _root_.Go.Proofs.Tryz Go.Eng _root_.Go.Proofs.Tryz
set_option maxRecDepth 100000
variable {w0 w:World} {M0 Fz:Nat→Prop} {H:List It} {A:Option Addr} {c:Nat}
theorem tDig_ok {w0 w:World} {M0 Fz:Nat→Prop} {H:List It} {A:Option Addr} {c:Nat} {gt:Nat} {l:List UInt8} {bad:Bool} (hp:HP w0 M0 Fz w (itB gt 94 [.slice A l.length c, .bool bad]::H)) (hl:GS byteR Fz w A c l):Ret prog 142 #[pt gt 0] w (TkP gt w0 M0 Fz w H aggV digR digP bad l):=by
 refine ret_of_wk func142 rfl ntmps142 leB_ ?_
 refine so ?_
 refine Alo hp (h:=fun g2 w1 hp E1=> ?_)
 replace hp:=hp.swp
 refine so ?_
 refine Ce (takeFix_ok (n:=32) (hl.ext E1) (by decide) (by decide)) ?_
 rintro _ w2 ⟨B1,d1,B,d,rfl,ho1,ho,E2⟩
 obtain ⟨F2,hp,s2,n2,l2⟩:=hp.frz E2
 have hg:=ho.bs.frz n2
 have hg1:=ho1.bs.frz n2
 refine so ?_
 refine Ce (took_ok hp) ?_
 rintro _ w3 ⟨h|h,F3⟩
 ·obtain ⟨hb, rfl, hp⟩ := h
  refine so ?_
  refine aF (so ?_)
  refine Hs 1 hp (h:=fun w4 hp C4=>so ?_)
  refine wk_postR (rs:= [.cell 2 26]) (.inl rfl) results142 ⟨_,_,_,rfl,rfl,loadVar_agg ag26 (hp.blkAt (i:=1) rfl).at0 rfl,rfl⟩ ?_
  refine ⟨_,rfl,F2,A,c,l,true,_,dig0,rfl,hp.swp.tail,mv,hl.to,rfl, ?_⟩
  exact step_dig (by rcases hb with hb|hb<;>simp [hb]) (fun h=>by cases h)
 ·obtain ⟨rfl, he, rfl, hp⟩ := h
  have hlen:(fixS l 32).1.length=32:=by
   unfold fixS at he⊢
   rw [if_neg (by decide)] at he⊢
   by_cases h:(l.length:Int)<32
   ·rw [if_pos h] at he;exact absurd he (by decide)
   ·rw [if_neg h,List.length_take];omega
  have hc:=GS.cells1 (he:=fun _=>rfl) (hg1.to (F:=F2) (w':=w3))
  obtain ⟨a,rfl⟩: ∃a,B1=some a:=by
   cases B1 with
   |some a=>exact ⟨a,rfl⟩
   |none=>rw [hc.2 rfl] at hlen;exact absurd hlen (by decide)
  have hat:=hc.1 a rfl
  have hdc:(fixS l 32).1.map bv=digC ⟨(fixS l 32).1,hlen⟩:=(digC_map ⟨(fixS l 32).1,hlen⟩).symm
  refine so ?_
  refine aT (so ?_)
  refine wl_arrAt (by decide) ar26 rfl (by rw [hlen];exact Nat.le_refl _) ?_
  refine wl_loadA (by decide) ag26 rfl hat (by rw [List.length_map,hlen]) ?_
  rw [hdc]
  refine Hs 1 hp (h:=fun w4 hp C4=>so ?_)
  refine Hs 1 hp (h:=fun w5 hp C5=>so ?_)
  refine wk_postR (rs:= [.cell 2 26]) (.inl rfl) results142 ⟨_,_,_,rfl,rfl,loadVar_agg ag26 (hp.blkAt (i:=1) rfl).at0 rfl,rfl⟩ ?_
  refine ⟨_,rfl,F2,B,d,_,false,_,⟨(fixS l 32).1,hlen⟩,rfl,hp.swp.tail,mv,hg.to,rfl, ?_⟩
  exact step_dig (by simp [he]) (fun _=>⟨rfl,rfl⟩)
def full1 (D:Dig):Rpl:=⟨2,7,1, [1,2,3,9],⟨3,true,⟨4,dgi 2⟩, [⟨8,dgi 3⟩],sta5 D,sta5 D,5, [⟨5,D⟩],true, [⟨D, [wshi]⟩]⟩,true,⟨2,3,4, [⟨4,dgi 2⟩],sta5 D,sta5 D⟩, [115,116,97,116,101]⟩
theorem b_small:bytesS small0=(rplE small0,0):=if_pos may_small
theorem eqw:Value.bool (decide ((rplE small0).take 11=want0))= .bool true:=by rw [small_b.2];rfl
end Go.Proofs.YtmbpneaibmldfaaGreat
