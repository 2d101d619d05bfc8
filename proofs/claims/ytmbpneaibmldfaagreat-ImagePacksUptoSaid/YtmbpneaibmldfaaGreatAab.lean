/- Part 2 of what the proof of ImageOnce stands on: the engine, and facts on the program's tables. -/
import Derived.Test.YtmbpneaibmldfaaGreatAaa
namespace Go.Eng
structure Wsh where
 client:Int
 stamp:Int
 group:Int
 epoch:Int
 kind:Int
 block:Int
 data:List UInt8
 old:Int
 new:Int
 next:List Int
deriving DecidableEq
theorem Wsh_eq {x y:Wsh}:x=y↔x.client=y.client∧x.stamp=y.stamp∧x.group=y.group∧x.epoch=y.epoch∧x.kind=y.kind∧x.block=y.block∧x.data=y.data∧x.old=y.old∧x.new=y.new∧x.next=y.next:=by
 cases x;cases y;simp only [Wsh.mk.injEq]
def wishP:PR Wsh:=bindP numP fun kind=>bindP numP fun client=>bindP numP fun stamp=>bindP numP fun group=>bindP numP fun epoch=>bindP numP fun block=>bindP (strP 16) fun data=>bindP numP fun old=>bindP numP fun new=>bindP (listP numP 7) fun next=>pureP ⟨client,stamp,group,epoch,kind,block,data,old,new,next⟩
def wishE (x:Wsh):List UInt8:=numE x.kind++(numE x.client++(numE x.stamp++(numE x.group++(numE x.epoch++(numE x.block++(strE x.data++(numE x.old++(numE x.new++(listE numE x.next)))))))))
def wishOk (x:Wsh):Prop:=(isNum x.kind)∧(isNum x.client)∧(isNum x.stamp)∧(isNum x.group)∧(isNum x.epoch)∧(isNum x.block)∧((x.data.length:Int)≤16)∧(isNum x.old)∧(isNum x.new)∧((x.next.length:Int)≤7∧∀y∈x.next,isNum y)
theorem wish_cod:Cod wishP wishE wishOk:=by
 refine ⟨fun x t hx=> ?_,fun b x t hb=> ?_⟩
 ·obtain ⟨h0, h1, h2, h3, h4, h5, h6, h7, h8, h9⟩ := hx
  unfold wishP wishE
  simp only [List.append_assoc]
  rw [(num_cod).bindRd h0,(num_cod).bindRd h1,(num_cod).bindRd h2,(num_cod).bindRd h3,(num_cod).bindRd h4,(num_cod).bindRd h5,(str_cod 16 (by decide) (by decide)).bindRd h6,(num_cod).bindRd h7,(num_cod).bindRd h8,(list_cod num_cod 7 (by decide)).bindRd h9]
  rfl
 ·unfold wishP at hb
  obtain ⟨a0,u0,e0,hb⟩:=bindP_some.1 hb
  obtain ⟨a1,u1,e1,hb⟩:=bindP_some.1 hb
  obtain ⟨a2,u2,e2,hb⟩:=bindP_some.1 hb
  obtain ⟨a3,u3,e3,hb⟩:=bindP_some.1 hb
  obtain ⟨a4,u4,e4,hb⟩:=bindP_some.1 hb
  obtain ⟨a5,u5,e5,hb⟩:=bindP_some.1 hb
  obtain ⟨a6,u6,e6,hb⟩:=bindP_some.1 hb
  obtain ⟨a7,u7,e7,hb⟩:=bindP_some.1 hb
  obtain ⟨a8,u8,e8,hb⟩:=bindP_some.1 hb
  obtain ⟨a9,u9,e9,hb⟩:=bindP_some.1 hb
  simp only [pureP,Option.some.injEq,Prod.mk.injEq] at hb
  obtain ⟨rfl,rfl⟩:=hb
  obtain ⟨rfl,o0⟩:=(num_cod).back _ _ _ e0
  obtain ⟨rfl,o1⟩:=(num_cod).back _ _ _ e1
  obtain ⟨rfl,o2⟩:=(num_cod).back _ _ _ e2
  obtain ⟨rfl,o3⟩:=(num_cod).back _ _ _ e3
  obtain ⟨rfl,o4⟩:=(num_cod).back _ _ _ e4
  obtain ⟨rfl,o5⟩:=(num_cod).back _ _ _ e5
  obtain ⟨rfl,o6⟩:=(str_cod 16 (by decide) (by decide)).back _ _ _ e6
  obtain ⟨rfl,o7⟩:=(num_cod).back _ _ _ e7
  obtain ⟨rfl,o8⟩:=(num_cod).back _ _ _ e8
  obtain ⟨rfl,o9⟩:=(list_cod num_cod 7 (by decide)).back _ _ _ e9
  exact ⟨by simp only [wishE,List.append_assoc],o0,o1,o2,o3,o4,o5,o6,o7,o8,o9⟩
def NodesRise (l:List Int):Prop:= ∀i,i<l.length→1≤l.getD i 0∧l.getD i 0≤28∧(0<i→l.getD (i-1) 0<l.getD i 0)
instance (l:List Int):Decidable (NodesRise l):=by unfold NodesRise;infer_instance
def nextMay (l:List Int):Prop:=(l.length=1∨l.length=4∨l.length=7)∧NodesRise l
instance (l:List Int):Decidable (nextMay l):=by unfold nextMay;infer_instance
def WishMay (w : Wsh) : Prop := 0 ≤ w.epoch ∧ w.epoch ≤ 1048576 ∧
  ((w.kind = 5 ∧ w.client = 0 ∧ w.stamp = 0 ∧ w.block = 0 ∧ w.data.length = 0 ∧ w.old = 0 ∧ w.new = 0 ∧ 1 ≤ w.group ∧ w.group ≤ 2 ∧ nextMay w.next) ∨
   (31 ≤ w.client ∧ w.client ≤ 34 ∧ 1 ≤ w.stamp ∧ w.stamp ≤ 9007199254740991 ∧ w.next.length = 0 ∧
     ((w.kind = 2 ∧ w.data.length = 16 ∧ 1 ≤ w.group ∧ w.group ≤ 2 ∧ 0 ≤ w.block ∧ w.block ≤ 7 ∧ w.old = 0 ∧ w.new = 0) ∨
      (w.kind=1∧w.data.length=0∧1≤w.group∧w.group≤2∧0≤w.block∧w.block≤7∧w.old=0∧w.new=0)∨
      (w.kind=3∧w.data.length=0∧w.group=0∧w.epoch=0∧1≤w.block∧w.block≤2∧w.old=0∧w.new=0)∨
      (w.kind=4∧w.data.length=0∧w.group=0∧w.epoch=0∧1≤w.block∧w.block≤2∧1≤w.old∧w.old≤28∧1≤w.new∧w.new≤28∧w.old≠w.new))))
instance (w:Wsh):Decidable (WishMay w):=by unfold WishMay;infer_instance
theorem NodesRise.mem {l:List Int} (h:NodesRise l): ∀y∈l,1≤y∧y≤28:=by
 intro y hy
 obtain ⟨i,hi,rfl⟩:=List.mem_iff_getElem.1 hy
 have:=h i hi
 rw [List.getD_eq_getElem?_getD,List.getElem?_eq_getElem hi] at this
 exact ⟨this.1,this.2.1⟩
theorem wish_fine {w:Wsh} (h:WishMay w):wishOk w∧(wishE w).length≤160:=by
 have hn:w.next.length≤7∧∀y∈w.next,0≤y∧y≤28:=by
  obtain ⟨_,_,h|h⟩:=h
  ·obtain ⟨_, _, _, _, _, _, _, _, _, h1, h2⟩ := h
   exact ⟨by omega,fun y hy=>⟨by have:=(h2.mem y hy).1;omega,(h2.mem y hy).2⟩⟩
  ·obtain ⟨_, _, _, _, h, _⟩ := h
   exact ⟨by omega,by rw [List.eq_nil_of_length_eq_zero h];simp⟩
 have hd:w.data.length≤16:=by
  obtain ⟨_,_,h|h⟩:=h
  ·omega
  ·omega
 have h1:isNum w.kind∧isNum w.client∧isNum w.stamp∧isNum w.group∧isNum w.epoch∧isNum w.block∧isNum w.old∧isNum w.new:=by
  unfold isNum
  unfold WishMay at h
  refine ⟨?_, ?_, ?_, ?_, ?_, ?_, ?_, ?_⟩<;>omega
 obtain ⟨k1,k2,k3,k4,k5,k6,k7,k8⟩:=h1
 refine ⟨⟨k1,k2,k3,k4,k5,k6,by omega,k7,k8,by omega,fun y hy=>⟨(hn.2 y hy).1,by have:=(hn.2 y hy).2;omega⟩⟩, ?_⟩
 have e1:=strE_len w.data (by omega)
 have e2:=flatE_len numE w.next 2 (fun y hy=>numE_small (hn.2 y hy).1 (by have:=(hn.2 y hy).2;omega))
 have e3:=numE_small (n:=(w.next.length:Int)) (by omega) (by omega)
 have j1:=numE_len k1
 have j2:=numE_len k2
 have j3:=numE_len k3
 have j4:=numE_len k4
 have j5:=numE_len k5
 have j6:=numE_len k6
 have j7:=numE_len k7
 have j8:=numE_len k8
 simp only [wishE,listE,List.length_append]
 omega
def boxP {α : Type} (most : Int) (p : PR α) (chk : α → Prop) [DecidablePred chk] : PR α := fun b => match strP most b with
 | some (s, t) => match p s with
  |some (x,u)=>if u= []∧chk x then some (x,t) else none
  |none=>none
 |none=>none
theorem box_cod {α:Type} {p:PR α} {e:α→List UInt8} {ok chk:α→Prop} [DecidablePred chk] (h:Cod p e ok) (most:Int) (h0:0≤most) (h1:most≤65536):Cod (boxP most p chk) (fun x=>strE (e x)) (fun x=>ok x∧chk x∧((e x).length:Int)≤most):=by
 refine ⟨fun x t hx=> ?_,fun b x t hb=> ?_⟩
 ·unfold boxP
  rw [(str_cod most h0 h1).rd _ t hx.2.2]
  have:=h.rd x [] hx.1
  rw [List.append_nil] at this
  simp only [this]
  rw [if_pos (by simp [hx.2.1])]
 ·unfold boxP at hb
  cases hs:strP most b with
  |none=>rw [hs] at hb;cases hb
  | some v =>
   obtain ⟨s,t'⟩:=v
   rw [hs] at hb
   simp only at hb
   cases hp:p s with
   |none=>rw [hp] at hb;cases hb
   | some v =>
    obtain ⟨y,u⟩:=v
    rw [hp] at hb
    simp only at hb
    split at hb
    ·rename_i hc
     cases hb
     obtain ⟨rfl,o1⟩:=(str_cod most h0 h1).back _ _ _ hs
     obtain ⟨e1,o2⟩:=h.back _ _ _ hp
     rw [hc.1,List.append_nil] at e1
     subst e1
     exact ⟨rfl,o2,hc.2,o1⟩
    ·cases hb
def witemP:PR Wsh:=boxP 256 wishP WishMay
def witemE (w:Wsh):List UInt8:=strE (wishE w)
theorem witem_cod:Cod witemP witemE WishMay:=by
 have h:=box_cod (chk:=WishMay) wish_cod 256 (by decide) (by decide)
 refine ⟨fun x t hx=>h.rd x t ⟨(wish_fine hx).1,hx,by have:=(wish_fine hx).2;omega⟩,fun b x t hb=> ?_⟩
 have:=h.back b x t hb
 exact ⟨this.1,this.2.2.1⟩
def blistP:PR (List Wsh):=listP witemP 4
def blistE:List Wsh→List UInt8:=listE witemE
theorem blist_cod:Cod blistP blistE (fun l=>(l.length:Int)≤4∧∀x∈l,WishMay x):=list_cod witem_cod 4 (by decide)
theorem blist_len {l:List Wsh} (h:(l.length:Int)≤4∧∀x∈l,WishMay x):(blistE l).length≤658:=by
 have e1:=flatE_len witemE l 164 (fun x hx=>by
  have h1:=(wish_fine (h.2 x hx)).2
  have h2:=strE_len (wishE x) (by omega)
  unfold witemE
  omega)
 have e2:=numE_small (n:=(l.length:Int)) (by omega) (by omega)
 have e3:l.length*164≤4*164:=Nat.mul_le_mul_right _ (by omega)
 simp only [blistE,listE,List.length_append]
 omega
def batchP:PR (List Wsh):=boxP 65536 blistP (fun _=>True)
def batchE (l:List Wsh):List UInt8:=strE (blistE l)
def batchOk (l:List Wsh):Prop:=(l.length:Int)≤4∧∀x∈l,WishMay x
theorem batch_cod:Cod batchP batchE batchOk:=by
 have h:=box_cod (chk:=fun _=>True) blist_cod 65536 (by decide) (by decide)
 refine ⟨fun x t hx=>h.rd x t ⟨hx,trivial,by have:=blist_len hx;omega⟩,fun b x t hb=> ?_⟩
 have:=h.back b x t hb
 exact ⟨this.1,this.2.1⟩
theorem batchE_len {l:List Wsh} (h:batchOk l):(batchE l).length≤662:=by
 have h1:=blist_len h
 have h2:=strE_len (blistE l) (by omega)
 unfold batchE
 omega
structure Mrk where
 seq:Int
 dig:Dig
deriving DecidableEq
def markP:PR Mrk:=bindP numP fun seq=>bindP digP fun dig=>pureP ⟨seq,dig⟩
def markE (x:Mrk):List UInt8:=numE x.seq++(digE x.dig)
def markOk (x:Mrk):Prop:=(isNum x.seq)∧(True)
theorem mark_cod:Cod markP markE markOk:=by
 refine ⟨fun x t hx=> ?_,fun b x t hb=> ?_⟩
 ·obtain ⟨h0, h1⟩ := hx
  unfold markP markE
  simp only [List.append_assoc]
  rw [(num_cod).bindRd h0,(dig_cod).bindRd h1]
  rfl
 ·unfold markP at hb
  obtain ⟨a0,u0,e0,hb⟩:=bindP_some.1 hb
  obtain ⟨a1,u1,e1,hb⟩:=bindP_some.1 hb
  simp only [pureP,Option.some.injEq,Prod.mk.injEq] at hb
  obtain ⟨rfl,rfl⟩:=hb
  obtain ⟨rfl,o0⟩:=(num_cod).back _ _ _ e0
  obtain ⟨rfl,o1⟩:=(dig_cod).back _ _ _ e1
  exact ⟨by simp only [markE,List.append_assoc],o0,o1⟩
structure Stn where
 seq:Int
 dig:Dig
 view:Int
deriving DecidableEq
def standP:PR Stn:=bindP numP fun seq=>bindP digP fun dig=>bindP numP fun view=>pureP ⟨seq,dig,view⟩
def standE (x:Stn):List UInt8:=numE x.seq++(digE x.dig++(numE x.view))
def standOk (x:Stn):Prop:=(isNum x.seq)∧(True)∧(isNum x.view)
theorem stand_cod:Cod standP standE standOk:=by
 refine ⟨fun x t hx=> ?_,fun b x t hb=> ?_⟩
 ·obtain ⟨h0, h1, h2⟩ := hx
  unfold standP standE
  simp only [List.append_assoc]
  rw [(num_cod).bindRd h0,(dig_cod).bindRd h1,(num_cod).bindRd h2]
  rfl
 ·unfold standP at hb
  obtain ⟨a0,u0,e0,hb⟩:=bindP_some.1 hb
  obtain ⟨a1,u1,e1,hb⟩:=bindP_some.1 hb
  obtain ⟨a2,u2,e2,hb⟩:=bindP_some.1 hb
  simp only [pureP,Option.some.injEq,Prod.mk.injEq] at hb
  obtain ⟨rfl,rfl⟩:=hb
  obtain ⟨rfl,o0⟩:=(num_cod).back _ _ _ e0
  obtain ⟨rfl,o1⟩:=(dig_cod).back _ _ _ e1
  obtain ⟨rfl,o2⟩:=(num_cod).back _ _ _ e2
  exact ⟨by simp only [standE,List.append_assoc],o0,o1,o2⟩
structure Chn where
 node:Int
 view:Int
 low:Int
 marks:List Mrk
 p:List Stn
 q:List Stn
deriving DecidableEq
theorem Chn_eq {x y:Chn}:x=y↔x.node=y.node∧x.view=y.view∧x.low=y.low∧x.marks=y.marks∧x.p=y.p∧x.q=y.q:=by
 cases x;cases y;simp only [Chn.mk.injEq]
def changeP:PR Chn:=bindP numP fun node=>bindP numP fun view=>bindP numP fun low=>bindP (listP markP 5) fun marks=>bindP (listP standP 8) fun p=>bindP (listP standP 32) fun q=>pureP ⟨node,view,low,marks,p,q⟩
def changeE (x:Chn):List UInt8:=numE x.node++(numE x.view++(numE x.low++(listE markE x.marks++(listE standE x.p++(listE standE x.q)))))
def changeOk (x:Chn):Prop:=(isNum x.node)∧(isNum x.view)∧(isNum x.low)∧((x.marks.length:Int)≤5∧∀y∈x.marks,markOk y)∧((x.p.length:Int)≤8∧∀y∈x.p,standOk y)∧((x.q.length:Int)≤32∧∀y∈x.q,standOk y)
theorem change_cod:Cod changeP changeE changeOk:=by
 refine ⟨fun x t hx=> ?_,fun b x t hb=> ?_⟩
 ·obtain ⟨h0, h1, h2, h3, h4, h5⟩ := hx
  unfold changeP changeE
  simp only [List.append_assoc]
  rw [(num_cod).bindRd h0,(num_cod).bindRd h1,(num_cod).bindRd h2,(list_cod mark_cod 5 (by decide)).bindRd h3,(list_cod stand_cod 8 (by decide)).bindRd h4,(list_cod stand_cod 32 (by decide)).bindRd h5]
  rfl
 ·unfold changeP at hb
  obtain ⟨a0,u0,e0,hb⟩:=bindP_some.1 hb
  obtain ⟨a1,u1,e1,hb⟩:=bindP_some.1 hb
  obtain ⟨a2,u2,e2,hb⟩:=bindP_some.1 hb
  obtain ⟨a3,u3,e3,hb⟩:=bindP_some.1 hb
  obtain ⟨a4,u4,e4,hb⟩:=bindP_some.1 hb
  obtain ⟨a5,u5,e5,hb⟩:=bindP_some.1 hb
  simp only [pureP,Option.some.injEq,Prod.mk.injEq] at hb
  obtain ⟨rfl,rfl⟩:=hb
  obtain ⟨rfl,o0⟩:=(num_cod).back _ _ _ e0
  obtain ⟨rfl,o1⟩:=(num_cod).back _ _ _ e1
  obtain ⟨rfl,o2⟩:=(num_cod).back _ _ _ e2
  obtain ⟨rfl,o3⟩:=(list_cod mark_cod 5 (by decide)).back _ _ _ e3
  obtain ⟨rfl,o4⟩:=(list_cod stand_cod 8 (by decide)).back _ _ _ e4
  obtain ⟨rfl,o5⟩:=(list_cod stand_cod 32 (by decide)).back _ _ _ e5
  exact ⟨by simp only [changeE,List.append_assoc],o0,o1,o2,o3,o4,o5⟩
structure Ans where
 err:Int
 data:List UInt8
 epoch:Int
 nodes:List Int
deriving DecidableEq
def ansP:PR Ans:=bindP numP fun err=>bindP (strP 16) fun data=>bindP numP fun epoch=>bindP (listP numP 7) fun nodes=>pureP ⟨err,data,epoch,nodes⟩
def ansE (x:Ans):List UInt8:=numE x.err++(strE x.data++(numE x.epoch++(listE numE x.nodes)))
def ansOk (x:Ans):Prop:=(isNum x.err)∧((x.data.length:Int)≤16)∧(isNum x.epoch)∧((x.nodes.length:Int)≤7∧∀y∈x.nodes,isNum y)
theorem ans_cod:Cod ansP ansE ansOk:=by
 refine ⟨fun x t hx=> ?_,fun b x t hb=> ?_⟩
 ·obtain ⟨h0, h1, h2, h3⟩ := hx
  unfold ansP ansE
  simp only [List.append_assoc]
  rw [(num_cod).bindRd h0,(str_cod 16 (by decide) (by decide)).bindRd h1,(num_cod).bindRd h2,(list_cod num_cod 7 (by decide)).bindRd h3]
  rfl
 ·unfold ansP at hb
  obtain ⟨a0,u0,e0,hb⟩:=bindP_some.1 hb
  obtain ⟨a1,u1,e1,hb⟩:=bindP_some.1 hb
  obtain ⟨a2,u2,e2,hb⟩:=bindP_some.1 hb
  obtain ⟨a3,u3,e3,hb⟩:=bindP_some.1 hb
  simp only [pureP,Option.some.injEq,Prod.mk.injEq] at hb
  obtain ⟨rfl,rfl⟩:=hb
  obtain ⟨rfl,o0⟩:=(num_cod).back _ _ _ e0
  obtain ⟨rfl,o1⟩:=(str_cod 16 (by decide) (by decide)).back _ _ _ e1
  obtain ⟨rfl,o2⟩:=(num_cod).back _ _ _ e2
  obtain ⟨rfl,o3⟩:=(list_cod num_cod 7 (by decide)).back _ _ _ e3
  exact ⟨by simp only [ansE,List.append_assoc],o0,o1,o2,o3⟩
structure Pck where
 seq:Int
 dig:Dig
 batch:List Wsh
deriving DecidableEq
def pickP:PR Pck:=bindP numP fun seq=>bindP digP fun dig=>bindP batchP fun batch=>pureP ⟨seq,dig,batch⟩
def pickE (x:Pck):List UInt8:=numE x.seq++(digE x.dig++(batchE x.batch))
def pickOk (x:Pck):Prop:=(isNum x.seq)∧(True)∧(batchOk x.batch)
theorem pick_cod:Cod pickP pickE pickOk:=by
 refine ⟨fun x t hx=> ?_,fun b x t hb=> ?_⟩
 ·obtain ⟨h0, h1, h2⟩ := hx
  unfold pickP pickE
  simp only [List.append_assoc]
  rw [(num_cod).bindRd h0,(dig_cod).bindRd h1,(batch_cod).bindRd h2]
  rfl
 ·unfold pickP at hb
  obtain ⟨a0,u0,e0,hb⟩:=bindP_some.1 hb
  obtain ⟨a1,u1,e1,hb⟩:=bindP_some.1 hb
  obtain ⟨a2,u2,e2,hb⟩:=bindP_some.1 hb
  simp only [pureP,Option.some.injEq,Prod.mk.injEq] at hb
  obtain ⟨rfl,rfl⟩:=hb
  obtain ⟨rfl,o0⟩:=(num_cod).back _ _ _ e0
  obtain ⟨rfl,o1⟩:=(dig_cod).back _ _ _ e1
  obtain ⟨rfl,o2⟩:=(batch_cod).back _ _ _ e2
  exact ⟨by simp only [pickE,List.append_assoc],o0,o1,o2⟩
structure Nte where
 kind:Int
 from_:Int
 group:Int
 epoch:Int
 view:Int
 seq:Int
 dig:Dig
 batch:List Wsh
 ans:Ans
 stamp:Int
 node:Int
 change:Chn
 changes:List Chn
 picks:List Pck
 level:Int
 place:Int
 digs:List Dig
 data:List UInt8
 nodes:List Int
deriving DecidableEq
def ans0:Ans:=⟨0, [],0, []⟩
def change0:Chn:=⟨0,0,0, [], [], []⟩
def note0:Nte:=⟨0,0,0,0,0,0,dig0, [],ans0,0,0,change0, [], [],0,0, [], [], []⟩
def ownN (n:Nte):Nte:=
 if n.kind=1∨n.kind=14∨n.kind=16 then {note0 with kind:=n.kind,from_:=n.from_,group:=n.group,epoch:=n.epoch,batch:=n.batch}
 else if n.kind=2 then {note0 with kind:=n.kind,from_:=n.from_,group:=n.group,epoch:=n.epoch,node:=n.node,stamp:=n.stamp,ans:=n.ans}
 else if n.kind=3 then {note0 with kind:=n.kind,from_:=n.from_,group:=n.group,epoch:=n.epoch,view:=n.view,seq:=n.seq,batch:=n.batch}
 else if n.kind=4∨n.kind=5 then {note0 with kind:=n.kind,from_:=n.from_,group:=n.group,epoch:=n.epoch,view:=n.view,seq:=n.seq,dig:=n.dig}
 else if n.kind=6∨n.kind=13 then {note0 with kind:=n.kind,from_:=n.from_,group:=n.group,epoch:=n.epoch,seq:=n.seq,dig:=n.dig}
 else if n.kind=7 then {note0 with kind:=n.kind,from_:=n.from_,group:=n.group,epoch:=n.epoch,change:=n.change}
 else if n.kind=8 then {note0 with kind:=n.kind,from_:=n.from_,group:=n.group,epoch:=n.epoch,view:=n.view,node:=n.node,dig:=n.dig}
 else if n.kind=9 then {note0 with kind:=n.kind,from_:=n.from_,group:=n.group,epoch:=n.epoch,view:=n.view,changes:=n.changes,picks:=n.picks}
 else if n.kind=10 then {note0 with kind:=n.kind,from_:=n.from_,group:=n.group,epoch:=n.epoch,seq:=n.seq,dig:=n.dig,level:=n.level,place:=n.place}
 else if n.kind=11 then {note0 with kind:=n.kind,from_:=n.from_,group:=n.group,epoch:=n.epoch,seq:=n.seq,dig:=n.dig,level:=n.level,place:=n.place,digs:=n.digs,data:=n.data}
 else if n.kind=12 then {note0 with kind:=n.kind,from_:=n.from_,group:=n.group,epoch:=n.epoch,nodes:=n.nodes}
 else if n.kind=15 then {note0 with kind:=n.kind,from_:=n.from_,group:=n.group,epoch:=n.epoch,seq:=n.seq,batch:=n.batch}
 else {note0 with kind:=n.kind,from_:=n.from_,group:=n.group,epoch:=n.epoch}
def bodyP (k f g e:Int):PR Nte:=
 if k=1∨k=14∨k=16 then bindP batchP fun xbatch=>pureP {note0 with kind:=k,from_:=f,group:=g,epoch:=e,batch:=xbatch}
 else if k=2 then bindP numP fun xnode=>bindP numP fun xstamp=>bindP ansP fun xans=>pureP {note0 with kind:=k,from_:=f,group:=g,epoch:=e,node:=xnode,stamp:=xstamp,ans:=xans}
 else if k=3 then bindP numP fun xview=>bindP numP fun xseq=>bindP batchP fun xbatch=>pureP {note0 with kind:=k,from_:=f,group:=g,epoch:=e,view:=xview,seq:=xseq,batch:=xbatch}
 else if k=4∨k=5 then bindP numP fun xview=>bindP numP fun xseq=>bindP digP fun xdig=>pureP {note0 with kind:=k,from_:=f,group:=g,epoch:=e,view:=xview,seq:=xseq,dig:=xdig}
 else if k=6∨k=13 then bindP numP fun xseq=>bindP digP fun xdig=>pureP {note0 with kind:=k,from_:=f,group:=g,epoch:=e,seq:=xseq,dig:=xdig}
 else if k=7 then bindP changeP fun xchange=>pureP {note0 with kind:=k,from_:=f,group:=g,epoch:=e,change:=xchange}
 else if k=8 then bindP numP fun xview=>bindP numP fun xnode=>bindP digP fun xdig=>pureP {note0 with kind:=k,from_:=f,group:=g,epoch:=e,view:=xview,node:=xnode,dig:=xdig}
 else if k=9 then bindP numP fun xview=>bindP (listP changeP 7) fun xchanges=>bindP (listP pickP 8) fun xpicks=>pureP {note0 with kind:=k,from_:=f,group:=g,epoch:=e,view:=xview,changes:=xchanges,picks:=xpicks}
 else if k=10 then bindP numP fun xseq=>bindP digP fun xdig=>bindP numP fun xlevel=>bindP numP fun xplace=>pureP {note0 with kind:=k,from_:=f,group:=g,epoch:=e,seq:=xseq,dig:=xdig,level:=xlevel,place:=xplace}
 else if k=11 then bindP numP fun xseq=>bindP digP fun xdig=>bindP numP fun xlevel=>bindP numP fun xplace=>bindP (listP digP 8) fun xdigs=>bindP (strP 1024) fun xdata=>pureP {note0 with kind:=k,from_:=f,group:=g,epoch:=e,seq:=xseq,dig:=xdig,level:=xlevel,place:=xplace,digs:=xdigs,data:=xdata}
 else if k=12 then bindP (listP numP 7) fun xnodes=>pureP {note0 with kind:=k,from_:=f,group:=g,epoch:=e,nodes:=xnodes}
 else if k=15 then bindP numP fun xseq=>bindP batchP fun xbatch=>pureP {note0 with kind:=k,from_:=f,group:=g,epoch:=e,seq:=xseq,batch:=xbatch}
 else pureP {note0 with kind:=k,from_:=f,group:=g,epoch:=e}
def bodyE (n:Nte):List UInt8:=
 if n.kind=1∨n.kind=14∨n.kind=16 then batchE n.batch
 else if n.kind=2 then numE n.node++(numE n.stamp++(ansE n.ans))
 else if n.kind=3 then numE n.view++(numE n.seq++(batchE n.batch))
 else if n.kind=4∨n.kind=5 then numE n.view++(numE n.seq++(digE n.dig))
 else if n.kind=6∨n.kind=13 then numE n.seq++(digE n.dig)
 else if n.kind=7 then changeE n.change
 else if n.kind=8 then numE n.view++(numE n.node++(digE n.dig))
 else if n.kind=9 then numE n.view++(listE changeE n.changes++(listE pickE n.picks))
 else if n.kind=10 then numE n.seq++(digE n.dig++(numE n.level++(numE n.place)))
 else if n.kind=11 then numE n.seq++(digE n.dig++(numE n.level++(numE n.place++(listE digE n.digs++(strE n.data)))))
 else if n.kind=12 then listE numE n.nodes
 else if n.kind=15 then numE n.seq++(batchE n.batch)
 else []
def bodyOk (n:Nte):Prop:=
 if n.kind=1∨n.kind=14∨n.kind=16 then (batchOk n.batch)
 else if n.kind=2 then (isNum n.node)∧(isNum n.stamp)∧(ansOk n.ans)
 else if n.kind=3 then (isNum n.view)∧(isNum n.seq)∧(batchOk n.batch)
 else if n.kind=4∨n.kind=5 then (isNum n.view)∧(isNum n.seq)∧(True)
 else if n.kind=6∨n.kind=13 then (isNum n.seq)∧(True)
 else if n.kind=7 then (changeOk n.change)
 else if n.kind=8 then (isNum n.view)∧(isNum n.node)∧(True)
 else if n.kind=9 then (isNum n.view)∧((n.changes.length:Int)≤7∧∀y∈n.changes,changeOk y)∧((n.picks.length:Int)≤8∧∀y∈n.picks,pickOk y)
 else if n.kind=10 then (isNum n.seq)∧(True)∧(isNum n.level)∧(isNum n.place)
 else if n.kind=11 then (isNum n.seq)∧(True)∧(isNum n.level)∧(isNum n.place)∧((n.digs.length:Int)≤8∧∀y∈n.digs,True)∧((n.data.length:Int)≤1024)
 else if n.kind=12 then ((n.nodes.length:Int)≤7∧∀y∈n.nodes,isNum y)
 else if n.kind=15 then (isNum n.seq)∧(batchOk n.batch)
 else True
def noteP:PR Nte:=bindP numP fun k=>bindP numP fun f=>bindP numP fun g=>bindP numP fun e=>bodyP k f g e
def noteE (n:Nte):List UInt8:=numE n.kind++(numE n.from_++(numE n.group++(numE n.epoch++bodyE n)))
def noteOk (n:Nte):Prop:=isNum n.kind∧isNum n.from_∧isNum n.group∧isNum n.epoch∧bodyOk n
theorem body_rd (n:Nte) (t:List UInt8) (h:bodyOk n):bodyP n.kind n.from_ n.group n.epoch (bodyE n++t)=some (ownN n,t):=by
 unfold bodyOk at h
 unfold bodyP bodyE ownN
 by_cases c0:n.kind=1∨n.kind=14∨n.kind=16
 ·simp only [if_pos c0] at h ⊢
  have h0:=h
  try simp only [List.append_assoc]
  rw [(batch_cod).bindRd h0]
  rfl
 simp only [if_neg c0] at h⊢
 by_cases c1:n.kind=2
 ·simp only [if_pos c1] at h ⊢
  obtain ⟨h0,h1,h2⟩:=h
  try simp only [List.append_assoc]
  rw [(num_cod).bindRd h0,(num_cod).bindRd h1,(ans_cod).bindRd h2]
  rfl
 simp only [if_neg c1] at h⊢
 by_cases c2:n.kind=3
 ·simp only [if_pos c2] at h ⊢
  obtain ⟨h0,h1,h2⟩:=h
  try simp only [List.append_assoc]
  rw [(num_cod).bindRd h0,(num_cod).bindRd h1,(batch_cod).bindRd h2]
  rfl
 simp only [if_neg c2] at h⊢
 by_cases c3:n.kind=4∨n.kind=5
 ·simp only [if_pos c3] at h ⊢
  obtain ⟨h0,h1,h2⟩:=h
  try simp only [List.append_assoc]
  rw [(num_cod).bindRd h0,(num_cod).bindRd h1,(dig_cod).bindRd h2]
  rfl
 simp only [if_neg c3] at h⊢
 by_cases c4:n.kind=6∨n.kind=13
 ·simp only [if_pos c4] at h ⊢
  obtain ⟨h0,h1⟩:=h
  try simp only [List.append_assoc]
  rw [(num_cod).bindRd h0,(dig_cod).bindRd h1]
  rfl
 simp only [if_neg c4] at h⊢
 by_cases c5:n.kind=7
 ·simp only [if_pos c5] at h ⊢
  have h0:=h
  try simp only [List.append_assoc]
  rw [(change_cod).bindRd h0]
  rfl
 simp only [if_neg c5] at h⊢
 by_cases c6:n.kind=8
 ·simp only [if_pos c6] at h ⊢
  obtain ⟨h0,h1,h2⟩:=h
  try simp only [List.append_assoc]
  rw [(num_cod).bindRd h0,(num_cod).bindRd h1,(dig_cod).bindRd h2]
  rfl
 simp only [if_neg c6] at h⊢
 by_cases c7:n.kind=9
 ·simp only [if_pos c7] at h ⊢
  obtain ⟨h0,h1,h2⟩:=h
  try simp only [List.append_assoc]
  rw [(num_cod).bindRd h0,(list_cod change_cod 7 (by decide)).bindRd h1,(list_cod pick_cod 8 (by decide)).bindRd h2]
  rfl
 simp only [if_neg c7] at h⊢
 by_cases c8:n.kind=10
 ·simp only [if_pos c8] at h ⊢
  obtain ⟨h0,h1,h2,h3⟩:=h
  try simp only [List.append_assoc]
  rw [(num_cod).bindRd h0,(dig_cod).bindRd h1,(num_cod).bindRd h2,(num_cod).bindRd h3]
  rfl
 simp only [if_neg c8] at h⊢
 by_cases c9:n.kind=11
 ·simp only [if_pos c9] at h ⊢
  obtain ⟨h0,h1,h2,h3,h4,h5⟩:=h
  try simp only [List.append_assoc]
  rw [(num_cod).bindRd h0,(dig_cod).bindRd h1,(num_cod).bindRd h2,(num_cod).bindRd h3,(list_cod dig_cod 8 (by decide)).bindRd h4,(str_cod 1024 (by decide) (by decide)).bindRd h5]
  rfl
 simp only [if_neg c9] at h⊢
 by_cases c10:n.kind=12
 ·simp only [if_pos c10] at h ⊢
  have h0:=h
  try simp only [List.append_assoc]
  rw [(list_cod num_cod 7 (by decide)).bindRd h0]
  rfl
 simp only [if_neg c10] at h⊢
 by_cases c11:n.kind=15
 ·simp only [if_pos c11] at h ⊢
  obtain ⟨h0,h1⟩:=h
  try simp only [List.append_assoc]
  rw [(num_cod).bindRd h0,(batch_cod).bindRd h1]
  rfl
 simp only [if_neg c11] at h⊢
 rfl
theorem body_back (k f g e:Int) (b:List UInt8) (n:Nte) (t:List UInt8) (h:bodyP k f g e b=some (n,t)):b=bodyE n++t∧bodyOk n∧n.kind=k∧n.from_=f∧n.group=g∧n.epoch=e∧ownN n=n:=by
 unfold bodyP at h
 by_cases c0:k=1∨k=14∨k=16
 ·simp only [if_pos c0] at h
  obtain ⟨a0,u0,e0,h⟩:=bindP_some.1 h
  simp only [pureP,Option.some.injEq,Prod.mk.injEq] at h
  obtain ⟨rfl,rfl⟩:=h
  obtain ⟨rfl,o0⟩:=(batch_cod).back _ _ _ e0
  refine ⟨?_, ?_,rfl,rfl,rfl,rfl, ?_⟩
  ·unfold bodyE
   simp only [if_pos c0]
  ·unfold bodyOk
   simp only [if_pos c0]
   exact o0
  ·unfold ownN
   simp only [if_pos c0]
 simp only [if_neg c0] at h
 by_cases c1:k=2
 ·simp only [if_pos c1] at h
  obtain ⟨a0,u0,e0,h⟩:=bindP_some.1 h
  obtain ⟨a1,u1,e1,h⟩:=bindP_some.1 h
  obtain ⟨a2,u2,e2,h⟩:=bindP_some.1 h
  simp only [pureP,Option.some.injEq,Prod.mk.injEq] at h
  obtain ⟨rfl,rfl⟩:=h
  obtain ⟨rfl,o0⟩:=(num_cod).back _ _ _ e0
  obtain ⟨rfl,o1⟩:=(num_cod).back _ _ _ e1
  obtain ⟨rfl,o2⟩:=(ans_cod).back _ _ _ e2
  refine ⟨?_, ?_,rfl,rfl,rfl,rfl, ?_⟩
  ·unfold bodyE
   simp only [if_neg c0,if_pos c1,List.append_assoc]
  ·unfold bodyOk
   simp only [if_neg c0,if_pos c1]
   exact ⟨o0,o1,o2⟩
  ·unfold ownN
   simp only [if_neg c0,if_pos c1]
 simp only [if_neg c1] at h
 by_cases c2:k=3
 ·simp only [if_pos c2] at h
  obtain ⟨a0,u0,e0,h⟩:=bindP_some.1 h
  obtain ⟨a1,u1,e1,h⟩:=bindP_some.1 h
  obtain ⟨a2,u2,e2,h⟩:=bindP_some.1 h
  simp only [pureP,Option.some.injEq,Prod.mk.injEq] at h
  obtain ⟨rfl,rfl⟩:=h
  obtain ⟨rfl,o0⟩:=(num_cod).back _ _ _ e0
  obtain ⟨rfl,o1⟩:=(num_cod).back _ _ _ e1
  obtain ⟨rfl,o2⟩:=(batch_cod).back _ _ _ e2
  refine ⟨?_, ?_,rfl,rfl,rfl,rfl, ?_⟩
  ·unfold bodyE
   simp only [if_neg c0,if_neg c1,if_pos c2,List.append_assoc]
  ·unfold bodyOk
   simp only [if_neg c0,if_neg c1,if_pos c2]
   exact ⟨o0,o1,o2⟩
  ·unfold ownN
   simp only [if_neg c0,if_neg c1,if_pos c2]
 simp only [if_neg c2] at h
 by_cases c3:k=4∨k=5
 ·simp only [if_pos c3] at h
  obtain ⟨a0,u0,e0,h⟩:=bindP_some.1 h
  obtain ⟨a1,u1,e1,h⟩:=bindP_some.1 h
  obtain ⟨a2,u2,e2,h⟩:=bindP_some.1 h
  simp only [pureP,Option.some.injEq,Prod.mk.injEq] at h
  obtain ⟨rfl,rfl⟩:=h
  obtain ⟨rfl,o0⟩:=(num_cod).back _ _ _ e0
  obtain ⟨rfl,o1⟩:=(num_cod).back _ _ _ e1
  obtain ⟨rfl,o2⟩:=(dig_cod).back _ _ _ e2
  refine ⟨?_, ?_,rfl,rfl,rfl,rfl, ?_⟩
  ·unfold bodyE
   simp only [if_neg c0,if_neg c1,if_neg c2,if_pos c3,List.append_assoc]
  ·unfold bodyOk
   simp only [if_neg c0,if_neg c1,if_neg c2,if_pos c3]
   exact ⟨o0,o1,o2⟩
  ·unfold ownN
   simp only [if_neg c0,if_neg c1,if_neg c2,if_pos c3]
 simp only [if_neg c3] at h
 by_cases c4:k=6∨k=13
 ·simp only [if_pos c4] at h
  obtain ⟨a0,u0,e0,h⟩:=bindP_some.1 h
  obtain ⟨a1,u1,e1,h⟩:=bindP_some.1 h
  simp only [pureP,Option.some.injEq,Prod.mk.injEq] at h
  obtain ⟨rfl,rfl⟩:=h
  obtain ⟨rfl,o0⟩:=(num_cod).back _ _ _ e0
  obtain ⟨rfl,o1⟩:=(dig_cod).back _ _ _ e1
  refine ⟨?_, ?_,rfl,rfl,rfl,rfl, ?_⟩
  ·unfold bodyE
   simp only [if_neg c0,if_neg c1,if_neg c2,if_neg c3,if_pos c4,List.append_assoc]
  ·unfold bodyOk
   simp only [if_neg c0,if_neg c1,if_neg c2,if_neg c3,if_pos c4]
   exact ⟨o0,o1⟩
  ·unfold ownN
   simp only [if_neg c0,if_neg c1,if_neg c2,if_neg c3,if_pos c4]
 simp only [if_neg c4] at h
 by_cases c5:k=7
 ·simp only [if_pos c5] at h
  obtain ⟨a0,u0,e0,h⟩:=bindP_some.1 h
  simp only [pureP,Option.some.injEq,Prod.mk.injEq] at h
  obtain ⟨rfl,rfl⟩:=h
  obtain ⟨rfl,o0⟩:=(change_cod).back _ _ _ e0
  refine ⟨?_, ?_,rfl,rfl,rfl,rfl, ?_⟩
  ·unfold bodyE
   simp only [if_neg c0,if_neg c1,if_neg c2,if_neg c3,if_neg c4,if_pos c5]
  ·unfold bodyOk
   simp only [if_neg c0,if_neg c1,if_neg c2,if_neg c3,if_neg c4,if_pos c5]
   exact o0
  ·unfold ownN
   simp only [if_neg c0,if_neg c1,if_neg c2,if_neg c3,if_neg c4,if_pos c5]
 simp only [if_neg c5] at h
 by_cases c6:k=8
 ·simp only [if_pos c6] at h
  obtain ⟨a0,u0,e0,h⟩:=bindP_some.1 h
  obtain ⟨a1,u1,e1,h⟩:=bindP_some.1 h
  obtain ⟨a2,u2,e2,h⟩:=bindP_some.1 h
  simp only [pureP,Option.some.injEq,Prod.mk.injEq] at h
  obtain ⟨rfl,rfl⟩:=h
  obtain ⟨rfl,o0⟩:=(num_cod).back _ _ _ e0
  obtain ⟨rfl,o1⟩:=(num_cod).back _ _ _ e1
  obtain ⟨rfl,o2⟩:=(dig_cod).back _ _ _ e2
  refine ⟨?_, ?_,rfl,rfl,rfl,rfl, ?_⟩
  ·unfold bodyE
   simp only [if_neg c0,if_neg c1,if_neg c2,if_neg c3,if_neg c4,if_neg c5,if_pos c6,List.append_assoc]
  ·unfold bodyOk
   simp only [if_neg c0,if_neg c1,if_neg c2,if_neg c3,if_neg c4,if_neg c5,if_pos c6]
   exact ⟨o0,o1,o2⟩
  ·unfold ownN
   simp only [if_neg c0,if_neg c1,if_neg c2,if_neg c3,if_neg c4,if_neg c5,if_pos c6]
 simp only [if_neg c6] at h
 by_cases c7:k=9
 ·simp only [if_pos c7] at h
  obtain ⟨a0,u0,e0,h⟩:=bindP_some.1 h
  obtain ⟨a1,u1,e1,h⟩:=bindP_some.1 h
  obtain ⟨a2,u2,e2,h⟩:=bindP_some.1 h
  simp only [pureP,Option.some.injEq,Prod.mk.injEq] at h
  obtain ⟨rfl,rfl⟩:=h
  obtain ⟨rfl,o0⟩:=(num_cod).back _ _ _ e0
  obtain ⟨rfl,o1⟩:=(list_cod change_cod 7 (by decide)).back _ _ _ e1
  obtain ⟨rfl,o2⟩:=(list_cod pick_cod 8 (by decide)).back _ _ _ e2
  refine ⟨?_, ?_,rfl,rfl,rfl,rfl, ?_⟩
  ·unfold bodyE
   simp only [if_neg c0,if_neg c1,if_neg c2,if_neg c3,if_neg c4,if_neg c5,if_neg c6,if_pos c7,List.append_assoc]
  ·unfold bodyOk
   simp only [if_neg c0,if_neg c1,if_neg c2,if_neg c3,if_neg c4,if_neg c5,if_neg c6,if_pos c7]
   exact ⟨o0,o1,o2⟩
  ·unfold ownN
   simp only [if_neg c0,if_neg c1,if_neg c2,if_neg c3,if_neg c4,if_neg c5,if_neg c6,if_pos c7]
 simp only [if_neg c7] at h
 by_cases c8:k=10
 ·simp only [if_pos c8] at h
  obtain ⟨a0,u0,e0,h⟩:=bindP_some.1 h
  obtain ⟨a1,u1,e1,h⟩:=bindP_some.1 h
  obtain ⟨a2,u2,e2,h⟩:=bindP_some.1 h
  obtain ⟨a3,u3,e3,h⟩:=bindP_some.1 h
  simp only [pureP,Option.some.injEq,Prod.mk.injEq] at h
  obtain ⟨rfl,rfl⟩:=h
  obtain ⟨rfl,o0⟩:=(num_cod).back _ _ _ e0
  obtain ⟨rfl,o1⟩:=(dig_cod).back _ _ _ e1
  obtain ⟨rfl,o2⟩:=(num_cod).back _ _ _ e2
  obtain ⟨rfl,o3⟩:=(num_cod).back _ _ _ e3
  refine ⟨?_, ?_,rfl,rfl,rfl,rfl, ?_⟩
  ·unfold bodyE
   simp only [if_neg c0,if_neg c1,if_neg c2,if_neg c3,if_neg c4,if_neg c5,if_neg c6,if_neg c7,if_pos c8,List.append_assoc]
  ·unfold bodyOk
   simp only [if_neg c0,if_neg c1,if_neg c2,if_neg c3,if_neg c4,if_neg c5,if_neg c6,if_neg c7,if_pos c8]
   exact ⟨o0,o1,o2,o3⟩
  ·unfold ownN
   simp only [if_neg c0,if_neg c1,if_neg c2,if_neg c3,if_neg c4,if_neg c5,if_neg c6,if_neg c7,if_pos c8]
 simp only [if_neg c8] at h
 by_cases c9:k=11
 ·simp only [if_pos c9] at h
  obtain ⟨a0,u0,e0,h⟩:=bindP_some.1 h
  obtain ⟨a1,u1,e1,h⟩:=bindP_some.1 h
  obtain ⟨a2,u2,e2,h⟩:=bindP_some.1 h
  obtain ⟨a3,u3,e3,h⟩:=bindP_some.1 h
  obtain ⟨a4,u4,e4,h⟩:=bindP_some.1 h
  obtain ⟨a5,u5,e5,h⟩:=bindP_some.1 h
  simp only [pureP,Option.some.injEq,Prod.mk.injEq] at h
  obtain ⟨rfl,rfl⟩:=h
  obtain ⟨rfl,o0⟩:=(num_cod).back _ _ _ e0
  obtain ⟨rfl,o1⟩:=(dig_cod).back _ _ _ e1
  obtain ⟨rfl,o2⟩:=(num_cod).back _ _ _ e2
  obtain ⟨rfl,o3⟩:=(num_cod).back _ _ _ e3
  obtain ⟨rfl,o4⟩:=(list_cod dig_cod 8 (by decide)).back _ _ _ e4
  obtain ⟨rfl,o5⟩:=(str_cod 1024 (by decide) (by decide)).back _ _ _ e5
  refine ⟨?_, ?_,rfl,rfl,rfl,rfl, ?_⟩
  ·unfold bodyE
   simp only [if_neg c0,if_neg c1,if_neg c2,if_neg c3,if_neg c4,if_neg c5,if_neg c6,if_neg c7,if_neg c8,if_pos c9,List.append_assoc]
  ·unfold bodyOk
   simp only [if_neg c0,if_neg c1,if_neg c2,if_neg c3,if_neg c4,if_neg c5,if_neg c6,if_neg c7,if_neg c8,if_pos c9]
   exact ⟨o0,o1,o2,o3,o4,o5⟩
  ·unfold ownN
   simp only [if_neg c0,if_neg c1,if_neg c2,if_neg c3,if_neg c4,if_neg c5,if_neg c6,if_neg c7,if_neg c8,if_pos c9]
 simp only [if_neg c9] at h
 by_cases c10:k=12
 ·simp only [if_pos c10] at h
  obtain ⟨a0,u0,e0,h⟩:=bindP_some.1 h
  simp only [pureP,Option.some.injEq,Prod.mk.injEq] at h
  obtain ⟨rfl,rfl⟩:=h
  obtain ⟨rfl,o0⟩:=(list_cod num_cod 7 (by decide)).back _ _ _ e0
  refine ⟨?_, ?_,rfl,rfl,rfl,rfl, ?_⟩
  ·unfold bodyE
   simp only [if_neg c0,if_neg c1,if_neg c2,if_neg c3,if_neg c4,if_neg c5,if_neg c6,if_neg c7,if_neg c8,if_neg c9,if_pos c10]
  ·unfold bodyOk
   simp only [if_neg c0,if_neg c1,if_neg c2,if_neg c3,if_neg c4,if_neg c5,if_neg c6,if_neg c7,if_neg c8,if_neg c9,if_pos c10]
   exact o0
  ·unfold ownN
   simp only [if_neg c0,if_neg c1,if_neg c2,if_neg c3,if_neg c4,if_neg c5,if_neg c6,if_neg c7,if_neg c8,if_neg c9,if_pos c10]
 simp only [if_neg c10] at h
 by_cases c11:k=15
 ·simp only [if_pos c11] at h
  obtain ⟨a0,u0,e0,h⟩:=bindP_some.1 h
  obtain ⟨a1,u1,e1,h⟩:=bindP_some.1 h
  simp only [pureP,Option.some.injEq,Prod.mk.injEq] at h
  obtain ⟨rfl,rfl⟩:=h
  obtain ⟨rfl,o0⟩:=(num_cod).back _ _ _ e0
  obtain ⟨rfl,o1⟩:=(batch_cod).back _ _ _ e1
  refine ⟨?_, ?_,rfl,rfl,rfl,rfl, ?_⟩
  ·unfold bodyE
   simp only [if_neg c0,if_neg c1,if_neg c2,if_neg c3,if_neg c4,if_neg c5,if_neg c6,if_neg c7,if_neg c8,if_neg c9,if_neg c10,if_pos c11,List.append_assoc]
  ·unfold bodyOk
   simp only [if_neg c0,if_neg c1,if_neg c2,if_neg c3,if_neg c4,if_neg c5,if_neg c6,if_neg c7,if_neg c8,if_neg c9,if_neg c10,if_pos c11]
   exact ⟨o0,o1⟩
  ·unfold ownN
   simp only [if_neg c0,if_neg c1,if_neg c2,if_neg c3,if_neg c4,if_neg c5,if_neg c6,if_neg c7,if_neg c8,if_neg c9,if_neg c10,if_pos c11]
 simp only [if_neg c11] at h
 simp only [pureP,Option.some.injEq,Prod.mk.injEq] at h
 obtain ⟨rfl,rfl⟩:=h
 refine ⟨?_, ?_,rfl,rfl,rfl,rfl, ?_⟩
 ·unfold bodyE
  simp only [if_neg c0,if_neg c1,if_neg c2,if_neg c3,if_neg c4,if_neg c5,if_neg c6,if_neg c7,if_neg c8,if_neg c9,if_neg c10,if_neg c11,List.nil_append]
 ·unfold bodyOk
  simp only [if_neg c0,if_neg c1,if_neg c2,if_neg c3,if_neg c4,if_neg c5,if_neg c6,if_neg c7,if_neg c8,if_neg c9,if_neg c10,if_neg c11]
 ·unfold ownN
  simp only [if_neg c0,if_neg c1,if_neg c2,if_neg c3,if_neg c4,if_neg c5,if_neg c6,if_neg c7,if_neg c8,if_neg c9,if_neg c10,if_neg c11]
theorem note_rd (n:Nte) (t:List UInt8) (h:noteOk n):noteP (noteE n++t)=some (ownN n,t):=by
 obtain ⟨h0,h1,h2,h3,h4⟩:=h
 unfold noteP noteE
 simp only [List.append_assoc]
 rw [num_cod.bindRd h0,num_cod.bindRd h1,num_cod.bindRd h2,num_cod.bindRd h3]
 exact body_rd n t h4
theorem note_back (b:List UInt8) (n:Nte) (t:List UInt8) (h:noteP b=some (n,t)):b=noteE n++t∧noteOk n∧ownN n=n:=by
 unfold noteP at h
 obtain ⟨a0,u0,e0,h⟩:=bindP_some.1 h
 obtain ⟨a1,u1,e1,h⟩:=bindP_some.1 h
 obtain ⟨a2,u2,e2,h⟩:=bindP_some.1 h
 obtain ⟨a3,u3,e3,h⟩:=bindP_some.1 h
 obtain ⟨rfl,o4,rfl,rfl,rfl,rfl,o5⟩:=body_back _ _ _ _ _ _ _ h
 obtain ⟨rfl,o0⟩:=num_cod.back _ _ _ e0
 obtain ⟨rfl,o1⟩:=num_cod.back _ _ _ e1
 obtain ⟨rfl,o2⟩:=num_cod.back _ _ _ e2
 obtain ⟨rfl,o3⟩:=num_cod.back _ _ _ e3
 exact ⟨by simp only [noteE,List.append_assoc],⟨o0,o1,o2,o3,o4⟩,o5⟩
end Go.Eng
namespace Go.Eng
def ltD : List UInt8 → List UInt8 → Bool
 |x::r,y::t=>if x=y then ltD r t else decide (x.toNat<y.toNat)
 |_,_=>false
def mark0:Mrk:=⟨0,dig0⟩
def stand0:Stn:=⟨0,dig0,0⟩
def wish0:Wsh:=⟨0,0,0,0,0,0, [],0,0, []⟩
def pick0:Pck:=⟨0,dig0, []⟩
def OrdLt (x y:Stn):Prop:=x.seq<y.seq∨x.seq=y.seq∧(x.view<y.view∨x.view=y.view∧ltD x.dig.l y.dig.l=true)
instance (x y:Stn):Decidable (OrdLt x y):=by unfold OrdLt;infer_instance
def cntQ (l:List Stn) (s:Int):Nat:=(l.filter fun x=>decide (x.seq=s)).length
theorem cntQ_snoc (l:List Stn) (x:Stn) (s:Int):cntQ (l++ [x]) s=cntQ l s+(if x.seq=s then 1 else 0):=by
 unfold cntQ
 rw [List.filter_append,List.length_append]
 by_cases h:x.seq=s<;>simp [h]
def StandAt (l:List Stn) (low view:Int) (many:Nat) (i:Nat):Prop:=
 low<(l.getD i stand0).seq∧(l.getD i stand0).seq≤low+8∧0≤(l.getD i stand0).view∧(l.getD i stand0).view<view∧(0<i→OrdLt (l.getD (i-1) stand0) (l.getD i stand0))∧
 cntQ (l.take (i+1)) (l.getD i stand0).seq≤many∧(∀k,k<i→¬((l.getD k stand0).seq=(l.getD i stand0).seq∧(l.getD k stand0).dig=(l.getD i stand0).dig))
instance (l:List Stn) (low view:Int) (many i:Nat):Decidable (StandAt l low view many i):=by unfold StandAt;infer_instance
def StandsMay (l:List Stn) (low view:Int) (many:Nat):Prop:= ∀i,i<l.length→StandAt l low view many i
instance (l:List Stn) (low view:Int) (many:Nat):Decidable (StandsMay l low view many):=by unfold StandsMay;infer_instance
def MarksRise (l:List Mrk):Prop:= ∀i,i<l.length→0<i→(l.getD (i-1) mark0).seq<(l.getD i mark0).seq∧(l.getD i mark0).seq≤9007199254740991
instance (l:List Mrk):Decidable (MarksRise l):=by unfold MarksRise;infer_instance
def ChangeMay (c : Chn) : Prop := 1 ≤ c.node ∧ c.node ≤ 28 ∧ 1 ≤ c.view ∧ c.view ≤ 1048576 ∧ 0 ≤ c.low ∧ c.low ≤ 9007199254740983 ∧ 1 ≤ c.marks.length ∧ c.marks.length ≤ 5 ∧ (c.marks.getD 0 mark0).seq = c.low ∧
 MarksRise c.marks∧StandsMay c.p c.low c.view 1∧StandsMay c.q c.low c.view 4
instance (c:Chn):Decidable (ChangeMay c):=by unfold ChangeMay;infer_instance
def BM (g e:Int) (w:Wsh):Prop:=WishMay w∧w.group=g∧w.epoch=e
instance (g e:Int) (w:Wsh):Decidable (BM g e w):=by unfold BM;infer_instance
def BatchMay (l:List Wsh) (g e:Int):Prop:=l.length≤4∧∀x∈l,BM g e x
instance (l:List Wsh) (g e:Int):Decidable (BatchMay l g e):=by unfold BatchMay;infer_instance
def AnswerMay (a:Ans):Prop:=0≤a.err∧a.err≤999∧a.data.length≤16∧0≤a.epoch∧a.epoch≤1048576∧a.nodes.length≤7∧∀y∈a.nodes,1≤y∧y≤28
instance (a:Ans):Decidable (AnswerMay a):=by unfold AnswerMay;infer_instance
def ChAt (l:List Chn) (v:Int) (i:Nat):Prop:=ChangeMay (l.getD i change0)∧(l.getD i change0).view=v∧(0<i→(l.getD (i-1) change0).node<(l.getD i change0).node)
instance (l:List Chn) (v:Int) (i:Nat):Decidable (ChAt l v i):=by unfold ChAt;infer_instance
def PkAt (l : List Pck) (g e : Int) (i : Nat) : Prop := 1 ≤ (l.getD i pick0).seq ∧ (l.getD i pick0).seq ≤ 9007199254740991 ∧ (0 < i → (l.getD i pick0).seq - 1 = (l.getD (i - 1) pick0).seq) ∧ BatchMay (l.getD i pick0).batch g e ∧
 ¬((l.getD i pick0).dig=dig0∧0<(l.getD i pick0).batch.length)
instance (l:List Pck) (g e:Int) (i:Nat):Decidable (PkAt l g e i):=by unfold PkAt;infer_instance
def NewMay (n:Nte):Prop:=1≤n.changes.length∧n.changes.length≤7∧n.picks.length≤8∧1≤n.view∧(∀i,i<n.changes.length→ChAt n.changes n.view i)∧(∀i,i<n.picks.length→PkAt n.picks n.group n.epoch i)
instance (n:Nte):Decidable (NewMay n):=by unfold NewMay;infer_instance
def isView (v:Int):Prop:=0≤v∧v≤1048576
instance (v:Int):Decidable (isView v):=by unfold isView;infer_instance
def isSeq (v:Int):Prop:=1≤v∧v≤9007199254740991
instance (v:Int):Decidable (isSeq v):=by unfold isSeq;infer_instance
def WishNote (n:Nte):Prop:=n.batch.length=1∧BatchMay n.batch n.group n.epoch∧31≤n.from_∧n.from_≤34∧(n.batch.getD 0 wish0).client=n.from_∧(n.kind=1∨(n.batch.getD 0 wish0).kind=1)
instance (n:Nte):Decidable (WishNote n):=by unfold WishNote;infer_instance
def FitsN (n:Nte):Prop:=
 if n.kind=1∨n.kind=14 then WishNote n
 else if n.kind=2 then 31≤n.node∧n.node≤34∧0≤n.stamp∧n.stamp≤9007199254740991∧AnswerMay n.ans
 else if n.kind=3 then isView n.view∧isSeq n.seq∧BatchMay n.batch n.group n.epoch
 else if n.kind=4∨n.kind=5 then isView n.view∧isSeq n.seq
 else if n.kind=6∨n.kind=13 then isSeq n.seq
 else if n.kind=7 then ChangeMay n.change∧n.change.node=n.from_
 else if n.kind=8 then isView n.view∧0<n.view∧1≤n.node∧n.node≤28∧n.node≠n.from_
 else if n.kind=9 then NewMay n
 else if n.kind=10∨n.kind=11 then isSeq n.seq∧0≤n.level∧n.level≤9∧0≤n.place∧n.place≤999∧n.digs.length≤8∧n.data.length≤1024
 else if n.kind=12 then NodesRise n.nodes∧1≤n.nodes.length∧n.nodes.length≤7
 else if n.kind=16 then BatchMay n.batch n.group n.epoch
 else isSeq n.seq∧BatchMay n.batch n.group n.epoch
instance (n:Nte):Decidable (FitsN n):=by unfold FitsN;infer_instance
def MayN (n:Nte):Prop:=1≤n.kind∧n.kind≤16∧0≤n.group∧n.group≤2∧0≤n.epoch∧n.epoch≤1048576∧(n.kind=1∨n.kind=14∨(1≤n.from_∧n.from_≤28))∧FitsN n
instance (n:Nte):Decidable (MayN n):=by unfold MayN;infer_instance
def PackMay (n:Nte):Prop:=MayN n∧ownN n=n
instance (n:Nte):Decidable (PackMay n):=by unfold PackMay;infer_instance
def unpackS (b : List UInt8) : Nte × Int := match noteP b with
 |some (n,u)=>if u= []∧MayN n then (n,0) else (note0,4)
 |none=>(note0,4)
theorem filter_split (l:List Stn) (s:Int) (k:Nat):(l.filter fun x=>decide (s<x.seq∧x.seq≤s+((k+1:Nat):Int))).length=(l.filter fun x=>decide (s<x.seq∧x.seq≤s+(k:Int))).length+cntQ l (s+((k+1:Nat):Int)):=by
 unfold cntQ
 induction l with
 |nil=>rfl
 | cons x r ih =>
  simp only [List.filter_cons]
  by_cases h1:x.seq=s+((k+1:Nat):Int)
  ·have h2 : ¬ (s < x.seq ∧ x.seq ≤ s + (k : Int)) := by omega
   have h3:s<x.seq∧x.seq≤s+((k+1:Nat):Int):=by omega
   simp only [decide_eq_true h1,decide_eq_false h2,decide_eq_true h3,if_true,List.length_cons,ih]
   simp
   omega
  ·by_cases h2 : s < x.seq ∧ x.seq ≤ s + (k : Int)
   ·have h3 : s < x.seq ∧ x.seq ≤ s + ((k + 1 : Nat) : Int) := by omega
    simp only [decide_eq_false h1,decide_eq_true h2,decide_eq_true h3,if_true,List.length_cons,ih]
    simp
    omega
   ·have h3 : ¬ (s < x.seq ∧ x.seq ≤ s + ((k + 1 : Nat) : Int)) := by omega
    simp only [decide_eq_false h1,decide_eq_false h2,decide_eq_false h3,ih,Bool.false_eq_true,if_false]
theorem filter_le (l : List Stn) (s : Int) (m : Nat) (h : ∀ v, cntQ l v ≤ m) : ∀ k : Nat, (l.filter fun x => decide (s < x.seq ∧ x.seq ≤ s + (k : Int))).length ≤ k * m
 | 0 => by
  have:(l.filter fun x=>decide (s<x.seq∧x.seq≤s+((0:Nat):Int)))= []:=List.filter_eq_nil_iff.2 (fun x _=>by simp only [decide_eq_true_eq];omega)
  rw [this];simp
 | k + 1 => by
  have ih:=filter_le l s m h k
  rw [filter_split,Nat.succ_mul]
  have:=h (s+((k+1:Nat):Int))
  omega
theorem cntQ_take (l : List Stn) (v : Int) (m : Nat) (h : ∀ i, i < l.length → cntQ (l.take (i + 1)) (l.getD i stand0).seq ≤ m) : ∀ k, k ≤ l.length → cntQ (l.take k) v ≤ m
 |0,_=>by simp [cntQ]
 | k + 1, hk => by
  have ih:=cntQ_take l v m h k (by omega)
  have e:l.take (k+1)=l.take k++ [l.getD k stand0]:=by
   rw [List.getD_eq_getElem?_getD,List.getElem?_eq_getElem (by omega)]
   exact (List.take_append_getElem (by omega)).symm
  by_cases hv:(l.getD k stand0).seq=v
  ·rw [←hv];exact h k (by omega)
  ·rw [e,cntQ_snoc,if_neg hv];omega
theorem stands_len {l:List Stn} {low view:Int} {many:Nat} (h:StandsMay l low view many):l.length≤8*many:=by
 have h1:=fun v=>cntQ_take l v many (fun i hi=>(h i hi).2.2.2.2.2.1) l.length (Nat.le_refl _)
 have h2:=filter_le l low many (fun v=>by have:=h1 v;rwa [List.take_length] at this) 8
 have h3 : (l.filter fun x => decide (low < x.seq ∧ x.seq ≤ low + ((8 : Nat) : Int))) = l := List.filter_eq_self.2 (fun x hx => by
  obtain ⟨i,hi,rfl⟩:=List.mem_iff_getElem.1 hx
  have:=h i hi
  unfold StandAt at this
  rw [List.getD_eq_getElem?_getD,List.getElem?_eq_getElem hi] at this
  simp only [Option.getD_some] at this
  exact decide_eq_true ⟨this.1,by have:=this.2.1;omega⟩)
 rw [h3] at h2
 exact h2
theorem stands_ok {l:List Stn} {low view:Int} {many:Nat} (h:StandsMay l low view many) (h0:0≤low) (h1:low≤9007199254740983) (h2:view≤1048577): ∀x∈l,standOk x∧x.view≤1048576:=by
 intro x hx
 obtain ⟨i,hi,rfl⟩:=List.mem_iff_getElem.1 hx
 have:=h i hi
 unfold StandAt at this
 rw [List.getD_eq_getElem?_getD,List.getElem?_eq_getElem hi] at this
 simp only [Option.getD_some] at this
 obtain ⟨a1,a2,a3,a4,_⟩:=this
 exact ⟨⟨⟨by omega,by omega⟩,trivial,⟨by omega,by omega⟩⟩,by omega⟩
theorem marks_ok {c:Chn} (h:ChangeMay c): ∀x∈c.marks,markOk x:=by
 obtain ⟨_,_,_,_,h0,h1,_,_,hm,hr,_⟩:=h
 have key: ∀i,i<c.marks.length→0≤(c.marks.getD i mark0).seq∧(c.marks.getD i mark0).seq≤9007199254740991:=by
  intro i
  induction i with
  |zero=>intro _;omega
  | succ i ih =>
   intro hi
   have:=hr (i+1) hi (by omega)
   have:=ih (by omega)
   simp only [Nat.add_sub_cancel] at *
   omega
 intro x hx
 obtain ⟨i,hi,rfl⟩:=List.mem_iff_getElem.1 hx
 have:=key i hi
 rw [List.getD_eq_getElem?_getD,List.getElem?_eq_getElem hi] at this
 exact ⟨this,trivial⟩
theorem change_fine {c:Chn} (h:ChangeMay c):changeOk c:=by
 have hm:=marks_ok h
 obtain ⟨_,_,_,_,h0,h1,h2,h3,_,_,hp,hq⟩:=h
 have lp:=stands_len hp
 have lq:=stands_len hq
 exact ⟨⟨by omega,by omega⟩,⟨by omega,by omega⟩,⟨by omega,by omega⟩,⟨by omega,hm⟩,⟨by omega,fun x hx=>(stands_ok hp h0 h1 (by omega) x hx).1⟩,⟨by omega,fun x hx=>(stands_ok hq h0 h1 (by omega) x hx).1⟩⟩
theorem markE_len {x:Mrk} (h:markOk x):(markE x).length≤40:=by
 have:=numE_len h.1
 have:=x.dig.h
 simp only [markE,digE,List.length_append]
 omega
theorem standE_len {x:Stn} (h:standOk x):(standE x).length≤48:=by
 have:=numE_len h.1
 have:=numE_len h.2.2
 have:=x.dig.h
 simp only [standE,digE,List.length_append]
 omega
theorem changeE_len {c:Chn} (h:changeOk c):(changeE c).length≤2170:=by
 obtain ⟨a1,a2,a3,⟨a4,a5⟩,⟨a6,a7⟩,⟨a8,a9⟩⟩:=h
 have b1:=numE_len a1
 have b2:=numE_len a2
 have b3:=numE_len a3
 have c1:=numE_small (n:=(c.marks.length:Int)) (by omega) (by omega)
 have c2:=numE_small (n:=(c.p.length:Int)) (by omega) (by omega)
 have c3:=numE_small (n:=(c.q.length:Int)) (by omega) (by omega)
 have d1:=flatE_len markE c.marks 40 (fun x hx=>markE_len (a5 x hx))
 have d2:=flatE_len standE c.p 48 (fun x hx=>standE_len (a7 x hx))
 have d3:=flatE_len standE c.q 48 (fun x hx=>standE_len (a9 x hx))
 simp only [changeE,listE,List.length_append]
 omega
theorem BatchMay.ok {l:List Wsh} {g e:Int} (h:BatchMay l g e):batchOk l:=⟨by have:=h.1;omega,fun x hx=>(h.2 x hx).1⟩
theorem new_fine {n:Nte} (h:NewMay n):(∀x∈n.changes,changeOk x)∧(∀x∈n.picks,pickOk x):=by
 obtain ⟨_,_,_,_,hc,hp⟩:=h
 refine ⟨fun x hx=> ?_,fun x hx=> ?_⟩
 ·obtain ⟨i, hi, rfl⟩ := List.mem_iff_getElem.1 hx
  have:=(hc i hi).1
  rw [List.getD_eq_getElem?_getD,List.getElem?_eq_getElem hi] at this
  exact change_fine this
 ·obtain ⟨i, hi, rfl⟩ := List.mem_iff_getElem.1 hx
  have:=hp i hi
  unfold PkAt at this
  rw [List.getD_eq_getElem?_getD,List.getElem?_eq_getElem hi] at this
  simp only [Option.getD_some] at this
  exact ⟨⟨by omega,this.2.1⟩,trivial,this.2.2.2.1.ok⟩
theorem pickE_len {x:Pck} (h:pickOk x):(pickE x).length≤702:=by
 have:=numE_len h.1
 have:=x.dig.h
 have:=batchE_len h.2.2
 simp only [pickE,digE,List.length_append]
 omega
theorem may_fine {n:Nte} (h:MayN n):noteOk n∧(noteE n).length≤65536:=by
 obtain ⟨k1,k2,g1,g2,e1,e2,hf,hfit⟩:=h
 have hfr:isNum n.from_:=by
  rcases hf with hk|hk|hk
  ·unfold FitsN at hfit
   rw [if_pos (.inl hk)] at hfit
   exact ⟨by have:=hfit.2.2.1;omega,by have:=hfit.2.2.2.1;omega⟩
  ·unfold FitsN at hfit
   rw [if_pos (.inr hk)] at hfit
   exact ⟨by have:=hfit.2.2.1;omega,by have:=hfit.2.2.2.1;omega⟩
  ·exact ⟨by omega,by omega⟩
 have hbody:bodyOk n∧(bodyE n).length≤65000:=by
  unfold FitsN at hfit
  unfold bodyOk bodyE
  by_cases c1:n.kind=1∨n.kind=14
  ·rw [if_pos c1] at hfit
   rw [if_pos (by omega),if_pos (by omega)]
   exact ⟨hfit.2.1.ok,by have:=batchE_len hfit.2.1.ok;omega⟩
  rw [if_neg c1] at hfit
  by_cases c16:n.kind=16
  ·rw [if_pos (by omega), if_pos (by omega)]
   rw [if_neg (by omega),if_neg (by omega),if_neg (by omega),if_neg (by omega),if_neg (by omega),if_neg (by omega),if_neg (by omega),if_neg (by omega),if_neg (by omega),if_pos c16] at hfit
   exact ⟨hfit.ok,by have:=batchE_len hfit.ok;omega⟩
  rw [if_neg (by omega: ¬(n.kind=1∨n.kind=14∨n.kind=16)),if_neg (by omega: ¬(n.kind=1∨n.kind=14∨n.kind=16))]
  by_cases c2:n.kind=2
  ·rw [if_pos c2] at hfit
   rw [if_pos c2,if_pos c2]
   obtain ⟨a1,a2,a3,a4,b1,b2,b3,b4,b5,b6,b7⟩:=hfit
   have o1:isNum n.node:=⟨by omega,by omega⟩
   have o2:isNum n.stamp:=⟨by omega,by omega⟩
   have o3:isNum n.ans.err:=⟨by omega,by omega⟩
   have o4:isNum n.ans.epoch:=⟨by omega,by omega⟩
   have o5: ∀y∈n.ans.nodes,isNum y:=fun y hy=>⟨by have:=(b7 y hy).1;omega,by have:=(b7 y hy).2;omega⟩
   refine ⟨⟨o1,o2,o3,by omega,o4,by omega,o5⟩, ?_⟩
   have:=numE_len o1
   have:=numE_len o2
   have:=numE_len o3
   have:=numE_len o4
   have:=strE_len n.ans.data (by omega)
   have:=numE_small (n:=(n.ans.nodes.length:Int)) (by omega) (by omega)
   have:=flatE_len numE n.ans.nodes 8 (fun y hy=>numE_len (o5 y hy))
   simp only [ansE,listE,List.length_append]
   omega
  rw [if_neg c2] at hfit
  rw [if_neg c2,if_neg c2]
  by_cases c3:n.kind=3
  ·rw [if_pos c3] at hfit
   rw [if_pos c3,if_pos c3]
   have o1:isNum n.view:=⟨hfit.1.1,by have:=hfit.1.2;omega⟩
   have o2:isNum n.seq:=⟨by have:=hfit.2.1.1;omega,hfit.2.1.2⟩
   refine ⟨⟨o1,o2,hfit.2.2.ok⟩, ?_⟩
   have:=numE_len o1
   have:=numE_len o2
   have:=batchE_len hfit.2.2.ok
   simp only [List.length_append]
   omega
  rw [if_neg c3] at hfit
  rw [if_neg c3,if_neg c3]
  have hdg:=n.dig.h
  by_cases c4:n.kind=4∨n.kind=5
  ·rw [if_pos c4] at hfit
   rw [if_pos c4,if_pos c4]
   have o1:isNum n.view:=⟨hfit.1.1,by have:=hfit.1.2;omega⟩
   have o2:isNum n.seq:=⟨by have:=hfit.2.1;omega,hfit.2.2⟩
   refine ⟨⟨o1,o2,trivial⟩, ?_⟩
   have:=numE_len o1
   have:=numE_len o2
   simp only [digE,List.length_append]
   omega
  rw [if_neg c4] at hfit
  rw [if_neg c4,if_neg c4]
  by_cases c6:n.kind=6∨n.kind=13
  ·rw [if_pos c6] at hfit
   rw [if_pos c6,if_pos c6]
   have o2:isNum n.seq:=⟨by have:=hfit.1;omega,hfit.2⟩
   refine ⟨⟨o2,trivial⟩, ?_⟩
   have:=numE_len o2
   simp only [digE,List.length_append]
   omega
  rw [if_neg c6] at hfit
  rw [if_neg c6,if_neg c6]
  by_cases c7:n.kind=7
  ·rw [if_pos c7] at hfit
   rw [if_pos c7,if_pos c7]
   have o:=change_fine hfit.1
   exact ⟨o,by have:=changeE_len o;omega⟩
  rw [if_neg c7] at hfit
  rw [if_neg c7,if_neg c7]
  by_cases c8:n.kind=8
  ·rw [if_pos c8] at hfit
   rw [if_pos c8,if_pos c8]
   have o1:isNum n.view:=⟨hfit.1.1,by have:=hfit.1.2;omega⟩
   have o2:isNum n.node:=⟨by have:=hfit.2.2.1;omega,by have:=hfit.2.2.2.1;omega⟩
   refine ⟨⟨o1,o2,trivial⟩, ?_⟩
   have:=numE_len o1
   have:=numE_len o2
   simp only [digE,List.length_append]
   omega
  rw [if_neg c8] at hfit
  rw [if_neg c8,if_neg c8]
  by_cases c9:n.kind=9
  ·rw [if_pos c9] at hfit
   rw [if_pos c9,if_pos c9]
   obtain ⟨oc,op⟩:=new_fine hfit
   have hco:=hfit.2.2.2.2.1 0 (by have:=hfit.1;omega)
   have o1:isNum n.view:=⟨by have:=hfit.2.2.2.1;omega,by have h1:=hco.1.2.2.2.1;have h2:=hco.2.1;omega⟩
   have l1:=hfit.2.1
   have l2:=hfit.2.2.1
   refine ⟨⟨o1,⟨by omega,oc⟩,by omega,op⟩, ?_⟩
   have:=numE_len o1
   have:=numE_small (n:=(n.changes.length:Int)) (by omega) (by omega)
   have:=numE_small (n:=(n.picks.length:Int)) (by omega) (by omega)
   have:=flatE_len changeE n.changes 2170 (fun x hx=>changeE_len (oc x hx))
   have:=flatE_len pickE n.picks 702 (fun x hx=>pickE_len (op x hx))
   simp only [listE,List.length_append]
   omega
  rw [if_neg c9] at hfit
  rw [if_neg c9,if_neg c9]
  by_cases c10:n.kind=10
  ·rw [if_pos (.inl c10)] at hfit
   rw [if_pos c10,if_pos c10]
   have o2:isNum n.seq:=⟨by have:=hfit.1.1;omega,hfit.1.2⟩
   have o3:isNum n.level:=⟨by omega,by omega⟩
   have o4:isNum n.place:=⟨by omega,by omega⟩
   refine ⟨⟨o2,trivial,o3,o4⟩, ?_⟩
   have:=numE_len o2
   have:=numE_len o3
   have:=numE_len o4
   simp only [digE,List.length_append]
   omega
  rw [if_neg c10,if_neg c10]
  by_cases c11:n.kind=11
  ·rw [if_pos (.inr c11)] at hfit
   rw [if_pos c11,if_pos c11]
   have o2:isNum n.seq:=⟨by have:=hfit.1.1;omega,hfit.1.2⟩
   have o3:isNum n.level:=⟨by omega,by omega⟩
   have o4:isNum n.place:=⟨by omega,by omega⟩
   refine ⟨⟨o2,trivial,o3,o4,⟨by omega,by simp⟩,by omega⟩, ?_⟩
   have:=numE_len o2
   have:=numE_len o3
   have:=numE_len o4
   have:=strE_len n.data (by omega)
   have:=numE_small (n:=(n.digs.length:Int)) (by omega) (by omega)
   have:=flatE_len digE n.digs 32 (fun x _=>by simp [digE,x.h])
   simp only [digE,listE,List.length_append] at *
   omega
  rw [if_neg (by omega)] at hfit
  rw [if_neg c11,if_neg c11]
  by_cases c12:n.kind=12
  ·rw [if_pos c12] at hfit
   rw [if_pos c12,if_pos c12]
   have o5: ∀y∈n.nodes,isNum y:=fun y hy=>⟨by have:=(hfit.1.mem y hy).1;omega,by have:=(hfit.1.mem y hy).2;omega⟩
   refine ⟨⟨by omega,o5⟩, ?_⟩
   have:=numE_small (n:=(n.nodes.length:Int)) (by omega) (by omega)
   have:=flatE_len numE n.nodes 8 (fun y hy=>numE_len (o5 y hy))
   simp only [listE,List.length_append]
   omega
  rw [if_neg c12,if_neg c16] at hfit
  rw [if_neg c12,if_neg c12]
  rw [if_pos (by omega),if_pos (by omega)]
  have o2:isNum n.seq:=⟨by have:=hfit.1.1;omega,hfit.1.2⟩
  refine ⟨⟨o2,hfit.2.ok⟩, ?_⟩
  have:=numE_len o2
  have:=batchE_len hfit.2.ok
  simp only [List.length_append]
  omega
 have o1:isNum n.kind:=⟨by omega,by omega⟩
 have o2:isNum n.group:=⟨by omega,by omega⟩
 have o3:isNum n.epoch:=⟨by omega,by omega⟩
 refine ⟨⟨o1,hfr,o2,o3,hbody.1⟩, ?_⟩
 have:=numE_len o1
 have:=numE_len o2
 have:=numE_len o3
 have:=numE_len hfr
 simp only [noteE,List.length_append]
 omega
theorem pack_read {n:Nte} (h:PackMay n) (t:List UInt8):noteP (noteE n++t)=some (n,t):=by
 rw [note_rd n t (may_fine h.1).1,h.2]
theorem unpack_pack {n:Nte} (h:PackMay n):unpackS (noteE n)=(n,0):=by
 have:=pack_read h []
 rw [List.append_nil] at this
 unfold unpackS
 rw [this]
 simp [h.1]
theorem unpack_some {b:List UInt8} (h:(unpackS b).2=0): ∃n,unpackS b=(n,0)∧PackMay n∧b=noteE n:=by
 unfold unpackS at h⊢
 cases hp:noteP b with
 |none=>rw [hp] at h;cases h
 | some v =>
  obtain ⟨n,u⟩:=v
  rw [hp] at h
  simp only at h⊢
  split at h
  ·rename_i hc
   obtain ⟨e,_,ho⟩:=note_back b n u hp
   rw [if_pos hc]
   rw [hc.1,List.append_nil] at e
   exact ⟨n,rfl,⟨hc.2,ho⟩,e⟩
  ·cases h
end Go.Eng
namespace Go.Eng
open Go.RowKit
def arB (P : Program) (t n e size : Nat) : Bool := match P.underlying t with
 |some (.array m e')=>Nat.beq m n&&Nat.beq e' e&&(P.info? e).map (·.size)==some size
 |_=>false
theorem arB_out {P:Program} {t n e size:Nat} (h:arB P t n e size=true):P.underlying t=some (.array n e)∧∃i,P.info? e=some i∧i.size=size:=by
 unfold arB at h
 split at h
 ·rename_i m e' hu
  simp only [Bool.and_eq_true,beq_iff_eq] at h
  obtain ⟨⟨h1,h2⟩,h3⟩:=h
  rw [Nat.eq_of_beq_eq_true h1,Nat.eq_of_beq_eq_true h2] at hu
  cases hi:P.info? e with
  |none=>rw [hi] at h3;cases h3
  |some i=>rw [hi] at h3;exact ⟨hu,i,rfl,by simpa using h3⟩
 ·cases h
section
variable {P:Program} {n:Nat} {L:List (Nat×Value)} {w w':World} {Q:Exit→Act→World→Prop} {ops:Array Oper} {rest:List Oper} {ty:TypeId} {pos:String} {af:Array Edge} {d:Nat}
theorem wl_idxA {p : Addr} {t e size m : Nat} {x ix : Operand} {k : IntKind} {i : Int} (hd : d < n) (hT : arB P t m e size = true)
  (hx:ev L x=some (.pointer (some p))) (hi:ev L ix=some (.int k i)) (j:Nat) (hj:i=(j:Int)) (hlt:j<m)
  (h:WL P n ops Q rest ((d, .pointer (some (p.add (j*size))))::L) w):
  WL P n ops Q ({dst:=some d,op:= .indexAddr t x ix,type:=ty,pos:=pos,after:=af,guard:=none}::rest) L w:=by
 obtain ⟨hu,i0,hi0,hs⟩:=arB_out hT
 refine wl_run (v:= .pointer (some (p.add (j*size)))) hd (fun ac ha=> ?_) h
 subst hj
 simp [execOp,ha.eval hx,ha.eval hi,Instr.indexAt,Instr.sureAddr,asIntOf,run_underlying hu,sizeOf,typeInfo,hi0,hs,hlt]
theorem wl_sliceA {p : Addr} {t e size m : Nat} {x : Operand} (hd : d < n) (hT : arB P t m e size = true) (hx : ev L x = some (.pointer (some p)))
  (h:WL P n ops Q rest ((d, .slice (some p) m m)::L) w):
  WL P n ops Q ({dst:=some d,op:= .slice t x none none none,type:=ty,pos:=pos,after:=af,guard:=none}::rest) L w:=by
 obtain ⟨hu,i0,hi0,hs⟩:=arB_out hT
 refine wl_run (v:= .slice (some p) m m) hd (fun ac ha=> ?_) h
 simp [execOp,ha.eval hx,Instr.sliceAt,Instr.sureAddr,run_underlying hu,sizeOf,typeInfo,hi0,Instr.sliceBounds,add_zero']
theorem wl_arrAt {A : Option Addr} {t e size m k c : Nat} {x : Operand} (hd : d < n) (hT : arB P t m e size = true) (hx : ev L x = some (.slice A k c)) (hm : m ≤ k)
  (h:WL P n ops Q rest ((d, .pointer A)::L) w):
  WL P n ops Q ({dst:=some d,op:= .sliceToArrayPointer t x,type:=ty,pos:=pos,after:=af,guard:=none}::rest) L w:=by
 obtain ⟨hu,i0,hi0,hs⟩:=arB_out hT
 refine wl_run (v:= .pointer A) hd (fun ac ha=> ?_) h
 have hn: ¬k<m:=by omega
 simp [execOp,ha.eval hx,Instr.arrayAt,run_underlying hu,hn]
end
section
variable {S:Nat→Prop} {w:World} {p:Addr} {d:Dig} {cs:List Value}
theorem digC_get (d:Dig) (j:Nat) (hj:j<32):(digC d)[j]? =some (bv (d.l.getD j 0)):=by
 have:=d.h
 rw [digC_map,List.getElem?_map,List.getD_eq_getElem?_getD,List.getElem?_eq_getElem (by omega)]
 rfl
theorem At.dig (h:At w p cs) (e:cs=digC d) {j:Nat} (hj:j<32):w.cell? (p.add (j*1))=some (bv (d.l.getD j 0)):=by
 subst e
 rw [Nat.mul_one]
 exact h.get (digC_get d j hj)
theorem At.bs (h:At w p cs) (e:cs=digC d) (hS:S p.block) (hb:p.block<w.heap.size):GS byteR S w (some p) 32 d.l:=by
 subst e
 have hl:=d.h
 refine ⟨by omega,by omega,fun i hi=>⟨p, [bv d.l[i]],rfl,hb,hS, ?_,rfl⟩⟩
 have h2:=(h.drop (i*1)).take 1
 have e:((digC d).drop (i*1)).take 1= [bv d.l[i]]:=by
  rw [digC_map,Nat.mul_one,List.drop_eq_getElem_cons (by simpa using hi),List.take_succ_cons,List.take_zero]
  simp
 rwa [e] at h2
end
end Go.Eng
namespace Go.Eng
open Go.RowKit
theorem one_cells {v:Value} (h:v.oneCell'=true):v.cells.toList= [v]:=by
 have:=flat_cells1 [v] (by simpa using h)
 simpa using this
theorem putL_set {cs:List Value} {o:Nat} {v:Value} (ho:o<cs.length):putL cs o [v]=cs.set o v:=by
 rw [putL,List.set_eq_take_append_cons_drop,if_pos ho]
 simp
def SP.rd {α : Type} (r : Rep α) (S : Nat → Prop) (x : α) : SP := ⟨fun v w => ∃ cs, v = .agg cs.toArray ∧ r.rd S w cs x, by
 rintro _ w w' ch ⟨cs,rfl,h⟩
 exact ⟨cs,rfl,r.keep ch (fun _ _ _ x=>x) h⟩⟩
def fillS (places : List (Nat × Nat)) : List Value → List (Nat × Value) → Option (List Value)
 |cs, []=>some cs
 | cs, (i, v) :: rest => match places[i]? with
  | some (off, size) => bif Nat.beq size 1 then (bif v.oneCell' && Nat.blt off cs.length then fillS places (cs.set off v) rest else none)
   else bif Nat.beq v.cells.toList.length size&&Nat.ble (off+v.cells.toList.length) cs.length then fillS places (putL cs off v.cells.toList) rest else none
  |none=>none
theorem fillS_L {places : List (Nat × Nat)} : ∀ {parts : List (Nat × Value)} {cs out : List Value}, fillS places cs parts = some out → fillL places cs parts = some out
 | [],cs,out,h=>h
 | (i, v) :: rest, cs, out, h => by
  unfold fillS at h
  unfold fillL
  cases hp:places[i]? with
  |none=>rw [hp] at h;cases h
  | some x =>
   obtain ⟨off,size⟩:=x
   rw [hp] at h
   simp only at h⊢
   cases h1:Nat.beq size 1 with
   | true =>
    rw [h1] at h
    simp only [cond_true] at h
    have hs:=Nat.eq_of_beq_eq_true h1
    subst hs
    cases h2:v.oneCell'&&Nat.blt off cs.length with
    |false=>rw [h2] at h;cases h
    | true =>
     rw [h2] at h
     simp only [cond_true] at h
     simp only [Bool.and_eq_true] at h2
     have hlt:off<cs.length:=by
      have:=h2.2
      exact Nat.lt_of_succ_le (by simpa [Nat.blt] using this)
     rw [one_cells h2.1,putL_set hlt]
     have e:(Nat.beq [v].length 1&&Nat.ble (off+ [v].length) cs.length)=true:=by
      simp only [List.length_singleton,Bool.and_eq_true,Nat.ble_eq]
      exact ⟨rfl,hlt⟩
     rw [e]
     exact fillS_L h
   | false =>
    rw [h1] at h
    simp only [cond_false] at h
    cases h2:Nat.beq v.cells.toList.length size&&Nat.ble (off+v.cells.toList.length) cs.length with
    |false=>rw [h2] at h;cases h
    | true =>
     rw [h2] at h
     simp only [cond_true] at h⊢
     exact fillS_L h
section
variable {P:Program} {n:Nat} {L:List (Nat×Value)} {w0 w w':World} {M0 Fz:Nat→Prop} {H:List It} {Q:Exit→Act→World→Prop} {ops:Array Oper} {rest:List Oper} {ty:TypeId} {pos:String} {af:Array Edge} {d i:Nat}
theorem wl_builtS {t : TypeId} {ps : List (Nat × Operand)} {places : List (Nat × Nat)} {zl : List Value} {vs : List (Nat × Value)} {cells : List Value} (hd : d < n) (hB : bldB P t places (fun z => isCells z.toList zl) = true) (hv : evp L ps = some vs) (hf : fillS places zl vs = some cells)
  (h:WL P n ops Q rest ((d, .agg cells.toArray)::L) w):
  WL P n ops Q ({dst:=some d,op:= .build t ps.toArray,type:=ty,pos:=pos,after:=af,guard:=none}::rest) L w:=wl_built hd hB hv (fillS_L hf) h
theorem wl_hstore1 {t e g o : Nat} {cs : List Value} {x y : Operand} {v : Value} (hx : ev L x = some (.pointer (some ⟨g, o, none⟩))) (hy : ev L y = some v) (hp : HP w0 M0 Fz w H) (hi : H[i]? = some (itB g e cs)) (hs : szB P t 1 = true)
  (hl:o<cs.length) (h1:v.oneCell'=true)
  (h: ∀w',HP w0 M0 Fz w' (H.set i (itB g e (cs.set o v)))→Chg (fun b=> ¬Fz b) w w'→WL P n ops Q rest L w'):
  WL P n ops Q ({dst:=none,op:= .store t x y,type:=ty,pos:=pos,after:=af,guard:=none}::rest) L w:=by
 have e1:=one_cells h1
 have e2:v.cells.size=1:=by rw [←Array.length_toList,e1];rfl
 refine wl_hstore hx hy hp hi (by rw [e2];exact hs) (by rw [e2];exact hl) (by rw [e1];intro u hu;rw [List.mem_singleton.1 hu];exact h1) (fun w' hp' hC=>h w' ?_ hC)
 rwa [e1,putL_set hl] at hp'
theorem wl_hloadX (xs : List Value) {t e g k o : Nat} {cs : List Value} {x : Operand} (hd : d < n) (hs : agB P t k = true) (hx : ev L x = some (.pointer (some ⟨g, o, none⟩))) (hp : HP w0 M0 Fz w H) (hi : H[i]? = some (itB g e cs)) (hl : xs.length = k) (he : (cs.drop o).take k = xs)
  (h:WL P n ops Q rest ((d, .agg xs.toArray)::L) w):
  WL P n ops Q ({dst:=some d,op:= .load t x,type:=ty,pos:=pos,after:=af,guard:=none}::rest) L w:=by
 subst he
 exact wl_hloadA hd hs hx hp hi hl h
theorem HP.as_ {H':List It} (h:HP w0 M0 Fz w H) (e:H=H'):HP w0 M0 Fz w H':=e▸h
theorem HP.up {x:It} (h:HP w0 M0 Fz w H) (i:Nat) (hi:H[i]? =some x):HP w0 M0 Fz w (x::H.eraseIdx i):=by
 have hil:=(List.getElem?_eq_some_iff.1 hi).1
 have e:H=H.take i++([x]++H.drop (i+1)):=by
  rw [(List.getElem?_eq_some_iff.1 hi).2.symm,List.singleton_append,←List.drop_eq_getElem_cons hil,List.take_append_drop]
 have h2:=h
 rw [e] at h2
 have h3:=HP.comm (H.take i) [x] (H.drop (i+1)) h2
 rwa [List.singleton_append,←List.eraseIdx_eq_take_drop_succ] at h3
end
end Go.Eng
namespace Go.Eng
open Go.RowKit
section
variable {P:Program} {n:Nat} {L:List (Nat×Value)} {w w':World} {Q:Exit→Act→World→Prop} {ops:Array Oper} {rest:List Oper} {ty:TypeId} {pos:String} {af:Array Edge} {d:Nat}
def methB (P:Program) (t:TypeId) (name:String) (f:FuncId):Bool:=
 callable P f&&(match P.underlying t with|some (.pointer _)=>true|_=>false)&&(match P.info? t with
 |some i=>(match i.methods.find? (·.name==name) with|some m=>m.path.isEmpty&&(match m.func with|some (g,true)=>g==f|_=>false)|none=>false)
 |none=>false)
theorem methB_out {t:TypeId} {name:String} {f:FuncId} (h:methB P t name f=true):callable P f=true∧(∃e,P.underlying t=some (.pointer e))∧∃i m,P.info? t=some i∧i.methods.find? (·.name==name)=some m∧m.path.toList= []∧m.func=some (f,true):=by
 unfold methB at h
 simp only [Bool.and_eq_true] at h
 obtain ⟨⟨h1,h2⟩,h3⟩:=h
 refine ⟨h1, ?_, ?_⟩
 ·split at h2
  ·rename_i e he;exact ⟨e,he⟩
  ·cases h2
 ·split at h3
  ·rename_i i hi
   split at h3
   ·rename_i m hm
    simp only [Bool.and_eq_true] at h3
    obtain ⟨h4,h5⟩:=h3
    split at h5
    ·rename_i g hg
     simp only [beq_iff_eq] at h5
     subst h5
     exact ⟨i,m,hi,hm,by simpa [Array.isEmpty] using h4,hg⟩
    ·cases h5
   ·cases h3
  ·cases h3
theorem run_method {t:TypeId} {name:String} {f:FuncId} (h:methB P t name f=true) (v:Value) (k:Nat) (w:World):(Go.method (k+1) t v name).run P w= .ok (f,v) w:=by
 obtain ⟨_,⟨e,he⟩,i,m,hi,hm,hp,hf⟩:=methB_out h
 unfold Go.method
 simp [typeInfo,hi,hm,hp,hf,follow,receiverAt,run_underlying he,Place.get]
theorem run_callMethod {t:TypeId} {name:String} {f:FuncId} (h:methB P t name f=true) (v:Value) (args:Array Value) (w:World):(callMethod (.iface t v) name args).run P w= .ok (.enter f (#[v]++args)) w:=by
 have h1:=run_method h v (P.types.size+99) w
 unfold callMethod
 simp only [Sem.run_bind,run_program,Made.depth]
 have h2:(Go.method (P.types.size+100) t v name).run P w= .ok (f,v) w:=h1
 simp only [Result.andThen,h2]
 exact enter_of (methB_out h).1 _ w
theorem wl_invoke {t : TypeId} {name : String} {f : FuncId} {x : Operand} {v0 : Value} {xs : List Operand} {vs : List Value} {ts : Array TypeId} {R : Value → World → Prop} (hd : d < n) (hf : methB P t name f = true) (hx0 : ev L x = some (.iface t v0)) (hx : evs L xs = some vs)
  (hc:Ret P f (v0::vs).toArray w R) (h: ∀v w',R v w'→WL P n ops Q rest ((d,v)::L) w'):
  WL P n ops Q ({dst:=some d,op:= .call {callee:= .invoke x name,args:=xs.toArray,argTypes:=ts},type:=ty,pos:=pos,after:=af,guard:=none}::rest) L w:=by
 intro a ha
 refine wpList_plain rfl fun K hK=> ?_
 have hm:=evs_map ha hx
 unfold Oper.wp
 have hrun:(execOp a.eval {dst:=some d,op:= .call {callee:= .invoke x name,args:=xs.toArray,argTypes:=ts},type:=ty,pos:=pos,after:=af,guard:=none}).run P w= .ok (.enter f (v0::vs).toArray) w:=by
  simp [execOp,resolve,ha.eval hx0,invoke,hm,run_callMethod hf]
 rw [hrun]
 exact Calls.mono hc fun e w' ⟨v,he,hv⟩=>by subst he;exact hK _ _ (h v w' hv _ (ha.put hd v))
theorem wl_nilCheckM {t : TypeId} {name : String} {f : FuncId} {x : Operand} {v0 : Value} (hd : d < n) (hf : methB P t name f = true) (hx : ev L x = some (.func (.method name) [Value.iface t v0].toArray ([] : List Value).toArray))
  (h:WL P n ops Q rest ((d, .func (.method name) [Value.iface t v0].toArray ([]:List Value).toArray)::L) w):
  WL P n ops Q ({dst:=some d,op:= .nilCheck x,type:=ty,pos:=pos,after:=af,guard:=none}::rest) L w:=by
 obtain ⟨_,_,i,m,hi,hm,hp,hfm⟩:=methB_out hf
 have hn: ∀(k:Nat) (w:World),(nilAhead (k+1) t v0 name).run P w= .ok (some false) w:=by
  intro k w
  unfold nilAhead
  simp [typeInfo,hi,hm,hp,hfm,followBlind]
 refine wl_run hd (fun a ha=> ?_) h
 have h1:=hn (P.types.size+99) w
 have h2:(nilAhead (P.types.size+100) t v0 name).run P w= .ok (some false) w:=h1
 simp [execOp,ha.eval hx,Made.depth,h2]
theorem wl_nilCheckI {t : TypeId} {x : Operand} {v0 : Value} (hd : d < n) (hx : ev L x = some (.iface t v0)) (h : WL P n ops Q rest ((d, .iface t v0) :: L) w) :
  WL P n ops Q ({dst:=some d,op:= .nilCheck x,type:=ty,pos:=pos,after:=af,guard:=none}::rest) L w:=
 wl_run hd (fun a ha=>by simp [execOp,ha.eval hx]) h
def RetV (P:Program) (F:Value) (vs:List Value) (w:World) (R:Value→World→Prop):Prop:=
 ∃f full,(∀w',(do let d ←Deferred.ofValue F vs.toArray;invoke d.target d.args).run P w'= .ok (.enter f full) w')∧Ret P f full w R
theorem RetV.func {f:FuncId} {first cap vs:List Value} {R:Value→World→Prop} (hf:callable P f=true) (h:Ret P f (first++vs++cap).toArray w R):RetV P (.func (.func f) first.toArray cap.toArray) vs w R:=
 ⟨f,_,fun w'=>by simp [Deferred.ofValue,invoke,enter_of hf],h⟩
theorem RetV.meth {t:TypeId} {name:String} {f:FuncId} {v0:Value} {vs:List Value} {R:Value→World→Prop} (hf:methB P t name f=true) (h:Ret P f (v0::vs).toArray w R):RetV P (.func (.method name) [Value.iface t v0].toArray ([]:List Value).toArray) vs w R:=
 ⟨f,(v0::vs).toArray,fun w'=>by simp [Deferred.ofValue,invoke,run_callMethod hf],h⟩
theorem RetV.mono {F:Value} {vs:List Value} {R R':Value→World→Prop} (h:RetV P F vs w R) (hr: ∀v w',R v w'→R' v w'):RetV P F vs w R':=by
 obtain ⟨f,full,h1,h2⟩:=h
 exact ⟨f,full,h1,h2.mono hr⟩
theorem wl_callF {fo : Operand} {F : Value} {xs : List Operand} {vs : List Value} {ts : Array TypeId} {R : Value → World → Prop} (hd : d < n) (hfo : ev L fo = some F) (hx : evs L xs = some vs) (_hne : ∀ f, fo ≠ .func f)
  (hc:RetV P F vs w R) (h: ∀v w',R v w'→WL P n ops Q rest ((d,v)::L) w'):
  WL P n ops Q ({dst:=some d,op:= .call {callee:= .value fo,args:=xs.toArray,argTypes:=ts},type:=ty,pos:=pos,after:=af,guard:=none}::rest) L w:=by
 intro a ha
 obtain ⟨f,full,h1,h2⟩:=hc
 refine wpList_plain rfl fun K hK=> ?_
 have hm:=evs_map ha hx
 unfold Oper.wp
 have hrun:(execOp a.eval {dst:=some d,op:= .call {callee:= .value fo,args:=xs.toArray,argTypes:=ts},type:=ty,pos:=pos,after:=af,guard:=none}).run P w= .ok (.enter f full) w:=by
  have:=h1 w
  simp only [execOp,resolve,ha.eval hfo,List.map_toArray,hm]
  exact this
 rw [hrun]
 exact Calls.mono h2 fun e w' ⟨v,he,hv⟩=>by subst he;exact hK _ _ (h v w' hv _ (ha.put hd v))
end
section
variable {w0 w w':World} {M0 Fz Fz' F0:Nat→Prop} {H:List It}
theorem HP.frzBlk {g e:Nat} {cs:List Value} (h:HP w0 M0 Fz w (itB g e cs::H)): ∃Fz',HP w0 M0 Fz' w H∧(∀b,Fz b→Fz' b)∧AtF Fz' w ⟨g,0,none⟩ cs:=by
 have hb:=h.blkAt (i:=0) rfl
 obtain ⟨Ks,h1,h2,h3⟩:=h.ex
 have hk:=h1 0 _ rfl
 refine ⟨fun b=>Fz b∨b=g,⟨h.chg, ?_, ?_⟩,fun b hb=> .inl hb,hb.at0, .inr rfl,hb.lt⟩
 ·rintro b (hf | rfl)
  ·exact h.fz b hf
  ·exact hb.lt
 ·refine ⟨fun i => Ks (i + 1), fun i x hi => h1 (i + 1) x hi, fun i hi b hkb => ⟨(h2 (i + 1) (by simp; omega) b hkb).1, ?_⟩, fun i j hi hj hij b hkb => h3 (i + 1) (j + 1) (by simp; omega) (by simp; omega) (by omega) b hkb⟩
  rintro (hf|rfl)
  ·exact (h2 (i+1) (by simp;omega) b hkb).2 hf
  ·exact h3 (i+1) 0 (by simp;omega) (by simp) (by omega) _ hkb ((hk.2 _).2 rfl)
theorem HP.less (h:HP w0 M0 Fz' w H) (hs: ∀b,Fz b→Fz' b):HP w0 M0 Fz w H:=
 ⟨h.chg, fun b hb => h.fz b (hs b hb), by
  obtain ⟨Ks,h1,h2,h3⟩:=h.ex
  exact ⟨Ks,h1,fun i hi b hk=>⟨(h2 i hi b hk).1,fun hf=>(h2 i hi b hk).2 (hs b hf)⟩,h3⟩⟩
theorem Frz.trans {F1 F2:Nat→Prop} {w1 w2:World} (h:Frz F0 F1 w0 w1) (k:Frz F1 F2 w1 w2):Frz F0 F2 w0 w2:=(h.fz k.chg).wid k.sub
theorem AtF.frz {F1:Nat→Prop} {w1:World} {a:Addr} {cs:List Value} (h:AtF Fz w a cs) (k:Frz Fz F1 w w1):AtF F1 w1 a cs:=(h.fz k.chg).wid k.sub
theorem RF.frz {α:Type} {r:Rep α} {F1:Nat→Prop} {w1:World} {rows:List (List Value)} {l:List α} (h:RF r Fz w rows l) (k:Frz Fz F1 w w1):RF r F1 w1 rows l:=(h.fz k.chg).wid k.sub
end
end Go.Eng
namespace Go.Eng
open Go.RowKit
structure Slot (X:List Value→It) (p:Addr) (k:Nat):Prop where
 at_: ∀{w:World} {K:Nat→Prop} {cs:List Value},(X cs).R w K→cs.length=k→At w p cs
 put : ∀ {P : Program} {w : World} {K : Nat → Prop} {cs : List Value} {t : TypeId} {v : Value} {o : Nat}, (X cs).R w K → cs.length = k → szB P t v.cells.size = true → v.cells.size ≠ 0 → o + v.cells.size ≤ k → (∀ u ∈ v.cells.toList, u.oneCell' = true) →
  ∃w',(Instr.storeAt t (.pointer (some (p.add o))) v).run P w= .ok () w'∧Chg K w w'∧(X (putL cs o v.cells.toList)).R w' K
theorem putL_mid {pre cs post vs:List Value} {o:Nat} (h:o+vs.length≤cs.length):putL (pre++(cs++post)) (pre.length+o) vs=pre++(putL cs o vs++post):=by
 unfold putL
 rw [List.take_append, List.take_of_length_le (by omega), show pre.length + o - pre.length = o by omega, List.take_append_of_le_length (by omega), List.drop_append, List.drop_of_length_le (by omega), List.nil_append,
  show pre.length+o+vs.length-pre.length=o+vs.length by omega,List.drop_append_of_le_length (by omega)]
 simp [List.append_assoc]
theorem At.mid {w:World} {p:Addr} {pre cs post:List Value} (h:At w p (pre++(cs++post))):At w (p.add pre.length) cs:=by
 have h1:=(h.drop pre.length).take cs.length
 rwa [List.drop_left,List.take_left] at h1
theorem Slot.blk {g e k:Nat} (pre post:List Value):Slot (fun cs=>itB g e (pre++(cs++post))) ⟨g,pre.length,none⟩ k where
 at_:=fun {w K cs} h _=>by
  have:=(h.1.at0).mid
  rwa [add_lit',Nat.zero_add] at this
 put:=fun {P w K cs t v o} h hl hs h0 ho h1=>by
  obtain ⟨hb,hK⟩:=h
  have hsz:v.cells.toList.length=v.cells.size:=by simp
  have hst:=run_storeAt (P:=P) (t:=t) (g:=g) (o:=pre.length+o) (v:=v) hs hb (by simp only [List.size_toArray,List.length_append];omega) h1
  refine ⟨_,by rw [add_lit'];exact hst,(Chg.setRow w g _).weak (fun b _ e=>(hK b).2 e), ?_,hK⟩
  have:=hb.set (putL (pre++(cs++post)) (pre.length+o) v.cells.toList)
  rw [putL_mid (by omega)] at this⊢
  exact this
theorem Slot.row {e size n c g k:Nat} (pre post:List Value) (hk:0<k):Slot (fun cs=>itR e size (some ⟨g,0,none⟩) n c (pre++(cs++post))) ⟨g,pre.length,none⟩ k where
 at_:=fun {w K cs} h _=>by
  have:=(h.1.at0).mid
  rwa [add_lit',Nat.zero_add] at this
 put:=fun {P w K cs t v o} h hl hs h0 ho h1=>by
  obtain ⟨hR,hK⟩:=h
  have hsz:v.cells.toList.length=v.cells.size:=by simp
  obtain ⟨cur,hg,hcs,hO⟩:=hR.put rfl v.cells.toList (pre.length+o) (by simp only [List.length_append];omega) (by intro e;rw [e] at hsz;simp at hsz;omega)
  have hst:=run_storeAt (P:=P) (t:=t) (g:=g) (o:=pre.length+o) (v:=v) hs hg (by omega) h1
  have hc0:c≠0:=by
   intro hc
   have h2:=hR.len
   have h3:=hR.le
   rw [show n=0 by omega] at h2
   simp only [List.length_append,Nat.zero_mul] at h2
   omega
  refine ⟨_,by rw [add_lit'];exact hst,(Chg.setRow w g _).weak (fun b _ e=>(hK b).2 ⟨hc0,_,rfl,e.symm⟩), ?_,hK⟩
  rw [←putL_mid (by omega)]
  exact hO
theorem Slot.sub {X:List Value→It} {p:Addr} {k k':Nat} (h:Slot X p k) (pre post:List Value) (hk:pre.length+k'+post.length=k):Slot (fun cs=>X (pre++(cs++post))) (p.add pre.length) k' where
 at_:=fun {w K cs} hR hl=>(h.at_ hR (by simp only [List.length_append];omega)).mid
 put:=fun {P w K cs t v o} hR hl hs h0 ho h1=>by
  have hsz:v.cells.toList.length=v.cells.size:=by simp
  obtain ⟨w',a1,a2,a3⟩:=h.put (P:=P) (t:=t) (v:=v) (o:=pre.length+o) hR (by simp only [List.length_append];omega) hs h0 (by omega) h1
  rw [putL_mid (by omega)] at a3
  exact ⟨w',by rw [add_add'];exact a1,a2,a3⟩
section
variable {P:Program} {n:Nat} {L:List (Nat×Value)} {w0 w w':World} {M0 Fz:Nat→Prop} {H:List It} {Q:Exit→Act→World→Prop} {ops:Array Oper} {rest:List Oper} {ty:TypeId} {pos:String} {af:Array Edge} {d i:Nat} {X:List Value→It} {p:Addr} {k:Nat} {cs:List Value}
theorem HP.slotAt (h:HP w0 M0 Fz w H) (hS:Slot X p k) (hi:H[i]? =some (X cs)) (hl:cs.length=k):At w p cs:=by
 obtain ⟨Ks,h1,_⟩:=h.ex
 exact hS.at_ (h1 i _ hi) hl
theorem wl_sstore {t : TypeId} {x y : Operand} {v : Value} {o : Nat} (hS : Slot X p k) (hx : ev L x = some (.pointer (some (p.add o)))) (hy : ev L y = some v) (hp : HP w0 M0 Fz w H) (hi : H[i]? = some (X cs)) (hl : cs.length = k) (hs : szB P t v.cells.size = true) (h0 : v.cells.size ≠ 0)
  (ho:o+v.cells.size≤k) (h1: ∀u∈v.cells.toList,u.oneCell'=true)
  (h: ∀w',HP w0 M0 Fz w' (H.set i (X (putL cs o v.cells.toList)))→Chg (fun b=> ¬Fz b) w w'→WL P n ops Q rest L w'):
  WL P n ops Q ({dst:=none,op:= .store t x y,type:=ty,pos:=pos,after:=af,guard:=none}::rest) L w:=by
 obtain ⟨K,hK,hKF,hup⟩:=hp.focus hi
 obtain ⟨w',hrun,hC,hX⟩:=hS.put (P:=P) (t:=t) hK hl hs h0 ho h1
 have h2:=hup w' _ K hC hX (fun b hb=> .inl hb)
 exact wl_eff (fun a ha=>by simp [execOp,ha.eval hx,ha.eval hy,hrun]) (h w' h2.1 h2.2)
theorem wl_sstore1 {t : TypeId} {x y : Operand} {v : Value} (o : Nat) (hS : Slot X p k) (hx : ev L x = some (.pointer (some (p.add o)))) (hy : ev L y = some v) (hp : HP w0 M0 Fz w H) (hi : H[i]? = some (X cs)) (hl : cs.length = k) (hs : szB P t 1 = true)
  (ho:o<k) (h1:v.oneCell'=true)
  (h: ∀w',HP w0 M0 Fz w' (H.set i (X (cs.set o v)))→Chg (fun b=> ¬Fz b) w w'→WL P n ops Q rest L w'):
  WL P n ops Q ({dst:=none,op:= .store t x y,type:=ty,pos:=pos,after:=af,guard:=none}::rest) L w:=by
 have e1:=one_cells h1
 have e2:v.cells.size=1:=by rw [←Array.length_toList,e1];rfl
 refine wl_sstore hS hx hy hp hi hl (by rw [e2];exact hs) (by omega) (by omega) (by rw [e1];simpa using h1) (fun w' a b=>h w' ?_ b)
 rw [e1,putL_set (by omega)] at a
 exact a
end
def rst (bad:Bool) (l:List UInt8):Option (List UInt8):=if bad then none else some l
theorem step_num {bad bad':Bool} {l l':List UInt8} {x:Int} (hb:bad'=(bad||decide ((takeS l).2.2≠0))) (hl:bad'=false→l'=(takeS l).2.1∧x=(takeS l).1):StepP numP (rst bad l) (rst bad' l') x:=by
 cases bad with
 |true=>rw [Bool.true_or] at hb;subst hb;rfl
 | false =>
  rw [Bool.false_or] at hb
  by_cases he:(takeS l).2.2=0
  ·have : bad' = false := by rw [hb]; simp [he]
   obtain ⟨rfl,rfl⟩:=hl this
   subst this
   show numP l=some _
   unfold numP
   rw [if_pos he]
  ·have : bad' = true := by rw [hb]; simp [he]
   subst this
   show numP l=none
   unfold numP
   rw [if_neg he]
theorem step_str {bad bad':Bool} {l l' x:List UInt8} {most:Int} (hb:bad'=(bad||decide ((takeStrS l most).2.2≠0))) (hl:bad'=false→l'=(takeStrS l most).2.1∧x=(takeStrS l most).1):StepP (strP most) (rst bad l) (rst bad' l') x:=by
 cases bad with
 |true=>rw [Bool.true_or] at hb;subst hb;rfl
 | false =>
  rw [Bool.false_or] at hb
  by_cases he:(takeStrS l most).2.2=0
  ·have : bad' = false := by rw [hb]; simp [he]
   obtain ⟨rfl,rfl⟩:=hl this
   subst this
   show strP most l=some _
   unfold strP
   rw [if_pos he]
  ·have : bad' = true := by rw [hb]; simp [he]
   subst this
   show strP most l=none
   unfold strP
   rw [if_neg he]
theorem step_dig {bad bad':Bool} {l l':List UInt8} {x:Dig} (hb:bad'=(bad||decide ((fixS l 32).2.2≠0))) (hl:bad'=false→l'=(fixS l 32).2.1∧x.l=(fixS l 32).1):StepP digP (rst bad l) (rst bad' l') x:=by
 cases bad with
 |true=>rw [Bool.true_or] at hb;subst hb;rfl
 | false =>
  rw [Bool.false_or] at hb
  by_cases he:32≤l.length
  ·have e : fixS l 32 = (l.take 32, l.drop 32, 0) := by unfold fixS; rw [if_neg (by omega), if_neg (by omega)]; rfl
   have:bad'=false:=by rw [hb,e];simp
   obtain ⟨h1,h2⟩:=hl this
   subst this
   rw [e] at h1 h2
   simp only at h1 h2
   subst h1
   show digP l=some _
   unfold digP
   rw [dif_pos he]
   obtain ⟨xl,hx⟩:=x
   simp only at h2
   subst h2
   rfl
  ·have e : fixS l 32 = ([], [], 3) := by unfold fixS; rw [if_neg (by omega), if_pos (by omega)]
   have:bad'=true:=by rw [hb,e];simp
   subst this
   show digP l=none
   unfold digP
   rw [dif_neg he]
theorem step_many {bad b1:Bool} {l l1:List UInt8} {x most:Int} (h:StepP numP (rst bad l) (rst b1 l1) x):StepP (manyP most) (rst bad l) (rst (b1||decide (most<x)) l1) (if (b1||decide (most<x))=true then 0 else x):=by
 unfold manyP
 refine StepP.bind h ?_
 cases b1 with
 |true=>rfl
 | false =>
  rw [Bool.false_or]
  by_cases hm:most<x
  ·rw [if_pos hm,decide_eq_true hm];rfl
  ·rw [if_neg hm,decide_eq_false hm];rfl
end Go.Eng
namespace Go.Eng
open Go.RowKit
section
variable {P:Program} {n:Nat} {L:List (Nat×Value)} {w0 w w':World} {M0 Fz:Nat→Prop} {H:List It} {Q:Exit→Act→World→Prop} {ops:Array Oper} {rest:List Oper} {ty:TypeId} {pos:String} {af:Array Edge} {d i:Nat}
theorem wl_happendB {t te c c2 : Nat} {S : Nat → Prop} {A B : Option Addr} {l l2 : List UInt8} {s x : Operand} (hd : d < n) (hT : slB P t te 1 1 = true) (hs : ev L s = some (.slice A l.length c)) (hx : ev L x = some (.slice B l2.length c2))
  (hp:HP w0 M0 Fz w H) (hi:H[i]? =some (itR te 1 A l.length c (l.map bv))) (g:BS S w B c2 l2) (hb:l.length+l2.length≤140737488355328)
  (h: ∀A' c' w',HP w0 M0 Fz w' (H.set i (itR te 1 A' (l++l2).length c' ((l++l2).map bv)))→Chg (fun b=> ¬Fz b) w w'→WL P n ops Q rest ((d, .slice A' (l++l2).length c')::L) w'):
  WL P n ops Q ({dst:=some d,op:= .call {callee:= .builtin .append,args:= #[s,x],argTypes:= #[t,t]},type:=ty,pos:=pos,after:=af,guard:=none}::rest) L w:=by
 have hc:=GS.cells1 (he:=fun _=>rfl) g
 refine wl_happend hd hT hs hx hp hi (news:=l2.map bv) (by simp) (fun b hb=>hc.1 b hb) (fun hB=>by rw [hc.2 hB];rfl) (fun u hu=>by obtain ⟨b,_,rfl⟩:=List.mem_map.1 hu;rfl) (by omega) (fun A' c' w' h1 h2=> ?_)
 rw [List.length_append,List.map_append] at h
 exact h A' c' w' h1 h2
def unr (P : Program) (c : Code) (Q : Exit → Act → World → Prop) : Nat → Act → World → Prop
 |0=>fun _ _=>False
 |m+1=>c.wp P (Exit.then (unr P c Q m) Q)
theorem wc_unfold {c:Code} {m:Nat} (h:WK n (c.wp P (Exit.then (unr P c Q m) Q)) L w):WK n (unr P c Q (m+1)) L w:=h
theorem wc_unroll {c:Code} (m:Nat) (h:WK n (unr P c Q m) L w):WK n ((Code.loop c).wp P Q) L w:=by
 intro a ha b k cs
 have key: ∀m a' w',unr P c Q m a' w'→∃e a₂ w₂,Q e a₂ w₂∧Arrives P (lone (b.at a' (.code c:: .inLoop c::k)) cs w') b k cs e a₂ w₂:=by
  intro m
  induction m with
  |zero=>intro a' w' h;exact h.elim
  | succ m ih =>
   intro a' w' hU
   obtain ⟨e,a₁,w₁,hq,harr⟩:=hU b (.inLoop c::k) cs
   cases e with
   | normal =>
    obtain ⟨e₂,a₂,w₂,hq₂,harr₂⟩:=ih a₁ w₁ hq
    exact ⟨e₂,a₂,w₂,hq₂, .of_steps (Steps.trans harr (.one step_inLoop)) harr₂⟩
   |exit id=>exact ⟨_,a₁,w₁,hq, .pass (x:= .inLoop c) rfl (fun _ _=> .inl (by simp)) harr⟩
   |goto l=>exact ⟨_,a₁,w₁,hq, .pass (x:= .inLoop c) rfl (fun _ _=> .inl (by simp)) harr⟩
   |ret=>exact ⟨_,a₁,w₁,hq, .pass (x:= .inLoop c) rfl (fun _ _=> .inl (by simp)) harr⟩
   |panic ch=>exact ⟨_,a₁,w₁,hq, .pass (x:= .inLoop c) rfl (fun _ _=> .inl (by simp)) harr⟩
   |outgrown=>exact ⟨_,a₁,w₁,hq, .pass (x:= .inLoop c) rfl (fun _ _=> .inl (by simp)) harr⟩
 obtain ⟨e,a',w',hq,harr⟩:=key m a w (h a ha)
 exact ⟨e,a',w',hq, .of_steps (.one step_loop) harr⟩
end
def i64R:Rep Int where
 size:=1
 rd:=fun _ _ cs x=>i64 x∧cs= [.int .i64 x]
 len:=by rintro _ _ _ _ ⟨_,rfl⟩;rfl
 one:=by rintro _ _ _ _ ⟨_,rfl⟩;exact List.all_eq_true.1 rfl
 keep:=by rintro _ _ _ _ _ _ _ _ h;exact h
 mono:=by rintro _ _ _ _ _ _ h;exact h
section
variable (te tw tr gw:Nat) (w0:World) (M0 Fz:Nat→Prop) (w:World) (H:List It)
def WrP (out:List UInt8) (_v:Value) (w2:World):Prop:= ∃A' c',HP w0 M0 Fz w2 (itB gw tw [.slice A' out.length c']::itR te 1 A' out.length c' (out.map bv)::H)∧Frz Fz Fz w w2
def RdP {α:Type} (X:List Value→It) (r:Rep α) (p:PR α) (bad:Bool) (l:List UInt8) (_v:Value) (w2:World):Prop:=
 ∃F2 A' c' l' bad' cs x,HP w0 M0 F2 w2 (itB gw tr [.slice A' (l':List UInt8).length c', .bool bad']::X cs::H)∧Frz Fz F2 w w2∧GS byteR F2 w2 A' c' l'∧r.rd F2 w2 cs x∧StepP p (rst bad l) (rst bad' l') x
end
section
variable (P:Program) {α:Type}
def EachW (te tw gw:Nat) (w0:World) (M0 Fz:Nat→Prop) (w:World) (r:Rep α) (E:α→List UInt8) (ok:α→Prop) (F:Value):Prop:=
 ∀ (w1 : World) (H1 : List It) (A : Option Addr) (c : Nat) (out : List UInt8) (pa : Addr) (cs : List Value) (x : α), Frz Fz Fz w w1 → HP w0 M0 Fz w1 (itB gw tw [.slice A out.length c] :: itR te 1 A out.length c (out.map bv) :: H1) → AtF Fz w1 pa cs → r.rd Fz w1 cs x → ok x → out.length + (E x).length ≤ 1000000 →
  RetV P F [.pointer (some pa)] w1 (WrP te tw gw w0 M0 Fz w1 H1 (out++E x))
def EachR (tr gr:Nat) (w0:World) (M0 Fz:Nat→Prop) (w:World) (r:Rep α) (zero:List Value) (p:PR α) (F:Value):Prop:=
 ∀ (w1 : World) (F1 : Nat → Prop) (H1 : List It) (X : List Value → It) (pa : Addr) (A : Option Addr) (c : Nat) (l : List UInt8) (bad : Bool), Frz Fz F1 w w1 → HP w0 M0 F1 w1 (itB gr tr [.slice A l.length c, .bool bad] :: X zero :: H1) → Slot X pa r.size → GS byteR F1 w1 A c l →
  RetV P F [.pointer (some pa)] w1 (RdP tr gr w0 M0 F1 w1 H1 X r p bad l)
end
end Go.Eng
namespace Go.Eng
open Go.RowKit
theorem OwnRow.gsRF {α:Type} {r:Rep α} {Fz:Nat→Prop} {w:World} {e lo c:Nat} {A:Option Addr} {rows:List (List Value)} {l:List α} (h:OwnRow e r.size lo w A l.length c rows.flatten) (hR:RF r Fz w rows l) (hf: ∀b,c≠0→blk A b→Fz b):GS r Fz w A c l:=by
 by_cases hc:c=0
 ·have hl : l = [] := List.eq_nil_of_length_eq_zero (by have := h.le; omega)
  subst hl
  exact GS.nil _ _ _ _ _
 ·rcases h.row with h0 | ⟨g, cur, hA, _, hg, _⟩
  ·exact absurd h0.1 hc
  ·have hlt := (Array.getElem?_eq_some_iff.1 hg).1
   have hat:=h.at_ hA
   rw [hA]
   exact GS.of_rows rows hat hlt (hf g hc ⟨_,hA,rfl⟩) h.le h.mx hR.2
theorem RF.flen {α:Type} {r:Rep α} {Fz:Nat→Prop} {w:World} {rows:List (List Value)} {l:List α} (h:RF r Fz w rows l):rows.flatten.length=l.length*r.size:=by
 rw [flat_len rows r.size h.lens,h.1]
theorem flat_snoc (rows:List (List Value)) (cs:List Value):(rows++ [cs]).flatten=rows.flatten++(cs++ []):=by simp
theorem StepP.snoc {α:Type} {p:PR α} {k:Nat} {s s1 s2:Option (List UInt8)} {xs:List α} {x:α} (h:StepP (repP p k) s s1 xs) (h1:StepP p s1 s2 x):StepP (repP p (k+1)) s s2 (xs++ [x]):=StepP.bind h (StepP.bind h1 (StepP.pure _ _))
def SP.clo (lo e f : Nat) (cs : List Value) : SP := ⟨fun v w => ∃ g, v = .func (.func f) ([] : List Value).toArray [Value.pointer (some ⟨g, 0, none⟩)].toArray ∧ lo ≤ g ∧ w.heap[g]? = some (.cells cs.toArray e (0, 0)), by
 rintro _ w w' ch ⟨g,rfl,h1,h2⟩
 exact ⟨g,rfl,h1,(ch.block g (Array.getElem?_eq_some_iff.1 h2).1 (fun x=>x)).trans h2⟩⟩
end Go.Eng
namespace Go.Eng
theorem GS.rep {α:Type} {r r':Rep α} {S:Nat→Prop} {w:World} {A:Option Addr} {c:Nat} {l:List α} (h:GS r S w A c l) (hs:r.size=r'.size) (hr: ∀S w cs x,r.rd S w cs x→r'.rd S w cs x):GS r' S w A c l:=
 ⟨h.le,h.mx,fun i hi=>by
  obtain ⟨a,cs,h1,h2,h3,h4,h5⟩:=h.rd i hi
  exact ⟨a,cs,h1,h2,h3,by rw [←hs];exact h4,hr _ _ _ _ h5⟩⟩
theorem GS.ints {S:Nat→Prop} {w:World} {A:Option Addr} {c:Nat} {l:List Int} (h:GS i64R S w A c l):GS intR S w A c l:=h.rep rfl (fun _ _ _ _ hr=>hr.2)
end Go.Eng
namespace Go.Eng
section
variable (tr gr:Nat) (w0:World) (M0 Fz:Nat→Prop) (w:World) (H:List It) {α:Type}
def RvB (r:Rep α) (agg:Bool) (p:PR α) (bad:Bool) (l:List UInt8) (v:Value) (w2:World):Prop:=
 ∃F2 A' c' l' bad' cs x,v=(if agg then .agg cs.toArray else cs.headD undef)∧HP w0 M0 F2 w2 (itB gr tr [.slice A' (l':List UInt8).length c', .bool bad']::H)∧Frz Fz F2 w w2∧GS byteR F2 w2 A' c' l'∧r.rd F2 w2 cs x∧StepP p (rst bad l) (rst bad' l') x
def RvE (r:Rep α) (agg:Bool) (p:PR α) (e:Int) (l:List UInt8) (v:Value) (w2:World):Prop:=
 ∃F2 A' c' l' e' cs x,v=(if agg then .agg cs.toArray else cs.headD undef)∧HP w0 M0 F2 w2 (itB gr tr [.slice A' (l':List UInt8).length c', .int .i64 e']::H)∧Frz Fz F2 w w2∧GS byteR F2 w2 A' c' l'∧r.rd F2 w2 cs x∧StepP p (rst (decide (e≠0)) l) (rst (decide (e'≠0)) l') x
end
end Go.Eng
namespace Go.Eng
theorem many_fin2 {bad b1 bad':Bool} {l l1:List UInt8} {x1 x' most:Int} (h:StepP numP (rst bad l) (rst b1 l1) x1) (hb:bad'=(b1||decide (most<x1))) (hx:bad'=false→x'=x1):StepP (manyP most) (rst bad l) (rst bad' l1) x':=by
 have h1:=step_many (most:=most) h
 rw [←hb] at h1
 cases bad' with
 |true=>exact h1
 |false=>rw [hx rfl];exact h1
theorem end_E {e:Int} {l:List UInt8} {e':Int} (h:e'=if e=0∧0<l.length then 4 else e):(e'=0↔rst (decide (e≠0)) l=some []):=by
 subst h
 by_cases he:e=0
 ·subst he
  cases l with
  |nil=>simp [rst]
  |cons x t=>simp [rst]
 ·simp [rst,he]
end Go.Eng
namespace Go.Eng
section
variable {tr gr:Nat} {w0:World} {M0 Fz:Nat→Prop} {w w1 w2 w3:World} {H:List It} {α:Type} {r:Rep α} {agg:Bool} {p:PR α} {l:List UInt8} {v:Value}
theorem RvE.from {e:Int} (h:RvE tr gr w0 M0 Fz w1 H r agg p e l v w2) (hE:Ext w w1):RvE tr gr w0 M0 Fz w H r agg p e l v w2:=by
 obtain ⟨F2,A',c',l',e',cs,x,h1,h2,h3,h4⟩:=h
 exact ⟨F2,A',c',l',e',cs,x,h1,h2,((Frz.start Fz w).ext hE).trans h3,h4⟩
theorem RvE.ext {e:Int} (h:RvE tr gr w0 M0 Fz w H r agg p e l v w2) (hE:Ext w2 w3):RvE tr gr w0 M0 Fz w H r agg p e l v w3:=by
 obtain ⟨F2,A',c',l',e',cs,x,h1,h2,h3,h4,h5,h6⟩:=h
 exact ⟨F2,A',c',l',e',cs,x,h1,h2.ext hE,h3.ext hE,h4.ext hE,r.keep hE (fun _ _ _ x=>x) h5,h6⟩
theorem RvB.from {e:Bool} (h:RvB tr gr w0 M0 Fz w1 H r agg p e l v w2) (hE:Ext w w1):RvB tr gr w0 M0 Fz w H r agg p e l v w2:=by
 obtain ⟨F2,A',c',l',e',cs,x,h1,h2,h3,h4⟩:=h
 exact ⟨F2,A',c',l',e',cs,x,h1,h2,((Frz.start Fz w).ext hE).trans h3,h4⟩
theorem RvB.ext {e:Bool} (h:RvB tr gr w0 M0 Fz w H r agg p e l v w2) (hE:Ext w2 w3):RvB tr gr w0 M0 Fz w H r agg p e l v w3:=by
 obtain ⟨F2,A',c',l',e',cs,x,h1,h2,h3,h4,h5,h6⟩:=h
 exact ⟨F2,A',c',l',e',cs,x,h1,h2.ext hE,h3.ext hE,h4.ext hE,r.keep hE (fun _ _ _ x=>x) h5,h6⟩
def OneOf (v u:Value) (w:World):Prop:= ∃gt,u= .slice (some ⟨gt,0,none⟩) 1 1∧At w ⟨gt,0,none⟩ v.cells.toList
theorem OneOf.ext {u:Value} (h:OneOf v u w) (hE:Ext w w1):OneOf v u w1:=by
 obtain ⟨gt,h1,h2⟩:=h
 exact ⟨gt,h1,h2.keep hE (fun _ x=>x)⟩
end
end Go.Eng
namespace Go.Eng
open Go.RowKit
section
variable {P:Program} {n:Nat} {L:List (Nat×Value)} {w w':World} {Q:Exit→Act→World→Prop} {ops:Array Oper} {rest:List Oper} {ty:TypeId} {pos:String} {af:Array Edge} {d:Nat}
theorem wl_oneOf {t e size bytes : Nat} {x : Operand} {v : Value} {ps : Array (Nat × Operand)} (hd : d < n) (hT : slB P t e size bytes = true) (hp : ps = #[(0, x)]) (hx : ev L x = some v) (hs : v.cells.size = size) (hm : size ≤ 16777216)
  (h: ∀u w',OneOf v u w'→Ext w w'→WL P n ops Q rest ((d,u)::L) w'):
  WL P n ops Q ({dst:=some d,op:= .buildSlice t 1 ps,type:=ty,pos:=pos,after:=af,guard:=none}::rest) L w:=by
 refine wl_bslice (xs:= [x]) (vs:= [v]) hd hT (by rw [hp];rfl) (by simp [evs,hx]) rfl (by intro y hy;rw [List.mem_singleton.1 hy];exact hs) (by simpa using hm) 0 (Nat.zero_le _) (fun g w' hg ho hE=> ?_)
 have:=ho.at0
 exact h _ _ ⟨g,rfl,by simpa using this⟩ hE
end
end Go.Eng
namespace Go.Eng
section
variable {α:Type} {p:PR α} {k n:Nat} {s:Option (List UInt8)} {bad:Bool} {l:List UInt8} {xs:List α}
theorem StepP.anyx {β:Type} {q:PR β} {x y:β} (h:StepP q s none x):StepP q s none y:=h
theorem rep_none (h : StepP (repP p k) s none xs) : ∀ d, StepP (repP p (k + d)) s none xs
 |0=>h
 | d + 1 => by
  have:=rep_none h d
  exact (StepP.bind this (StepP.bad (bindP p fun x=>pureP (xs++ [x])) xs)).anyx
theorem rep_end (h:StepP (repP p k) s (rst bad l) xs) (hk:k≤n) (hh:bad=true∨k=n):StepP (repP p n) s (rst bad l) xs:=by
 rcases hh with rfl|rfl
 ·have := rep_none (p := p) (k := k) h (n - k)
  rwa [show k+(n-k)=n by omega] at this
 ·exact h
theorem rep_fail (h:StepP (repP p k) s (rst bad l) xs) {x:α} (hx:StepP p (rst bad l) none x) (hk:k<n):StepP (repP p n) s none xs:=by
 have h1:StepP (repP p (k+1)) s none xs:=StepP.bind (q:=fun xs=>bindP p fun x=>pureP (xs++ [x])) h (StepP.bind (q:=fun x=>pureP (xs++ [x])) hx (StepP.bad (pureP (xs++ [x])) xs))
 have:=rep_none (p:=p) (k:=k+1) h1 (n-(k+1))
 rwa [show k+1+(n-(k+1))=n by omega] at this
end
end Go.Eng
namespace Go.Eng
open Go.RowKit
section
variable {P:Program} {n:Nat} {L:List (Nat×Value)} {w w':World} {Q:Exit→Act→World→Prop} {ops:Array Oper} {rest:List Oper} {ty:TypeId} {pos:String} {af:Array Edge} {d:Nat}
theorem wl_indexV {t e m : Nat} {x ix : Operand} {cs : Array Value} {k : IntKind} {i : Int} {v : Value} (hd : d < n) (hT : arB P t m e 1 = true) (hs : scB P e = true) (hx : ev L x = some (.agg cs)) (hi : ev L ix = some (.int k i)) (j : Nat) (hj : i = (j : Int)) (hlt : j < m) (hv : cs[j]? = some v)
  (h:WL P n ops Q rest ((d,v)::L) w):
  WL P n ops Q ({dst:=some d,op:= .index t x ix,type:=ty,pos:=pos,after:=af,guard:=none}::rest) L w:=by
 obtain ⟨h1,ie,h2,h3⟩:=arB_out hT
 subst hj
 refine wl_run hd (fun a ha=> ?_) h
 have hlt':(j:Int)<(m:Int):=by omega
 simp [execOp,Instr.index,ha.eval hx,ha.eval hi,asIntOf,run_underlying h1,sizeOf,typeInfo,h2,h3,part,run_notAgg hs,hv]
 omega
end
end Go.Eng
namespace Go.Eng
open Go.RowKit
theorem setRow_same {w:World} {g:Nat} {cur:Array Value} {t:TypeId} {fr:Nat×Nat} (hg:w.heap[g]? =some (.cells cur t fr)):w.setRow g cur=w:=by
 have h:(w.setRow g cur).heap=w.heap:=by
  apply Array.ext_getElem?
  intro i
  by_cases hi:i=g
  ·subst hi
   rw [setRow_heap w i _ _ _ _ hg,hg]
  ·exact setRow_other w g i cur hi
 show {w with heap:=(w.setRow g cur).heap}=w
 rw [h]
section
variable {P:Program} {n:Nat} {L:List (Nat×Value)} {w0 w:World} {M0 Fz:Nat→Prop} {H:List It} {Q:Exit→Act→World→Prop} {ops:Array Oper} {rest:List Oper} {ty:TypeId} {pos:String} {af:Array Edge}
theorem wl_sameB {t e g o : Nat} {cs : List Value} {x y : Operand} {v : Value} (hx : ev L x = some (.pointer (some ⟨g, o, none⟩))) (hy : ev L y = some v) (hb : Blk w g e cs) (hs : szB P t v.cells.size = true)
  (hl:o+v.cells.size≤cs.length) (h1: ∀u∈v.cells.toList,u.oneCell'=true) (he:putL cs o v.cells.toList=cs) (h:WL P n ops Q rest L w):
  WL P n ops Q ({dst:=none,op:= .store t x y,type:=ty,pos:=pos,after:=af,guard:=none}::rest) L w:=by
 have hr:=run_storeAt (P:=P) (w:=w) (t:=t) (v:=v) hs hb (by simpa using hl) h1
 rw [show (putL cs.toArray.toList o v.cells.toList).toArray=cs.toArray by rw [List.toList_toArray,he],setRow_same hb] at hr
 exact wl_eff (fun a ha=>by simp only [execOp,ha.eval hx,ha.eval hy,Sem.run_bind,hr,Result.andThen_ok,Sem.run_pure]) h
theorem wl_hsame {t e g i k : Nat} {cs : List Value} {x y : Operand} (hx : ev L x = some (.pointer (some ⟨g, 0, none⟩))) (hy : ev L y = some (.agg cs.toArray)) (hp : HP w0 M0 Fz w H) (hi : H[i]? = some (itB g e cs)) (hs : szB P t k = true) (hk : cs.length = k)
  (h1: ∀u∈cs,u.oneCell'=true) (h:WL P n ops Q rest L w):
  WL P n ops Q ({dst:=none,op:= .store t x y,type:=ty,pos:=pos,after:=af,guard:=none}::rest) L w:=by
 have hc:(Value.agg cs.toArray).cells=cs.toArray:=rfl
 refine wl_sameB hx hy (hp.blkAt hi) (by rw [hc,List.size_toArray,hk];exact hs) (by rw [hc,List.size_toArray];omega) (by rw [hc,List.toList_toArray];exact h1) (by rw [hc,List.toList_toArray,putL];simp) h
end
theorem AtF.mid {S:Nat→Prop} {w:World} {a:Addr} {pre cs post:List Value} (h:AtF S w a (pre++(cs++post))):AtF S w (a.add pre.length) cs:=
 ⟨h.at_.mid,by rw [block_add];exact h.inS,by rw [block_add];exact h.lt⟩
structure MutF (S:Nat→Prop) (w:World) (g:Nat):Prop where
 ex: ∃cur e,w.heap[g]? =some (.cells cur e (0,0))
 inS:S g
 lt:g<w.heap.size
section
variable {S S':Nat→Prop} {w w':World} {g:Nat}
theorem MutF.ext (h:MutF S w g) (ch:Ext w w'):MutF S w' g:=⟨by obtain ⟨c,e,k⟩:=h.ex;exact ⟨c,e,(ch.block g h.lt (fun x=>x)).trans k⟩,h.inS,Nat.lt_of_lt_of_le h.lt ch.size⟩
theorem MutF.fz (h:MutF S w g) (ch:Chg (fun b=> ¬S b) w w'):MutF S w' g:=⟨by obtain ⟨c,e,k⟩:=h.ex;exact ⟨c,e,(ch.block g h.lt (fun x=>x h.inS)).trans k⟩,h.inS,Nat.lt_of_lt_of_le h.lt ch.size⟩
theorem MutF.wid (h:MutF S w g) (hs: ∀b,S b→S' b):MutF S' w g:=⟨h.ex,hs _ h.inS,h.lt⟩
theorem MutF.of {e:Nat} {a:Addr} {cs cs2:List Value} (hb:Blk w g e cs2) (h:AtF S w a cs) (he:a.block=g):MutF S w g:=⟨⟨_,_,hb⟩,he▸h.inS,he▸h.lt⟩
end
end Go.Eng
namespace Go.Eng
open Go.RowKit
theorem go {G R:Prop} (r:R) (s:R→G:=by
  intro r
  repeat (first
   |((with_reducible refine wl_move (v:= ?_) ?_ ?_ ?_);rotate_left;decide;rfl)
   |((with_reducible refine wl_assign (v:= ?_) ?_ ?_ ?_);rotate_left;decide;rfl)
   |with_reducible refine wl_nil ?_
   |with_reducible refine wk_norm ?_
   |with_reducible refine wc_seq ?_
   |with_reducible refine wc_region ?_
   |((with_reducible refine wl_gno (dj:= ?_) (u:= ?_) ?_ ?_ ?_ ?_ ?_);rotate_left 2;decide;rfl;rfl;first|exact .inl rfl|exact .inr rfl)
   |((with_reducible refine wl_gyes (dj:= ?_) ?_ ?_ ?_);rotate_left;rfl;rfl)
   |((with_reducible refine wl_pick (b:= ?_) (v:= ?_) ?_ ?_ ?_ ?_);rotate_left 2;decide;rfl;rfl)
   |((with_reducible refine wl_extract (vs:= ?_) (v:= ?_) ?_ ?_ ?_ ?_);rotate_left 2;decide;rfl;rfl)
   |with_reducible refine wk_then_exit ?_
   |with_reducible refine wk_blk_exit ?_
   |((with_reducible refine wk_blk_exit_ne ?_ ?_);decide)
   |with_reducible refine wk_then_ret ?_
   |with_reducible refine wk_blk_ret ?_
   |with_reducible refine wk_blk_norm ?_
   |with_reducible refine wc_skip ?_
   |with_reducible refine wc_ret ?_
   |with_reducible refine wc_exit ?_
   |with_reducible refine wc_block ?_
   |((with_reducible refine wl_nilCheck (p:= ?_) ?_ ?_ ?_);rotate_left;decide;rfl)
   |((with_reducible show WL _ _ _ _ _ _ _);first|refine wl_move (by decide) rfl ?_|refine wl_assign (by decide) rfl ?_|refine wl_nil ?_|refine wl_gno (by decide) rfl rfl (.inl rfl) ?_|refine wl_gno (by decide) rfl rfl (.inr rfl) ?_|refine wl_gyes rfl rfl ?_|refine wl_pick (by decide) rfl rfl ?_|refine wl_extract (by decide) rfl rfl ?_|refine wl_nilCheck (by decide) rfl ?_)
   |refine wc_seq ?_|refine wc_region ?_)
  exact r):G:=s r
theorem gl {G R:Prop} (r:R) (s:R→G:=by
  intro r
  repeat (first
   |((with_reducible refine wl_move (v:= ?_) ?_ ?_ ?_);rotate_left;decide;rfl)
   |((with_reducible refine wl_assign (v:= ?_) ?_ ?_ ?_);rotate_left;decide;rfl)
   |with_reducible refine wl_nil ?_
   |with_reducible refine wk_norm ?_
   |((with_reducible refine wl_gno (dj:= ?_) (u:= ?_) ?_ ?_ ?_ ?_ ?_);rotate_left 2;decide;rfl;rfl;first|exact .inl rfl|exact .inr rfl)
   |((with_reducible refine wl_gyes (dj:= ?_) ?_ ?_ ?_);rotate_left;rfl;rfl)
   |((with_reducible refine wl_pick (b:= ?_) (v:= ?_) ?_ ?_ ?_ ?_);rotate_left 2;decide;rfl;rfl)
   |((with_reducible refine wl_extract (vs:= ?_) (v:= ?_) ?_ ?_ ?_ ?_);rotate_left 2;decide;rfl;rfl)
   |with_reducible refine wk_then_exit ?_
   |with_reducible refine wk_blk_exit ?_
   |((with_reducible refine wk_blk_exit_ne ?_ ?_);decide)
   |with_reducible refine wk_then_ret ?_
   |with_reducible refine wk_blk_ret ?_
   |with_reducible refine wk_blk_norm ?_
   |with_reducible refine wc_skip ?_
   |with_reducible refine wc_ret ?_
   |with_reducible refine wc_exit ?_
   |((with_reducible refine wl_nilCheck (p:= ?_) ?_ ?_ ?_);rotate_left;decide;rfl)
   |((with_reducible show WL _ _ _ _ _ _ _);first|refine wl_move (by decide) rfl ?_|refine wl_assign (by decide) rfl ?_|refine wl_nil ?_|refine wl_gno (by decide) rfl rfl (.inl rfl) ?_|refine wl_gno (by decide) rfl rfl (.inr rfl) ?_|refine wl_gyes rfl rfl ?_|refine wl_pick (by decide) rfl rfl ?_|refine wl_extract (by decide) rfl rfl ?_|refine wl_nilCheck (by decide) rfl ?_))
  exact r):G:=s r
section
variable {P:Program} {n:Nat} {ops:Array Oper} {F L L0:List (Nat×Value)} {w:World} {d i:Nat} {v e u:Value} {R:Value→World→Prop} {Φ:List SP}
theorem qz (h:R v w:=by exact ⟨Chg.refl _ _,rfl⟩):WL P n ops (QR n F (some d) R) [] ((d,v)::F) w:=wl_nil (qr_some h)
theorem qy (h:R v w:=by exact ⟨Chg.refl _ _,rfl⟩):WL P n ops (QR n F (some d) R) [] ((d,v)::(d,u)::F) w:=wl_nil (qr_re h)
theorem Kn.pe (h:Kn ops L0 (fun i=>(spAt Φ i).p) i F w) (p:Nat) (es:List Nat:= []) (hd:dstOf ops p=some d:=by rfl) (hs:spAt Φ p=SP.eq e:=by rfl) (hp:pathOk ops i es p=true:=by kernel_rfl):lk F d=some e:=by
 obtain ⟨v,h1,h2⟩:=h.predP es p hp d hd
 rw [hs] at h2
 rw [h1,show v=e from h2]
theorem Kn.pp (h:Kn ops L0 (fun i=>(spAt Φ i).p) i F w) (p:Nat) (es:List Nat:= []) (hd:dstOf ops p=some d:=by rfl) (hp:pathOk ops i es p=true:=by kernel_rfl): ∃v,lk F d=some v∧(spAt Φ p).p v w:=h.predP es p hp d hd
theorem Kn.pi (h:Kn ops L0 (fun i=>(spAt Φ i).p) i F w) (x:Nat) (ps:List (Nat×List Nat):= []) (hx:lk L0 x=some v:=by rfl) (hp:initOk ops i x ps=true:=by kernel_rfl):lk F x=some v:=h.initP ps x v hx hp
theorem Kn.qe (h:Kn ops L0 (fun i=>(spAt Φ i).p) i F w) (p:Nat) (hd:dstOf ops p=some d:=by rfl) (hs:spAt Φ p=SP.eq e:=by rfl) (hp:anc ops ops.size i p=true:=by kernel_rfl):lk F d=some e:=by
 obtain ⟨v,h1,h2⟩:=h.pred p hp d hd
 rw [hs] at h2
 rw [h1,show v=e from h2]
theorem Kn.qp (h:Kn ops L0 (fun i=>(spAt Φ i).p) i F w) (p:Nat) (hd:dstOf ops p=some d:=by rfl) (hp:anc ops ops.size i p=true:=by kernel_rfl): ∃v,lk F d=some v∧(spAt Φ p).p v w:=h.pred p hp d hd
theorem Kn.qi (h:Kn ops L0 (fun i=>(spAt Φ i).p) i F w) (x:Nat) (hx:lk L0 x=some v:=by rfl) (hp:okInit ops i x=true:=by kernel_rfl):lk F x=some v:=h.init x v hx hp
theorem dq (h: ∀j d,dstOf ops j=some d→∃v,lk F d=some v∧(spAt Φ j).p v w) (j:Nat) (hd:dstOf ops j=some d:=by rfl) (hs:spAt Φ j=SP.eq e:=by rfl):lk F d=some e:=by
 obtain ⟨v,h1,h2⟩:=h j d hd
 rw [hs] at h2
 rw [h1,show v=e from h2]
theorem dr {m:Nat} (h: ∀j d,j<m→dstOf ops j=some d→∃v,lk F d=some v∧(spAt Φ j).p v w) (j:Nat) (hj:j<m:=by exact Nat.lt_of_lt_of_eq (by decide) rfl) (hd:dstOf ops j=some d:=by rfl) (hs:spAt Φ j=SP.eq e:=by rfl):lk F d=some e:=by
 obtain ⟨v,h1,h2⟩:=h j d hj hd
 rw [hs] at h2
 rw [h1,show v=e from h2]
theorem di {B:Nat→Bool} (h: ∀x v,lk L x=some v→B x=true→lk F x=some v) (x:Nat) (hx:lk L x=some v:=by rfl) (hb:B x=true:=by kernel_rfl):lk F x=some v:=h x v hx hb
theorem dn {op : Op} {ty : TypeId} {pos : String} {af : Array Edge} {j dj : Nat} {want : Bool} (hv : lk F dj = some u) (hd : d < n := by decide) (hj : ((ops[j]?).bind (·.dst)) = some dj := by rfl) (hu : u = .bool (!want) ∨ u = undef := by first | exact .inl rfl | exact .inr rfl) (hr : R undef w := by exact ⟨Chg.refl _ _, rfl⟩) :
  WL P n ops (QR n F (some d) R) [{dst:=some d,op:=op,type:=ty,pos:=pos,after:=af,guard:=some (j,want)}] F w:=wl_gno hd hj hv hu (wl_nil (qr_some hr))
theorem dm {x:Operand} {ty:TypeId} {pos:String} {af:Array Edge} (hx:ev F x=some v) (hd:d<n:=by decide) (hr:R v w:=by exact ⟨Chg.refl _ _,rfl⟩):WL P n ops (QR n F (some d) R) [{dst:=some d,op:= .move x,type:=ty,pos:=pos,after:=af,guard:=none}] F w:=wl_move hd hx (wl_nil (qr_some hr))
end
theorem df {p:Prop} [Decidable p] (h:decide p=false): ¬p:=of_decide_eq_false h
theorem Cd {P : Program} {n : Nat} {L : List (Nat × Value)} {w : World} {Q : Exit → Act → World → Prop} {c : Operand} {x y : Code} {b : Bool} {p q : Prop} (ht : p → WK n (x.wp P Q) L w) (hf : q → WK n (y.wp P Q) L w) (hc : ev L c = some (.bool b) := by rfl) (hp : b = true ↔ p := by first | exact decide_eq_true_iff | exact Iff.rfl) (hq : b = false ↔ q := by first | exact decide_eq_false_iff_not | exact Iff.rfl) :
  WK n ((Code.cond c x y).wp P Q) L w:=wc_cond hc (fun h=>ht (hp.1 h)) (fun h=>hf (hq.1 h))
theorem Gs {P : Program} {n : Nat} {ops : Array Oper} {rest : List Oper} {L : List (Nat × Value)} {w : World} {Q : Exit → Act → World → Prop} {b : Bool} {p q : Prop} (dj : Nat) (ht : p → WL P n ops Q rest ((dj, .bool true) :: L) w) (hf : q → WL P n ops Q rest ((dj, .bool false) :: L) w) (hv : lk L dj = some (.bool b) := by rfl) (hp : b = true ↔ p := by first | exact decide_eq_true_iff | exact Iff.rfl) (hq : b = false ↔ q := by first | exact decide_eq_false_iff_not | exact Iff.rfl) :
  WL P n ops Q rest L w:=wl_gsplit hv (fun h=>ht (hp.1 h)) (fun h=>hf (hq.1 h))
section
variable {P:Program} {n:Nat} {L:List (Nat×Value)} {w:World} {Q:Exit→Act→World→Prop} {ops:Array Oper} {rest:List Oper} {ty:TypeId} {pos:String} {af:Array Edge} {d:Nat}
theorem Nd_ {x:Operand} {p:Prop} [Decidable p] {t:TypeId} (hx:ev L x=some (.bool (decide p))) (h:WL P n ops Q rest ((d, .bool (decide (¬p)))::L) w) (hd:d<n:=by decide):WL P n ops Q ({dst:=some d,op:= .unOp .not t x,type:=ty,pos:=pos,after:=af,guard:=none}::rest) L w:=wl_notd hd hx h
theorem Nn_ {x:Operand} {b:Bool} {t:TypeId} (hx:ev L x=some (.bool b)) (h:WL P n ops Q rest ((d, .bool (!b))::L) w) (hd:d<n:=by decide):WL P n ops Q ({dst:=some d,op:= .unOp .not t x,type:=ty,pos:=pos,after:=af,guard:=none}::rest) L w:=wl_not hd hx h
end
theorem leB_ {a b:Nat} (h:Nat.ble a b=true:=by rfl):a≤b:=Nat.le_of_ble_eq_true h
abbrev iv (n:Int):Value:= .int .i64 n
abbrev s0:Value:= .slice none 0 0
abbrev pt (g o:Nat):Value:= .pointer (some ⟨g,o,none⟩)
theorem i0:i64 0:=by unfold i64;omega
theorem gsn {α:Type} {r:Rep α} {S:Nat→Prop} {w:World} {A:Option Addr} {c:Nat}:GS r S w A c []:=GS.nil r S w A c
theorem HP.ay {w0 w:World} {M0 Fz:Nat→Prop} {H:List It} (h:HP w0 M0 Fz w H) (H':List It) (e:H=H':=by rfl):HP w0 M0 Fz w H':=h.as_ e
theorem HP.az {w0 w:World} {M0 Fz:Nat→Prop} {H:List It} (h:HP w0 M0 Fz w H) (H':List It) (e:H=H':=by simp only [List.nil_append,List.cons_append,List.append_assoc,List.append_nil]):HP w0 M0 Fz w H':=h.as_ e
theorem wdL {P : Program} {n : Nat} {L : List (Nat × Value)} {w : World} {Q : Exit → Act → World → Prop} {id : Nat} {l : List Oper} (Φ : List SP)
  (H:AllOps (fun i o=> ∀F w',Ext w w'→Kn l.toArray L (fun i=>(spAt Φ i).p) i F w'→WL P n l.toArray (QR n F (dstOf l.toArray i) fun v w''=>Ext w' w''∧(spAt Φ i).p v w'') [o] F w') 0 l)
  (hQ: ∀F w',Ext w w'→(∀x v,lk L x=some v→unwritten l.toArray x=true→lk F x=some v)→(∀j d,dstOf l.toArray j=some d→∃v,lk F d=some v∧(spAt Φ j).p v w')→WK n (Q .normal) F w')
  (hm:P.follows .mixedOrders=true:=by kernel_rfl) (hB:(fwd l.toArray&&oneEach l.toArray)=true:=by kernel_rfl):WK n ((Code.region id l.toArray true).wp P Q) L w:=wc_drawL Φ hm hB H hQ
theorem wdT {P : Program} {n : Nat} {L : List (Nat × Value)} {w : World} {Q : Exit → Act → World → Prop} {id : Nat} (m : Nat) {l : List Oper} (Φ : List SP)
  (H:AllOps (fun i o=> ∀F w',Ext w w'→Kn l.toArray L (fun i=>(spAt Φ i).p) i F w'→WL P n l.toArray (QR n F (dstOf l.toArray i) fun v w''=>Ext w' w''∧(spAt Φ i).p v w'') [o] F w') 0 (l.take m))
  (hQ : ∀ F w', Ext w w' → (∀ x v, lk L x = some v → ((List.range (l.take m).length).all fun j => match dstOf l.toArray j with | some d => !Nat.beq d x | none => true) = true → lk F x = some v) →
   (∀j d,j<(l.take m).length→dstOf l.toArray j=some d→∃v,lk F d=some v∧(spAt Φ j).p v w')→WL P n l.toArray Q (l.drop m) F w')
  (hm:P.follows .mixedOrders=true:=by kernel_rfl) (hB:drawnB (l.take m) (l.drop m)=true:=by kernel_rfl):WK n ((Code.region id l.toArray true).wp P Q) L w:=wc_drawTL m Φ hm hB H hQ
theorem P1 {P:Program} {fn:Func} {n:Nat} {L:List (Nat×Value)} {w:World} {R:Ending→World→Prop} {e:Exit} {t:Nat} {v:Value} (hr:fn.results= #[.tmp t]) (h:R (.returned v) w) (he:e= .ret∨e= .normal:=by first|exact .inl rfl|exact .inr rfl) (hv:lk L t=some v:=by rfl):WK n (bodyPost P fn R e) L w:=wk_post1 he hr hv h
theorem P2 {P:Program} {fn:Func} {n:Nat} {L:List (Nat×Value)} {w:World} {R:Ending→World→Prop} {e:Exit} {t u:Nat} {v x:Value} (hr:fn.results= #[.tmp t, .tmp u]) (h:R (.returned (.tuple #[v,x])) w) (he:e= .ret∨e= .normal:=by first|exact .inl rfl|exact .inr rfl) (hv:lk L t=some v:=by rfl) (hx:lk L u=some x:=by rfl):WK n (bodyPost P fn R e) L w:=wk_post2 he hr hv hx h
theorem GS.tk {α:Type} {r:Rep α} {S:Nat→Prop} {w:World} {A:Option Addr} {c:Nat} {l:List α} (_:GS r S w A c l):Frz S S w w:=Frz.start S w
theorem AtF.tk {S:Nat→Prop} {w:World} {a:Addr} {cs:List Value} (_:AtF S w a cs):Frz S S w w:=Frz.start S w
theorem MutF.tk {S:Nat→Prop} {w:World} {g:Nat} (_:MutF S w g):Frz S S w w:=Frz.start S w
theorem RF.tk {α:Type} {r:Rep α} {S:Nat→Prop} {w:World} {rows:List (List Value)} {l:List α} (_:RF r S w rows l):Frz S S w w:=Frz.start S w
theorem AtF.sub {S:Nat→Prop} {w:World} {a:Addr} {cs xs:List Value} (h:AtF S w a cs) (o k:Nat) (e:(cs.drop o).take k=xs:=by rfl):AtF S w (a.add o) xs:=by
 subst e
 have e1:cs=cs.take o++(((cs.drop o).take k)++(cs.drop o).drop k):=by rw [List.take_append_drop,List.take_append_drop]
 by_cases hl:o≤cs.length
 ·have h2 := AtF.mid (pre := cs.take o) (cs := (cs.drop o).take k) (post := (cs.drop o).drop k) (e1 ▸ h)
  rwa [List.length_take,Nat.min_eq_left hl] at h2
 ·rw [List.drop_eq_nil_of_le (by omega)]
  exact ⟨fun j v hj=>by simp at hj,by rw [block_add];exact h.inS,by rw [block_add];exact h.lt⟩
theorem GS.fr {α:Type} {r:Rep α} {Fz F:Nat→Prop} {w w':World} {A:Option Addr} {c:Nat} {l:List α} (h:GS r Fz w A c l) (f:Frz Fz F w w'):GS r F w' A c l:=(h.fz f.chg).wid f.sub
theorem AtF.fr {Fz F:Nat→Prop} {w w':World} {a:Addr} {cs:List Value} (h:AtF Fz w a cs) (f:Frz Fz F w w'):AtF F w' a cs:=(h.fz f.chg).wid f.sub
theorem RF.fr {α:Type} {r:Rep α} {Fz F:Nat→Prop} {w w':World} {rows:List (List Value)} {l:List α} (h:RF r Fz w rows l) (f:Frz Fz F w w'):RF r F w' rows l:=(h.fz f.chg).wid f.sub
theorem MutF.fr {Fz F:Nat→Prop} {w w':World} {g:Nat} (h:MutF Fz w g) (f:Frz Fz F w w'):MutF F w' g:=(h.fz f.chg).wid f.sub
theorem Frz.fr {F0 Fz F:Nat→Prop} {w0 w w':World} (h:Frz F0 Fz w0 w) (f:Frz Fz F w w'):Frz F0 F w0 w':=(h.fz f.chg).wid f.sub
section
variable {P:Program} {n:Nat} {L:List (Nat×Value)} {w w0:World} {M0 Fz:Nat→Prop} {H:List It} {Q:Exit→Act→World→Prop} {ops:Array Oper} {rest:List Oper} {ty:TypeId} {pos:String} {af:Array Edge} {d:Nat}
theorem Ld_ {x:Operand} {t:TypeId} {p:Addr} {v:Value} (hs:scB P t=true) (hx:ev L x=some (.pointer (some p))) (hc:w.cell? p=some v) (h:WL P n ops Q rest ((d,v)::L) w) (hd:d<n:=by decide):WL P n ops Q ({dst:=some d,op:= .load t x,type:=ty,pos:=pos,after:=af,guard:=none}::rest) L w:=wl_load hd hs hx hc h
theorem Fe_ {s f off:Nat} {x:Operand} {p:Addr} (hF:fldB P s f off=true) (hx:ev L x=some (.pointer (some p))) (h:WL P n ops Q rest ((d, .pointer (some (p.add off)))::L) w) (hd:d<n:=by decide):WL P n ops Q ({dst:=some d,op:= .fieldAddr s x f,type:=ty,pos:=pos,after:=af,guard:=none}::rest) L w:=wl_fld hd hF hx h
theorem Fd_ {s f off g o:Nat} (o':Nat) {x:Operand} (hF:fldB P s f off=true) (hx:ev L x=some (.pointer (some ⟨g,o,none⟩))) (ho:o+off=o') (h:WL P n ops Q rest ((d, .pointer (some ⟨g,o',none⟩))::L) w) (hd:d<n:=by decide):WL P n ops Q ({dst:=some d,op:= .fieldAddr s x f,type:=ty,pos:=pos,after:=af,guard:=none}::rest) L w:=wl_fld' hd hF hx ho h
theorem Hl_ (i:Nat) {t e g o:Nat} {cs:List Value} {x:Operand} {v:Value} (hs:scB P t=true) (hx:ev L x=some (.pointer (some ⟨g,o,none⟩))) (hp:HP w0 M0 Fz w H) (hi:H[i]? =some (itB g e cs)) (hv:cs[o]? =some v) (h:WL P n ops Q rest ((d,v)::L) w) (hd:d<n:=by decide):WL P n ops Q ({dst:=some d,op:= .load t x,type:=ty,pos:=pos,after:=af,guard:=none}::rest) L w:=wl_hload hd hs hx hp hi hv h
theorem Hx_ (xs:List Value) (i:Nat) {t e g k o:Nat} {cs:List Value} {x:Operand} (hs:agB P t k=true) (hx:ev L x=some (.pointer (some ⟨g,o,none⟩))) (hp:HP w0 M0 Fz w H) (hi:H[i]? =some (itB g e cs)) (hl:xs.length=k) (he:(cs.drop o).take k=xs) (h:WL P n ops Q rest ((d, .agg xs.toArray)::L) w) (hd:d<n:=by decide):WL P n ops Q ({dst:=some d,op:= .load t x,type:=ty,pos:=pos,after:=af,guard:=none}::rest) L w:=wl_hloadX xs hd hs hx hp hi hl he h
theorem Cl_ {f:FuncId} {xs:List Operand} {vs:List Value} {ts:Array TypeId} {R:Value→World→Prop} (hf:callable P f=true) (hx:evs L xs=some vs) (hc:Ret P f vs.toArray w R) (h: ∀v w',R v w'→WL P n ops Q rest ((d,v)::L) w') (hd:d<n:=by decide):WL P n ops Q ({dst:=some d,op:= .call {callee:= .value (.func f),args:=xs.toArray,argTypes:=ts},type:=ty,pos:=pos,after:=af,guard:=none}::rest) L w:=wl_call hd hf hx hc h
theorem Eq_ {k:IntKind} {x y:Operand} {a b:Int} {t u:TypeId} (hx:ev L x=some (.int k a)) (hy:ev L y=some (.int k b)) (h:WL P n ops Q rest ((d, .bool (decide (a=b)))::L) w) (hd:d<n:=by decide):WL P n ops Q ({dst:=some d,op:= .binOp .eql t x y u,type:=ty,pos:=pos,after:=af,guard:=none}::rest) L w:=wl_eql hd hx hy h
theorem Ne_ {k:IntKind} {x y:Operand} {a b:Int} {t u:TypeId} (hx:ev L x=some (.int k a)) (hy:ev L y=some (.int k b)) (h:WL P n ops Q rest ((d, .bool (decide (a≠b)))::L) w) (hd:d<n:=by decide):WL P n ops Q ({dst:=some d,op:= .binOp .neq t x y u,type:=ty,pos:=pos,after:=af,guard:=none}::rest) L w:=wl_neq hd hx hy h
theorem Ls_ {k:IntKind} {x y:Operand} {a b:Int} {t u:TypeId} (hx:ev L x=some (.int k a)) (hy:ev L y=some (.int k b)) (h:WL P n ops Q rest ((d, .bool (decide (a<b)))::L) w) (hd:d<n:=by decide):WL P n ops Q ({dst:=some d,op:= .binOp .lss t x y u,type:=ty,pos:=pos,after:=af,guard:=none}::rest) L w:=wl_lss hd hx hy h
theorem Gt_ {k:IntKind} {x y:Operand} {a b:Int} {t u:TypeId} (hx:ev L x=some (.int k a)) (hy:ev L y=some (.int k b)) (h:WL P n ops Q rest ((d, .bool (decide (b<a)))::L) w) (hd:d<n:=by decide):WL P n ops Q ({dst:=some d,op:= .binOp .gtr t x y u,type:=ty,pos:=pos,after:=af,guard:=none}::rest) L w:=wl_gtr hd hx hy h
theorem Gq_ {k:IntKind} {x y:Operand} {a b:Int} {t u:TypeId} (hx:ev L x=some (.int k a)) (hy:ev L y=some (.int k b)) (h:WL P n ops Q rest ((d, .bool (decide (b≤a)))::L) w) (hd:d<n:=by decide):WL P n ops Q ({dst:=some d,op:= .binOp .geq t x y u,type:=ty,pos:=pos,after:=af,guard:=none}::rest) L w:=wl_geq hd hx hy h
theorem Ln_ {x:Operand} {A:Option Addr} {k c t:Nat} {e:TypeId} (ht:P.underlying t=some (.slice e)) (hx:ev L x=some (.slice A k c)) (h:WL P n ops Q rest ((d, .int .i64 (k:Int))::L) w) (hd:d<n:=by decide):WL P n ops Q ({dst:=some d,op:= .call {callee:= .builtin .len,args:= #[x],argTypes:= #[t]},type:=ty,pos:=pos,after:=af,guard:=none}::rest) L w:=wl_len hd ht hx h
theorem Nc_ {x:Operand} {p:Addr} (hx:ev L x=some (.pointer (some p))) (h:WL P n ops Q rest ((d, .pointer (some p))::L) w) (hd:d<n:=by decide):WL P n ops Q ({dst:=some d,op:= .nilCheck x,type:=ty,pos:=pos,after:=af,guard:=none}::rest) L w:=wl_nilCheck hd hx h
theorem Pk_ {c x y:Operand} {b:Bool} {v:Value} (hc:ev L c=some (.bool b)) (hv:ev L (if b then x else y)=some v) (h:WL P n ops Q rest ((d,v)::L) w) (hd:d<n:=by decide):WL P n ops Q ({dst:=some d,op:= .pick c x y,type:=ty,pos:=pos,after:=af,guard:=none}::rest) L w:=wl_pick hd hc hv h
theorem Mv_ {x:Operand} {v:Value} (hx:ev L x=some v) (h:WL P n ops Q rest ((d,v)::L) w) (hd:d<n:=by decide):WL P n ops Q ({dst:=some d,op:= .move x,type:=ty,pos:=pos,after:=af,guard:=none}::rest) L w:=wl_move hd hx h
end
end Go.Eng
namespace Go.Eng
open Go.RowKit
def QP (n d:Nat) (v:Value) (L:List (Nat×Value)) (w:World):Exit→Act→World→Prop:=fun e a w'=>e= .normal∧Fr n a ((d,v)::L)∧Ext w w'
section
variable {P:Program} {n d:Nat} {v u:Value} {L L':List (Nat×Value)} {w w':World} {ops:Array Oper}
theorem qp:WK n (QP n d v L w .normal) ((d,v)::L) w:=fun _ ha=>⟨rfl,ha,Chg.refl _ _⟩
theorem qpe (h:Ext w w'):WK n (QP n d v L w .normal) ((d,v)::L) w':=fun _ ha=>⟨rfl,ha,h⟩
inductive PL (P : Program) (n : Nat) (ops : Array Oper) (w : World) : List Oper → List (Nat × Value) → List (Nat × Value) → Prop
 |nil {L:List (Nat×Value)}:PL P n ops w [] L L
 |op {o:Oper} {rest:List Oper} {L L':List (Nat×Value)} {d:Nat} {v:Value} (hd:o.dst=some d) (h1:WL P n ops (QP n d v L w) [o] L w) (h2:PL P n ops w rest ((d,v)::L) L'):PL P n ops w (o::rest) L L'
theorem PL.at_ {l:List Oper} (h:PL P n ops w l L L'):L'.drop l.length=L∧∀j o,l[j]? =some o→∃d v,o.dst=some d∧L'.drop (l.length-(j+1))=(d,v)::L'.drop (l.length-j)∧WL P n ops (QP n d v (L'.drop (l.length-j)) w) [o] (L'.drop (l.length-j)) w:=by
 induction h with
 |nil=>exact ⟨rfl,fun j o hj=>by simp at hj⟩
 | @op o rest L L' d v hd h1 h2 ih =>
  obtain ⟨ih1,ih2⟩:=ih
  have e1:L'.drop (rest.length+1)=L:=by rw [←List.drop_drop,ih1];rfl
  refine ⟨e1,fun j o' hj=> ?_⟩
  cases j with
  | zero =>
   simp only [List.getElem?_cons_zero,Option.some.injEq] at hj
   subst hj
   refine ⟨d,v,hd, ?_, ?_⟩
   ·simp only [List.length_cons,Nat.add_sub_cancel,Nat.zero_add,Nat.sub_zero,e1,ih1]
   ·simp only [List.length_cons, Nat.sub_zero, e1]
    exact h1
  | succ j =>
   simp only [List.getElem?_cons_succ] at hj
   have:=ih2 j o' hj
   simpa only [List.length_cons,Nat.add_sub_add_right] using this
def ancM (ops : Array Oper) : Nat → List Nat
 |0=> []
 |k+1=>ancM ops k++ [(edgesOf ops k).foldl (fun acc e=>acc|||(1<<<e|||(ancM ops k).getD e 0)) 0]
def ancT (T:List Nat) (i p:Nat):Bool:=(T.getD i 0).testBit p
theorem anc_mono {f g i p:Nat} (h:anc ops f i p=true) (hg:f≤g):anc ops g i p=true:=by
 induction f generalizing g i with
 |zero=>simp [anc] at h
 | succ f ih =>
  cases g with
  |zero=>omega
  | succ g =>
   simp only [anc,List.any_eq_true,Bool.or_eq_true] at h⊢
   obtain ⟨e,he,h|h⟩:=h
   ·exact ⟨e,he, .inl h⟩
   ·exact ⟨e,he, .inr (ih h (by omega))⟩
theorem ancM_len : ∀ k, (ancM ops k).length = k
 |0=>rfl
 |k+1=>by simp [ancM,ancM_len k]
theorem fold_bits (A:List Nat) (p:Nat): ∀(l:List Nat) (x:Nat),(l.foldl (fun acc e=>acc|||(1<<<e|||A.getD e 0)) x).testBit p=true→x.testBit p=true∨∃e∈l,e=p∨(A.getD e 0).testBit p=true:=by
 intro l
 induction l with
 |nil=>intro x h;exact .inl h
 | cons e t ih =>
  intro x h
  rcases ih _ h with h|⟨e',he',h⟩
  ·simp only [Nat.testBit_or, Bool.or_eq_true] at h
   rcases h with h|h|h
   ·exact .inl h
   ·refine .inr ⟨e, by simp, .inl ?_⟩
    rw [Nat.one_shiftLeft,Nat.testBit_two_pow] at h
    simpa using h
   ·exact .inr ⟨e,by simp, .inr h⟩
  ·exact .inr ⟨e',by simp [he'],h⟩
theorem ancM_ok: ∀(k i p:Nat),i<k→((ancM ops k).getD i 0).testBit p=true→(∀j,j<k→∀e∈edgesOf ops j,e<j)→anc ops (i+1) i p=true:=by
 intro k
 induction k with
 |zero=>intro i p h;omega
 | succ k ih =>
  intro i p hi h hf
  rw [List.getD_eq_getElem?_getD] at h
  simp only [ancM] at h
  rcases Nat.lt_or_ge i k with hlt|hge
  ·rw [List.getElem?_append_left (by rw [ancM_len]; exact hlt), ← List.getD_eq_getElem?_getD] at h
   exact ih i p hlt h (fun j hj=>hf j (by omega))
  ·obtain rfl : i = k := by omega
   rw [List.getElem?_append_right (by rw [ancM_len];omega),ancM_len,Nat.sub_self] at h
   simp only [List.getElem?_cons_zero,Option.getD_some] at h
   rcases fold_bits _ p _ 0 h with h|⟨e,he,h⟩
   ·simp at h
   ·simp only [anc, List.any_eq_true, Bool.or_eq_true]
    refine ⟨e,he, ?_⟩
    rcases h with h|h
    ·exact .inl (by rw [h];simp)
    ·have hlt := hf i (by omega) e he
     exact .inr (anc_mono (ih e p hlt h (fun j hj=>hf j (by omega))) (by omega))
theorem ancT_ok (hf:fwd ops=true) {i p:Nat} (hi:i<ops.size) (h:ancT (ancM ops ops.size) i p=true):anc ops ops.size i p=true:=by
 refine anc_mono (ancM_ok ops.size i p hi h fun j hj e he=> ?_) (by omega)
 simp only [fwd,List.all_eq_true,List.mem_range,decide_eq_true_eq] at hf
 exact hf j hj e he
def wrB (ops:Array Oper) (j x:Nat):Bool:=match dstOf ops j with|some d=>Nat.beq d x|none=>false
theorem wrB_iff {j x:Nat}:wrB ops j x=true↔dstOf ops j=some x:=by
 unfold wrB
 cases dstOf ops j with
 |none=>simp
 |some d=>simp
def seqB (l:List Oper) (m n:Nat):Bool:=
 fwd l.toArray&&oneEach l.toArray&&Region.noSelect l.toArray&&Nat.ble m l.length&&
 let T:=ancM l.toArray l.toArray.size
 ((List.range l.toArray.size).all fun i=>decide (i<m)||(List.range i).all fun p=>ancT T i p)&&
 ((List.range m).all fun j => match l[j]? with
  | some o => (match o.dst with | some d => Nat.blt d n | none => false) && (o.looksAt l.toArray).all fun x =>
   ((List.range j).all fun i=> !wrB l.toArray i x||ancT T j i)&&
   ((List.range j).any (fun i=>wrB l.toArray i x)||(List.range l.toArray.size).all fun i=> !wrB l.toArray i x||Nat.beq i j||ancT T i j)
  |none=>true)
theorem eval_agree {a b:Act} {x:Operand} (h: ∀t,x= .tmp t→a.tmps[t]? =b.tmps[t]?):a.eval x=b.eval x:=by
 cases x with
 |tmp t=>simp only [Act.eval,Array.getD_eq_getD_getElem?,h t rfl]
 |_=>rfl
theorem wanted_agree {a b:Act} {o:Oper} (h: ∀t∈o.looksAt ops,a.tmps[t]? =b.tmps[t]?):Region.wanted o (yielded ops a.tmps)=Region.wanted o (yielded ops b.tmps):=by
 unfold Region.wanted
 cases hg:o.guard with
 |none=>rfl
 | some gw =>
  obtain ⟨g,want⟩:=gw
  have hy:yielded ops a.tmps g=yielded ops b.tmps g:=by
   unfold yielded
   cases ht:(ops[g]?).bind (·.dst) with
   |none=>rfl
   |some t=>simp only [Option.bind_some,h t (by simp [Oper.looksAt,hg,ht])]
  simp only [hy]
theorem one_agree {o : Oper} {F : List (Nat × Value)} {a b : Act} {Φ : Value → World → Prop} (hs : ∀ cs b, o.op ≠ .select cs b) (hd : o.dst = some d) (hn : d < n) (hag : ∀ t ∈ o.looksAt ops, a.tmps[t]? = b.tmps[t]?)
  (ha:a.tmps.size=n) (hb:Fr n b F) (hΦ: ∀w,Φ v w) (h:wpList P ops (QP n d v L w) [o] a w):wpList P ops (QR n F (some d) fun v w'=>Ext w w'∧Φ v w') [o] b w:=by
 have hex : execOp a.eval o = execOp b.eval o := execOp_congr o hs fun x hx => eval_agree fun t ht => hag t (by
  subst ht
  exact List.mem_append_left _ (List.mem_filterMap.2 ⟨.tmp t,by simpa using hx,rfl⟩))
 have val : ∀ (u : Value) (w' : World), QP n d v L w .normal (a.put o.dst u) w' → QR n F (some d) (fun v w' => Ext w w' ∧ Φ v w') .normal (b.put o.dst u) w' := by
  rintro u w' ⟨_,hf,hE⟩
  have h1:=hf.get d v (by simp [lk])
  rw [hd] at h1⊢
  have h2:(a.put (some d) u).tmps[d]? =some u:=by
   simp only [Act.put]
   rw [Array.getElem?_setIfInBounds_self_of_lt (by omega)]
  rw [h2] at h1
  cases h1
  exact ⟨rfl,v,hb.put hn v,hE,hΦ w'⟩
 unfold wpList at h⊢
 rw [wanted_agree hag] at h
 split
 ·rename_i hw
  rw [if_pos hw] at h
  rcases h with h|⟨_,a1,w1,hx,_⟩
  ·refine .inl ?_
   unfold Oper.wp at *
   rw [hex] at h
   generalize (execOp b.eval o).run P w=r at *
   cases r with
   | ok x w' =>
    cases x<;>simp only [Oper.upon] at h⊢
    case value u=>exact val u w' h
    case skip=>exact val _ w' h
    case defer df=>
     have:=h.2.1.defers
     rw [hd] at this
     simp [Act.put] at this
    case enter f args=>
     refine Calls.mono h fun e w'' he=> ?_
     cases e with
     |returned u=>exact val u w'' he
     |panicked c=>exact absurd he.1 (by simp)
     |outgrown=>obtain ⟨_,_,hx,_⟩:=he;exact absurd hx (by simp)
    case row row args=>exact Rows.mono h fun u w'' he=>val u w'' he
   | halt x w' =>
    cases x<;>simp only [Oper.upon] at h⊢
    case panic u=>exact absurd h.1 (by simp)
  ·cases hx
 ·rename_i hw
  rw [if_neg hw] at h
  exact val _ w h
theorem PL.look {l : List Oper} (h : PL P n ops w l L L') : ∀ j, j ≤ l.length → ∀ x v, lk (L'.drop (l.length - j)) x = some v →
  (∃i,i<j∧(∃o,l[i]? =some o∧o.dst=some x)∧(L'.drop (l.length-(i+1))).head?.map (·.2)=some v)∨((∀i o,i<j→l[i]? =some o→o.dst≠some x)∧lk L x=some v):=by
 obtain ⟨h0,hat⟩:=h.at_
 intro j
 induction j with
 |zero=>intro _ x v hx;rw [Nat.sub_zero,h0] at hx;exact .inr ⟨fun i o hi=>by omega,hx⟩
 | succ j ih =>
  intro hj x v hx
  obtain ⟨o,ho⟩: ∃o,l[j]? =some o:=⟨l[j],List.getElem?_eq_getElem (by omega)⟩
  obtain ⟨d,u,hd,he,_⟩:=hat j o ho
  rw [he] at hx
  simp only [lk] at hx
  cases hb:Nat.beq x d with
  | true =>
   rw [hb] at hx
   simp only [cond_true,Option.some.injEq] at hx
   refine .inl ⟨j,by omega,⟨o,ho,by rw [hd,Nat.eq_of_beq_eq_true hb]⟩,by rw [he,←hx];rfl⟩
  | false =>
   rw [hb] at hx
   simp only [cond_false] at hx
   rcases ih (by omega) x v hx with ⟨i,hi,ha,hc⟩|⟨hno,hl⟩
   ·exact .inl ⟨i,by omega,ha,hc⟩
   ·refine .inr ⟨fun i o' hi ho' => ?_, hl⟩
    rcases Nat.lt_or_ge i j with hlt|hge
    ·exact hno i o' hlt ho'
    ·obtain rfl : i = j := by omega
     rw [ho] at ho'
     cases ho'
     rw [hd]
     intro e
     cases e
     simp at hb
theorem wc_seq_draw {id : Nat} (m : Nat) {l : List Oper} {Q : Exit → Act → World → Prop} (hm : P.follows .mixedOrders = true) (hB : seqB l m n = true)
  (H1: ∀w',Ext w w'→PL P n l.toArray w' (l.take m) L L') (H2: ∀w',Ext w w'→WL P n l.toArray Q (l.drop m) L' w'):
  WK n ((Code.region id l.toArray true).wp P Q) L w:=by
 unfold seqB at hB
 simp only [Bool.and_eq_true] at hB
 obtain ⟨⟨⟨⟨hf,hone⟩,hns⟩,hml⟩,hch,hsq⟩:=hB
 have hml:m≤l.length:=Nat.le_of_ble_eq_true hml
 have e0:l.take m++l.drop m=l:=List.take_append_drop m l
 have hlen:(l.take m).length=m:=by rw [List.length_take];omega
 have tk: ∀j o,j<m→l[j]? =some o→(l.take m)[j]? =some o:=fun j o hj ho=>by rw [List.getElem?_take,if_pos hj];exact ho
 have dO: ∀j,dstOf l.toArray j=(l[j]?).bind (·.dst):=fun j=>by unfold dstOf;simp
 have hch':chainB l.toArray m=true:=by
  simp only [chainB,List.all_eq_true,List.mem_range,Bool.or_eq_true] at hch⊢
  exact fun i hi=>(hch i hi).imp (fun h=>h) fun h p hp=>ancT_ok hf hi (h p hp)
 intro a0 ha0
 have hPw:=H1 w (Chg.refl _ _)
 have key:WK n ((Code.region id (l.take m++l.drop m).toArray true).wp P Q) L w:=by
  refine wc_drawG (fun i v _=>(L'.drop (m-(i+1))).head?.map (·.2)=some v) (fun _ w'=>Ext w w') (fun _=>Ext) hm ?_ (fun _ _ _=>⟨rfl,rfl,rfl,Nat.le_refl _,fun _ _ _=>rfl⟩) (fun _ _ _ _ _ h k=>h.trans k) (fun _ _ _ _ _ _ _ h=>h) ?_ ?_
  ·rw [e0,hlen,hf,hone,hch'];rfl
  ·intro i o hi _ F w' _ hE hk
   rw [e0] at hk⊢
   have hil:i<m:=by have:=(List.getElem?_eq_some_iff.1 hi).1;omega
   have hol:l[i]? =some o:=by rw [List.getElem?_take,if_pos hil] at hi;exact hi
   obtain ⟨h0,hat⟩:=(H1 w' hE).at_
   rw [hlen] at hat
   obtain ⟨d,v,hd,hhd,hw⟩:=hat i o hi
   have hsi:i<l.toArray.size:=by simp;omega
   simp only [List.all_eq_true,List.mem_range] at hsq
   have hsi2:=hsq i hil
   rw [hol] at hsi2
   simp only [hd,Bool.and_eq_true,List.all_eq_true,List.mem_range,Bool.or_eq_true,List.any_eq_true,Bool.not_eq_true'] at hsi2
   obtain ⟨hdn,hlk⟩:=hsi2
   have hdn:d<n:=Nat.le_of_ble_eq_true hdn
   intro b hb
   have hdo:dstOf l.toArray i=some d:=by rw [dO,hol];exact hd
   
   have hLn: ∀k u,lk (L'.drop (m-i)) k=some u→k<n:=by
    intro k u hu
    have:=(H1 w' hE).look i (by omega) k u (by rw [hlen];exact hu)
    rcases this with ⟨j,hj,⟨oj,hoj,hdj⟩,_⟩|⟨_,hl⟩
    ·have h1 := hsq j (by omega)
     rw [List.getElem?_take,if_pos (by omega)] at hoj
     rw [hoj] at h1
     simp only [hdj,Bool.and_eq_true] at h1
     exact Nat.le_of_ble_eq_true h1.1
    ·have := ha0.get k u hl
     have h2:=(Array.getElem?_eq_some_iff.1 this).1
     rw [ha0.size] at h2
     exact h2
   have hFs: ∀t∈o.looksAt l.toArray,∀u,lk (L'.drop (m-i)) t=some u→b.tmps[t]? =some u:=by
    intro t ht u hu
    obtain ⟨g1,g2⟩:=hlk t ht
    have:=(H1 w' hE).look i (by omega) t u (by rw [hlen];exact hu)
    rcases this with ⟨j,hj,⟨oj,hoj,hdj⟩,hv⟩|⟨hno,hl⟩
    ·rw [List.getElem?_take, if_pos (by omega)] at hoj
     have hwr:dstOf l.toArray j=some t:=by rw [dO,hoj];exact hdj
     rcases g1 j hj with h|h
     ·rw [wrB_iff.2 hwr] at h;cases h
     ·obtain ⟨u', hu', hx⟩ := hk.pred j (ancT_ok hf hsi h) t hwr
      rw [hlen] at hv
      rw [hv] at hx
      cases hx
      exact hb.get t u hu'
    ·have hnw : ∀ j, j < i → dstOf l.toArray j ≠ some t := by
      intro j hj hc
      rw [dO] at hc
      cases hoj:l[j]? with
      |none=>rw [hoj] at hc;cases hc
      | some oj =>
       rw [hoj] at hc
       exact hno j oj hj (tk j oj (by omega) hoj) hc
     rcases g2 with ⟨j,hj,h⟩|h
     ·exact absurd (wrB_iff.1 h) (hnw j hj)
     ·refine hb.get t u (hk.init t u hl ?_)
      simp only [okInit,List.all_eq_true,List.mem_range,Bool.or_eq_true]
      intro j hj
      rcases h j hj with (h|h)|h
      ·refine .inl (.inl ?_)
       cases hdj:dstOf l.toArray j with
       |none=>rfl
       | some dj =>
        unfold wrB at h
        rw [hdj] at h
        simp only [h,Bool.not_false]
      ·exact .inl (.inr h)
      ·exact .inr (ancT_ok hf hj h)
   let a:Act:={b with tmps:=(Array.range n).map fun k=>match lk (L'.drop (m-i)) k with|some u=>u|none=>b.tmps.getD k undef}
   have ha:Fr n a (L'.drop (m-i)):=by
    refine ⟨by simp [a],hb.defers,fun k u hu=> ?_⟩
    have hk':=hLn k u hu
    simp only [a,Array.getElem?_map,Array.getElem?_range,if_pos hk',Option.map_some,hu]
   have hag: ∀t∈o.looksAt l.toArray,a.tmps[t]? =b.tmps[t]? :=by
    intro t ht
    cases hu:lk (L'.drop (m-i)) t with
    | some u =>
     rw [ha.get t u hu,hFs t ht u hu]
    | none =>
     rcases Nat.lt_or_ge t n with hlt|hge
     ·have hbt : t < b.tmps.size := by rw [hb.size]; exact hlt
      simp only [a,Array.getElem?_map,Array.getElem?_range,if_pos hlt,Option.map_some,hu,Array.getD_eq_getD_getElem?,Array.getElem?_eq_getElem hbt,Option.getD_some]
     ·rw [Array.getElem?_eq_none (by rw [ha.size];exact hge),Array.getElem?_eq_none (by rw [hb.size];exact hge)]
   rw [hdo]
   refine one_agree (Region.noSelect_spec hns i o · · (by simpa using hol)) hd hdn hag (by rw [ha.size]) hb (fun _=> ?_) (hw a ha)
   rw [hhd]
   rfl
  ·intro _ F w' hE hini hdo
   rw [e0] at hini hdo⊢
   rw [hlen] at hini hdo
   intro a ha
   refine H2 w' hE a ⟨ha.size,ha.defers,fun k v hk=> ?_⟩
   have:=(H1 w' hE).look m (by rw [hlen];exact Nat.le_refl m) k v (by rw [hlen,Nat.sub_self];exact hk)
   rcases this with ⟨j,hj,⟨oj,hoj,hdj⟩,hv⟩|⟨hno,hl⟩
   ·rw [List.getElem?_take, if_pos (by omega)] at hoj
    obtain ⟨u,hu,hx⟩:=hdo j k hj (by rw [dO,hoj];exact hdj)
    rw [hlen] at hv
    rw [hv] at hx
    cases hx
    exact ha.get k v hu
   ·refine ha.get k v (hini k v hl ?_)
    rw [List.all_eq_true]
    intro j hj
    rw [List.mem_range] at hj
    cases hdj:dstOf l.toArray j with
    |none=>rfl
    | some dj =>
     have hne:dj≠k:=by
      intro e
      subst e
      rw [dO] at hdj
      cases hoj:l[j]? with
      |none=>rw [hoj] at hdj;cases hdj
      | some oj =>
       rw [hoj] at hdj
       exact hno j oj hj (tk j oj hj hoj) hdj
     simp only [Bool.not_eq_true']
     cases hb:Nat.beq dj k with
     |false=>rfl
     |true=>exact absurd (Nat.eq_of_beq_eq_true hb) hne
 rw [e0] at key
 exact key a0 ha0
end
end Go.Eng
namespace Go.Eng
open Go.RowKit
class FldC (P:Program) (s f:Nat) (off:outParam Nat):Prop where h:fldB P s f off=true
class ScC (P:Program) (t:Nat):Prop where h:scB P t=true
class AgC (P:Program) (t:Nat) (k:outParam Nat):Prop where h:agB P t k=true
class SlC (P:Program) (t:Nat) (e size bytes:outParam Nat):Prop where h:slB P t e size bytes=true
class SzC (P:Program) (t:Nat) (k:outParam Nat):Prop where h:szB P t k=true
class UlC (P:Program) (t:Nat) (e:outParam TypeId):Prop where h:P.underlying t=some (.slice e)
class FvC (P:Program) (s f:Nat) (off:outParam Nat):Prop where h:fvB P s f off=true
class ClC (P:Program) (f:FuncId):Prop where h:callable P f=true
class MtC (P:Program) (t:TypeId) (name:String) (f:outParam FuncId):Prop where h:methB P t name f=true
class ZrC (P:Program) (t:TypeId) (z:outParam Value):Prop where h:(P.info? t).bind (·.zero)=some z
class Sub (cs:List Value) (o k:Nat) (xs:outParam (List Value)):Prop where h:(cs.drop o).take k=xs
section
variable {x:Value} {cs l m xs:List Value} {o k:Nat} {d:Dig}
instance (priority:=low) [s:Sub cs o k xs]:Sub (x::cs) (o+1) k xs:=⟨by rw [List.drop_succ_cons];exact s.h⟩
instance (priority:=low) [s:Sub (l++m) o k xs]:Sub ((x::l)++m) (o+1) k xs:=⟨by rw [List.cons_append,List.drop_succ_cons];exact s.h⟩
instance [s:Sub m o k xs]:Sub ([]++m) o k xs:=⟨s.h⟩
instance [s:Sub m o k xs]:Sub (digC d++m) (o+32) k xs:=⟨by rw [Nat.add_comm,←List.drop_drop,List.drop_left' (digC_len d)];exact s.h⟩
instance:Sub (digC d++m) 0 32 (digC d):=⟨by rw [List.drop_zero,List.take_left' (digC_len d)]⟩
instance:Sub (digC d) 0 32 (digC d):=⟨rfl⟩
instance:Sub cs 0 0 []:=⟨rfl⟩
instance (priority:=low) [s:Sub cs 0 k xs]:Sub (x::cs) 0 (k+1) (x::xs):=⟨by rw [List.drop_zero,List.take_succ_cons,←s.h,List.drop_zero]⟩
instance (priority:=low) [s:Sub (l++m) 0 k xs]:Sub ((x::l)++m) 0 (k+1) (x::xs):=⟨by rw [List.drop_zero,List.cons_append,List.take_succ_cons,←s.h,List.drop_zero]⟩
end
class Fnd (H:List It) (g:Nat) (i e:outParam Nat) (cs:outParam (List Value)):Prop where h:H[i]? =some (itB g e cs)
instance (priority:=low) {H:List It} {x:It} {g i e:Nat} {cs:List Value} [k:Fnd H g i e cs]:Fnd (x::H) g (i+1) e cs:=⟨by rw [List.getElem?_cons_succ];exact k.h⟩
instance {H:List It} {g e:Nat} {cs:List Value}:Fnd (itB g e cs::H) g 0 e cs:=⟨rfl⟩
structure Hid (R:Prop):Prop where h:R
section
variable {S F G:Nat→Prop} {v w w':World}
theorem Frz.bE (k:Ext v w') (h:Frz S F w v):Frz S F w w':=h.ext k
theorem Frz.bC (k:Chg (fun b=> ¬F b) v w') (h:Frz S F w v):Frz S F w w':=h.fz k
theorem Frz.bW (k: ∀b,G b→F b) (h:Frz S G w w'):Frz S F w w':=h.wid k
theorem Frz.bF (k:Frz G F v w') (h:Frz S G w v):Frz S F w w':=⟨h.chg.step k.chg (fun b _ hn hf=>hn (h.sub b hf)),fun b hb=>k.sub b (h.sub b hb)⟩
theorem sub_tr {S F G:Nat→Prop} (k: ∀b,G b→F b) (h: ∀b,S b→G b): ∀b,S b→F b:=fun b x=>k b (h b x)
theorem Frz.at0 (h: ∀b,S b→F b:=by repeat (first|exact fun _ h=>h|(apply sub_tr;assumption))):Frz S F w w:=⟨Chg.refl _ _,h⟩
theorem mv (h:Frz S F w w':=by repeat (first|exact Frz.start _ _|exact Frz.at0|(apply Frz.bE;assumption)|(apply Frz.bC;assumption)|(apply Frz.bF;assumption)|(apply Frz.bW;assumption))):Frz S F w w':=h
theorem Chg.zz {K:Nat→Prop} (h:Chg K v w) (hk: ∀b,K b→¬F b):Chg (fun b=> ¬F b) v w:=h.weak (fun b _ x=>hk b x)
theorem Chg.bE (k:Ext v w') (h:Ext w v):Ext w w':=h.trans k
theorem me (h:Ext w w':=by repeat (first|exact Chg.refl _ _|assumption|(apply Chg.bE;assumption))):Ext w w':=h
theorem GS.to {α:Type} {r:Rep α} {A:Option Addr} {c:Nat} {l:List α} (h:GS r S w A c l) (f:Frz S F w w':=by exact mv):GS r F w' A c l:=(h.fz f.chg).wid f.sub
theorem AtF.to {a:Addr} {cs:List Value} (h:AtF S w a cs) (f:Frz S F w w':=by exact mv):AtF F w' a cs:=(h.fz f.chg).wid f.sub
theorem RF.to {α:Type} {r:Rep α} {rows:List (List Value)} {l:List α} (h:RF r S w rows l) (f:Frz S F w w':=by exact mv):RF r F w' rows l:=(h.fz f.chg).wid f.sub
theorem MutF.to {g:Nat} (h:MutF S w g) (f:Frz S F w w':=by exact mv):MutF F w' g:=(h.fz f.chg).wid f.sub
theorem AtF.bE {a:Addr} {cs:List Value} (k:Ext v w) (h:AtF S v a cs):AtF S w a cs:=h.ext k
theorem AtF.bC {a:Addr} {cs:List Value} (k:Chg (fun b=> ¬S b) v w) (h:AtF S v a cs):AtF S w a cs:=h.fz k
theorem AtF.bF {a:Addr} {cs:List Value} (k:Frz G S v w) (h:AtF G v a cs):AtF S w a cs:=(h.fz k.chg).wid k.sub
theorem AtF.bW {a:Addr} {cs:List Value} (k: ∀b,G b→S b) (h:AtF G w a cs):AtF S w a cs:=h.wid k
theorem ma {a:Addr} {cs:List Value} (h:AtF S w a cs:=by repeat (first|assumption|(apply AtF.bE;assumption)|(apply AtF.bC;assumption)|(apply AtF.bF;assumption)|(apply AtF.bW;assumption))):AtF S w a cs:=h
end
theorem GS.tn {S F:Nat→Prop} {w w':World} {α:Type} {r:Rep α} {A:Option Addr} {c:Nat} {l:List α} (h:GS r S w A c l) (f:Frz (fun b=>b<w.heap.size) F w w':=by exact mv):GS r F w' A c l:=h.now.to f
theorem rdTo {S F:Nat→Prop} {w w':World} {α:Type} {r:Rep α} {cs:List Value} {x:α} (h:r.rd S w cs x) (f:Frz S F w w':=by exact mv):r.rd F w' cs x:=r.mono (fun b _ h=>f.sub b h) (r.keep f.chg (fun _ _ hs hn=>hn hs) h)
theorem rdTn {S F:Nat→Prop} {w w':World} {α:Type} {r:Rep α} {cs:List Value} {x:α} (h:r.rd S w cs x) (f:Frz (fun b=>b<w.heap.size) F w w':=by exact mv):r.rd F w' cs x:=rdTo (r.mono (fun _ hb _=>hb) h) f
theorem HP.nz {w0 w:World} {M0 Fz:Nat→Prop} {H H':List It} (h:HP w0 M0 Fz w H) (e:H=H':=by simp only [List.nil_append,List.cons_append,List.append_assoc,List.append_nil]<;>rfl):HP w0 M0 Fz w H':=h.as_ e
theorem bt0 {p:Prop} [Decidable p] (h:p:=by assumption):decide p=true:=decide_eq_true h
theorem bf0 {p:Prop} [Decidable p] (h: ¬p:=by assumption):decide p=false:=decide_eq_false h
theorem bt {p:Prop} [Decidable p] (h:p:=by first|assumption|omega|(simp_all<;>fail)):decide p=true:=decide_eq_true h
theorem bf {p:Prop} [Decidable p] (h: ¬p:=by first|assumption|omega|(simp_all<;>fail)):decide p=false:=decide_eq_false h
section
variable {P:Program} {n:Nat} {L:List (Nat×Value)} {w w0:World} {M0 Fz:Nat→Prop} {H:List It} {Q:Exit→Act→World→Prop} {ops:Array Oper} {rest:List Oper} {ty:TypeId} {pos:String} {af:Array Edge} {d:Nat}
theorem aFd {s f off g o o' : Nat} {x : Operand} [c : FldC P s f off] (hd : d < n) (hx : ev L x = some (.pointer (some ⟨g, o, none⟩))) (ho : o + off = o') (h : WL P n ops Q rest ((d, .pointer (some ⟨g, o', none⟩)) :: L) w) :
  WL P n ops Q ({dst:=some d,op:= .fieldAddr s x f,type:=ty,pos:=pos,after:=af,guard:=none}::rest) L w:=wl_fld' hd c.h hx ho h
theorem aFf {s f off k k' : Nat} {x : Operand} {p : Addr} {S : Nat → Prop} {v : World} {cs : List Value} [c : FldC P s f off] (hd : d < n) (hx : ev L x = some (.pointer (some (p.add k)))) (_ : AtF S v p cs) (ho : k + off = k') (h : WL P n ops Q rest ((d, .pointer (some (p.add k'))) :: L) w) :
  WL P n ops Q ({dst:=some d,op:= .fieldAddr s x f,type:=ty,pos:=pos,after:=af,guard:=none}::rest) L w:=wl_fld hd c.h hx (by rw [add_add',ho];exact h)
theorem aFe {s f off : Nat} {x : Operand} {p : Addr} [c : FldC P s f off] (hd : d < n) (hx : ev L x = some (.pointer (some p))) (h : WL P n ops Q rest ((d, .pointer (some (p.add off))) :: L) w) :
  WL P n ops Q ({dst:=some d,op:= .fieldAddr s x f,type:=ty,pos:=pos,after:=af,guard:=none}::rest) L w:=wl_fld hd c.h hx h
theorem aLd {t e g o i : Nat} {cs : List Value} {x : Operand} {v : Value} [c : ScC P t] (hd : d < n) (hx : ev L x = some (.pointer (some ⟨g, o, none⟩))) (hp : HP w0 M0 Fz w H) (hi : Fnd H g i e cs) (hv : cs[o]? = some v) (h : WL P n ops Q rest ((d, v) :: L) w) :
  WL P n ops Q ({dst:=some d,op:= .load t x,type:=ty,pos:=pos,after:=af,guard:=none}::rest) L w:=wl_hload hd c.h hx hp hi.h hv h
theorem aLp {t:TypeId} {x:Operand} (h:WL P n ops Q ({dst:=some d,op:= .load t x,type:=ty,pos:=pos,after:=af,guard:=none}::rest) L w):WL P n ops Q ({dst:=some d,op:= .load t x,type:=ty,pos:=pos,after:=af,guard:=none}::rest) L w:=h
theorem aLh (i : Nat) {t e g o : Nat} {cs : List Value} {x : Operand} {v : Value} [c : ScC P t] (hd : d < n) (hx : ev L x = some (.pointer (some ⟨g, o, none⟩))) (hp : HP w0 M0 Fz w H) (hi : H[i]? = some (itB g e cs)) (hv : cs[o]? = some v) (h : WL P n ops Q rest ((d, v) :: L) w) :
  WL P n ops Q ({dst:=some d,op:= .load t x,type:=ty,pos:=pos,after:=af,guard:=none}::rest) L w:=wl_hload hd c.h hx hp hi hv h
theorem aLe {t k : Nat} {cs : List Value} {S : Nat → Prop} {x : Operand} {v : Value} {p : Addr} [c : ScC P t] (hd : d < n) (hx : ev L x = some (.pointer (some (p.add k)))) (hat : AtF S w p cs) (hv : cs[k]? = some v) (h : WL P n ops Q rest ((d, v) :: L) w) :
  WL P n ops Q ({dst:=some d,op:= .load t x,type:=ty,pos:=pos,after:=af,guard:=none}::rest) L w:=wl_load hd c.h hx (hat.get hv) h
theorem aL0 {t : Nat} {cs : List Value} {S : Nat → Prop} {x : Operand} {v : Value} {p : Addr} [c : ScC P t] (hd : d < n) (hx : ev L x = some (.pointer (some p))) (hat : AtF S w p (v :: cs)) (h : WL P n ops Q rest ((d, v) :: L) w) :
  WL P n ops Q ({dst:=some d,op:= .load t x,type:=ty,pos:=pos,after:=af,guard:=none}::rest) L w:=wl_load hd c.h hx hat.head h
theorem aLf {t k : Nat} {cs : List Value} {x : Operand} {v : Value} {p : Addr} [c : ScC P t] (hd : d < n) (hx : ev L x = some (.pointer (some (p.add k)))) (hat : At w p cs) (hv : cs[k]? = some v) (h : WL P n ops Q rest ((d, v) :: L) w) :
  WL P n ops Q ({dst:=some d,op:= .load t x,type:=ty,pos:=pos,after:=af,guard:=none}::rest) L w:=wl_load hd c.h hx (hat.get hv) h
theorem aLg {t : Nat} {cs : List Value} {x : Operand} {v : Value} {p : Addr} [c : ScC P t] (hd : d < n) (hx : ev L x = some (.pointer (some p))) (hat : At w p (v :: cs)) (h : WL P n ops Q rest ((d, v) :: L) w) :
  WL P n ops Q ({dst:=some d,op:= .load t x,type:=ty,pos:=pos,after:=af,guard:=none}::rest) L w:=wl_load hd c.h hx hat.head h
theorem aLX {t e g i k : Nat} {cs : List Value} {x : Operand} [c : AgC P t k] (hd : d < n) (hx : ev L x = some (.pointer (some ⟨g, 0, none⟩))) (hp : HP w0 M0 Fz w H) (hi : Fnd H g i e cs) (hl : cs.length = k) (h : WL P n ops Q rest ((d, .agg cs.toArray) :: L) w) :
  WL P n ops Q ({dst:=some d,op:= .load t x,type:=ty,pos:=pos,after:=af,guard:=none}::rest) L w:=wl_hloadX cs hd c.h hx hp hi.h hl (by subst hl;rw [List.drop_zero,List.take_length]) h
theorem aLY {t e g i k o : Nat} {cs xs : List Value} {x : Operand} [c : AgC P t k] (hd : d < n) (hx : ev L x = some (.pointer (some ⟨g, o, none⟩))) (hp : HP w0 M0 Fz w H) (hi : Fnd H g i e cs) (hs : Sub cs o k xs) (hl : xs.length = k) (h : WL P n ops Q rest ((d, .agg xs.toArray) :: L) w) :
  WL P n ops Q ({dst:=some d,op:= .load t x,type:=ty,pos:=pos,after:=af,guard:=none}::rest) L w:=wl_hloadX xs hd c.h hx hp hi.h hl hs.h h
theorem aLA {t k : Nat} {cs : List Value} {S : Nat → Prop} {x : Operand} {p : Addr} [c : AgC P t k] (hd : d < n) (hx : ev L x = some (.pointer (some p))) (hat : AtF S w p cs) (hl : cs.length = k) (h : WL P n ops Q rest ((d, .agg cs.toArray) :: L) w) :
  WL P n ops Q ({dst:=some d,op:= .load t x,type:=ty,pos:=pos,after:=af,guard:=none}::rest) L w:=wl_loadA hd c.h hx hat.at_ hl h
theorem aLn {x : Operand} {A : Option Addr} {k c t : Nat} {e : TypeId} [i : UlC P t e] (hd : d < n) (hx : ev L x = some (.slice A k c)) (h : WL P n ops Q rest ((d, .int .i64 (k : Int)) :: L) w) :
  WL P n ops Q ({dst:=some d,op:= .call {callee:= .builtin .len,args:= #[x],argTypes:= #[t]},type:=ty,pos:=pos,after:=af,guard:=none}::rest) L w:=wl_len hd i.h hx h
theorem aIx {A : Option Addr} {a : Addr} {c t e size bytes m : Nat} {x ix : Operand} {k : IntKind} {i : Int} {j : Nat} [s : SlC P t e size bytes] (hd : d < n) (hx : ev L x = some (.slice A m c)) (hi : ev L ix = some (.int k i)) (hA : A = some a) (hj : i = (j : Int)) (hlt : j < m)
  (h:WL P n ops Q rest ((d, .pointer (some (a.add (j*size))))::L) w):
  WL P n ops Q ({dst:=some d,op:= .indexAddr t x ix,type:=ty,pos:=pos,after:=af,guard:=none}::rest) L w:=wl_idx0 hd s.h hx hi hA j hj hlt h
theorem aMf {f : Fn} {first cap : List Operand} {vs us : List Value} (hd : d < n) (hv : evs L first = some vs) (hu : evs L cap = some us) (h : WL P n ops Q rest ((d, .func f vs.toArray us.toArray) :: L) w) :
  WL P n ops Q ({dst:=some d,op:= .makeFunc f first.toArray cap.toArray,type:=ty,pos:=pos,after:=af,guard:=none}::rest) L w:=wl_makeFunc hd hv hu h
theorem aNm {t : TypeId} {name : String} {f : FuncId} {x : Operand} {v0 : Value} (hd : d < n) (hx : ev L x = some (.func (.method name) [Value.iface t v0].toArray ([] : List Value).toArray)) (c : MtC P t name f) (h : WL P n ops Q rest ((d, .func (.method name) [Value.iface t v0].toArray ([] : List Value).toArray) :: L) w) :
  WL P n ops Q ({dst:=some d,op:= .nilCheck x,type:=ty,pos:=pos,after:=af,guard:=none}::rest) L w:=wl_nilCheckM hd c.h hx h
theorem aFv {s f off : Nat} {x : Operand} {cs : List Value} {v : Value} [c : FvC P s f off] (hd : d < n) (hx : ev L x = some (.agg cs.toArray)) (hv : cs[off]? = some v) (h : WL P n ops Q rest ((d, v) :: L) w) :
  WL P n ops Q ({dst:=some d,op:= .field s x f,type:=ty,pos:=pos,after:=af,guard:=none}::rest) L w:=wl_fieldV hd c.h hx (by simpa using hv) h
theorem aGy {op : Op} {dst : Option Nat} {j dj : Nat} {want b : Bool} (hj : ((ops[j]?).bind (·.dst)) = some dj) (hv : lk L dj = some (.bool b)) (hb : b = want) (h : WL P n ops Q ({ dst := dst, op := op, type := ty, pos := pos, after := af, guard := none } :: rest) L w) :
  WL P n ops Q ({dst:=dst,op:=op,type:=ty,pos:=pos,after:=af,guard:=some (j,want)}::rest) L w:=wl_gyes hj (by rw [hv,hb]) h
theorem aGn {op : Op} {j dj : Nat} {want b : Bool} (hd : d < n) (hj : ((ops[j]?).bind (·.dst)) = some dj) (hv : lk L dj = some (.bool b)) (hb : b = !want) (h : WL P n ops Q rest ((d, undef) :: L) w) :
  WL P n ops Q ({dst:=some d,op:=op,type:=ty,pos:=pos,after:=af,guard:=some (j,want)}::rest) L w:=wl_gno hd hj hv (.inl (by rw [hb])) h
theorem aPt {c x y : Operand} {b : Bool} {v : Value} (hd : d < n) (hc : ev L c = some (.bool b)) (hb : b = true) (hv : ev L x = some v) (h : WL P n ops Q rest ((d, v) :: L) w) :
  WL P n ops Q ({dst:=some d,op:= .pick c x y,type:=ty,pos:=pos,after:=af,guard:=none}::rest) L w:=wl_pick hd hc (by rw [hb];exact hv) h
theorem aPf {c x y : Operand} {b : Bool} {v : Value} (hd : d < n) (hc : ev L c = some (.bool b)) (hb : b = false) (hv : ev L y = some v) (h : WL P n ops Q rest ((d, v) :: L) w) :
  WL P n ops Q ({dst:=some d,op:= .pick c x y,type:=ty,pos:=pos,after:=af,guard:=none}::rest) L w:=wl_pick hd hc (by rw [hb];exact hv) h
theorem aCt {c:Operand} {x y:Code} {b:Bool} (hc:ev L c=some (.bool b)) (hb:b=true) (ht:WK n (x.wp P Q) L w):WK n ((Code.cond c x y).wp P Q) L w:=wc_cond_t (by rw [hc,hb]) ht
theorem aCf {c:Operand} {x y:Code} {b:Bool} (hc:ev L c=some (.bool b)) (hb:b=false) (hf:WK n (y.wp P Q) L w):WK n ((Code.cond c x y).wp P Q) L w:=wc_cond_f (by rw [hc,hb]) hf
end
theorem wcRegA {P:Program} {n:Nat} {L:List (Nat×Value)} {w:World} {Q:Exit→Act→World→Prop} {id:Nat} {l1 l2 l':List Oper} (hl:List.append l1 l2=l') (h:WL P n l'.toArray Q l' L w):WK n ((Code.region id (List.append l1 l2).toArray false).wp P Q) L w:=by subst hl;exact wc_region h
theorem ix0:(0:Int)=((0:Nat):Int):=rfl
theorem ix1:(1:Int)=((1:Nat):Int):=rfl
theorem ix2:(2:Int)=((2:Nat):Int):=rfl
theorem ix3:(3:Int)=((3:Nat):Int):=rfl
theorem st {G R:Prop} (r:R) (s:Hid R→G:=by
  intro r
  first
   |((with_reducible refine wl_move (v:= ?_) ?_ ?_ ?_);rotate_left;decide;rfl)
   |((with_reducible refine wl_assign (v:= ?_) ?_ ?_ ?_);rotate_left;decide;rfl)
   |((with_reducible refine aFd (g:= ?_) (o:= ?_) (o':= ?_) ?_ ?_ ?_ ?_);rotate_left 3;decide;rfl;(first|(simp only [Nat.reduceAdd,Nat.zero_add,Nat.add_zero]<;>rfl)|rfl))
   |((with_reducible refine aFf (p:= ?_) (k:= ?_) (k':= ?_) (S:= ?_) (v:= ?_) (cs:= ?_) ?_ ?_ ?_ ?_ ?_);rotate_left 6;decide;rfl;assumption;(first|(simp only [Nat.reduceAdd,Nat.zero_add,Nat.add_zero]<;>rfl)|rfl))
   |((with_reducible refine aFe (p:= ?_) ?_ ?_ ?_);rotate_left;decide;rfl)
   |((with_reducible refine aLd (g:= ?_) (o:= ?_) (i:= ?_) (e:= ?_) (cs:= ?_) (v:= ?_) (w0:= ?_) (M0:= ?_) (Fz:= ?_) (H:= ?_) ?_ ?_ ?_ ?_ ?_ ?_);rotate_left 10;decide;rfl;assumption;exact inferInstance;rfl)
   |((with_reducible refine aLX (g:= ?_) (i:= ?_) (e:= ?_) (cs:= ?_) (w0:= ?_) (M0:= ?_) (Fz:= ?_) (H:= ?_) ?_ ?_ ?_ ?_ ?_ ?_);rotate_left 8;decide;rfl;assumption;exact inferInstance;rfl)
   |((with_reducible refine aLY (g:= ?_) (o:= ?_) (i:= ?_) (e:= ?_) (cs:= ?_) (xs:= ?_) (w0:= ?_) (M0:= ?_) (Fz:= ?_) (H:= ?_) ?_ ?_ ?_ ?_ ?_ ?_ ?_);rotate_left 10;decide;rfl;assumption;exact inferInstance;exact inferInstance;rfl)
   |((with_reducible refine aLp ?_);first|refine aLh 0 (by decide) rfl hp rfl rfl ?_|refine aLh 1 (by decide) rfl hp rfl rfl ?_|refine aLh 2 (by decide) rfl hp rfl rfl ?_|refine aLh 3 (by decide) rfl hp rfl rfl ?_|refine aLh 4 (by decide) rfl hp rfl rfl ?_)
   |((with_reducible refine aLf (p:= ?_) (k:= ?_) (cs:= ?_) (v:= ?_) ?_ ?_ ?_ ?_ ?_);rotate_left 4;decide;rfl;assumption;rfl)
   |((with_reducible refine aLg (p:= ?_) (cs:= ?_) (v:= ?_) ?_ ?_ ?_ ?_);rotate_left 3;decide;rfl;assumption)
   |((with_reducible refine aLe (p:= ?_) (k:= ?_) (cs:= ?_) (S:= ?_) (v:= ?_) ?_ ?_ ?_ ?_ ?_);rotate_left 5;decide;rfl;exact ma;rfl)
   |((with_reducible refine aL0 (p:= ?_) (cs:= ?_) (S:= ?_) (v:= ?_) ?_ ?_ ?_ ?_);rotate_left 4;decide;rfl;exact ma)
   |((with_reducible refine aLA (p:= ?_) (cs:= ?_) (S:= ?_) ?_ ?_ ?_ ?_ ?_);rotate_left 3;decide;rfl;exact ma;rfl)
   |((with_reducible refine wl_eql (a:= ?_) (b:= ?_) (k:= ?_) ?_ ?_ ?_ ?_);rotate_left 3;decide;rfl;rfl)
   |((with_reducible refine wl_neq (a:= ?_) (b:= ?_) (k:= ?_) ?_ ?_ ?_ ?_);rotate_left 3;decide;rfl;rfl)
   |((with_reducible refine wl_lss (a:= ?_) (b:= ?_) (k:= ?_) ?_ ?_ ?_ ?_);rotate_left 3;decide;rfl;rfl)
   |((with_reducible refine wl_leq (a:= ?_) (b:= ?_) (k:= ?_) ?_ ?_ ?_ ?_);rotate_left 3;decide;rfl;rfl)
   |((with_reducible refine wl_gtr (a:= ?_) (b:= ?_) (k:= ?_) ?_ ?_ ?_ ?_);rotate_left 3;decide;rfl;rfl)
   |((with_reducible refine wl_geq (a:= ?_) (b:= ?_) (k:= ?_) ?_ ?_ ?_ ?_);rotate_left 3;decide;rfl;rfl)
   |((with_reducible refine aLn (A:= ?_) (k:= ?_) (c:= ?_) ?_ ?_ ?_);rotate_left 3;decide;rfl)
   |((with_reducible refine wl_nilCheck (p:= ?_) ?_ ?_ ?_);rotate_left;decide;rfl)
   |((with_reducible refine wl_extract (vs:= ?_) (v:= ?_) ?_ ?_ ?_ ?_);rotate_left 2;decide;rfl;rfl)
   |((with_reducible refine wl_pick (b:= ?_) (v:= ?_) ?_ ?_ ?_ ?_);rotate_left 2;decide;rfl;rfl)
   |((with_reducible refine aFv (cs:= ?_) (v:= ?_) ?_ ?_ ?_ ?_);rotate_left 2;decide;rfl;rfl)
   |((with_reducible refine wl_gno (dj:= ?_) (u:= ?_) ?_ ?_ ?_ ?_ ?_);rotate_left 2;decide;rfl;rfl;first|exact .inl rfl|exact .inr rfl)
   |((with_reducible refine wl_gyes (dj:= ?_) ?_ ?_ ?_);rotate_left;rfl;rfl)
   |(refine wl_notd (by decide) rfl ?_)
   |((with_reducible refine wl_not (b:= ?_) ?_ ?_ ?_);rotate_left;decide;rfl)
   |((with_reducible refine aIx (A:= ?_) (m:= ?_) (c:= ?_) (k:= ?_) (i:= ?_) (a:= ?_) (j:= ?_) ?_ ?_ ?_ ?_ ?_ ?_ ?_);rotate_left 7;decide;rfl;rfl;assumption;(first|exact ix0|exact ix1|exact ix2|exact ix3|rfl);first|omega|decide)
   |((with_reducible refine aNm (t:= ?_) (name:= ?_) (f:= ?_) (v0:= ?_) ?_ ?_ ?_ ?_);rotate_left 4;decide;rfl;exact inferInstance)
   |(refine aMf (by decide) rfl rfl ?_)
   |(refine wl_add (by decide) rfl rfl (w64 (by omega) (by omega)) ?_)
   |(refine wl_sub (by decide) rfl rfl (w64 (by omega) (by omega)) ?_)
   |((with_reducible show WL _ _ _ _ _ _ _);first|refine wl_move (by decide) rfl ?_|refine wl_assign (by decide) rfl ?_|refine wl_gno (by decide) rfl rfl (.inl rfl) ?_|refine wl_gno (by decide) rfl rfl (.inr rfl) ?_|refine wl_gyes rfl rfl ?_|refine wl_pick (by decide) rfl rfl ?_|refine wl_extract (by decide) rfl rfl ?_|refine wl_nilCheck (by decide) rfl ?_)
  exact r.1):G:=s ⟨r⟩
theorem su {G R:Prop} (r:R) (s:Hid R→G:=by
  intro r
  first
   |(refine st ?_;exact r.1)
   |((with_reducible refine aPt (b:= ?_) (v:= ?_) ?_ ?_ ?_ ?_ ?_);rotate_left 2;decide;rfl;exact bt0;rfl;exact r.1)
   |((with_reducible refine aPf (b:= ?_) (v:= ?_) ?_ ?_ ?_ ?_ ?_);rotate_left 2;decide;rfl;exact bf0;rfl;exact r.1)
   |((with_reducible refine aPt (b:= ?_) (v:= ?_) ?_ ?_ ?_ ?_ ?_);rotate_left 2;decide;rfl;exact bt;rfl;exact r.1)
   |((with_reducible refine aPf (b:= ?_) (v:= ?_) ?_ ?_ ?_ ?_ ?_);rotate_left 2;decide;rfl;exact bf;rfl;exact r.1)):G:=s ⟨r⟩
theorem sp {G R:Prop} (r:R) (s:Hid R→G:=by
  intro r
  first
   |(refine st ?_;exact r.1)
   |(refine st ?_;refine st ?_;exact r.1)
   |((with_reducible refine aGn (dj:= ?_) (b:= ?_) ?_ ?_ ?_ ?_ ?_);rotate_left 2;decide;rfl;rfl;(first|exact bf0|exact bt0);exact r.1)
   |((with_reducible refine aGy (dj:= ?_) (b:= ?_) ?_ ?_ ?_ ?_);rotate_left 2;rfl;rfl;(first|exact bt0|exact bf0);refine su ?_;exact r.1)
   |((with_reducible refine aPt (b:= ?_) (v:= ?_) ?_ ?_ ?_ ?_ ?_);rotate_left 2;decide;rfl;exact bt0;rfl;exact r.1)
   |((with_reducible refine aPf (b:= ?_) (v:= ?_) ?_ ?_ ?_ ?_ ?_);rotate_left 2;decide;rfl;exact bf0;rfl;exact r.1)
   |((with_reducible refine aGn (dj:= ?_) (b:= ?_) ?_ ?_ ?_ ?_ ?_);rotate_left 2;decide;rfl;rfl;(first|exact bf|exact bt);exact r.1)
   |((with_reducible refine aGy (dj:= ?_) (b:= ?_) ?_ ?_ ?_ ?_);rotate_left 2;rfl;rfl;(first|exact bt|exact bf);refine su ?_;exact r.1)
   |((with_reducible refine aPt (b:= ?_) (v:= ?_) ?_ ?_ ?_ ?_ ?_);rotate_left 2;decide;rfl;exact bt;rfl;exact r.1)
   |((with_reducible refine aPf (b:= ?_) (v:= ?_) ?_ ?_ ?_ ?_ ?_);rotate_left 2;decide;rfl;exact bf;rfl;exact r.1)):G:=s ⟨r⟩
theorem so {G R:Prop} (r:R) (s:Hid R→G:=by
  intro r
  repeat (first
   |refine st ?_
   |with_reducible refine wl_nil ?_
   |with_reducible refine wk_norm ?_
   |with_reducible refine wc_seq ?_
   |((with_reducible refine wcRegA (l':= ?_) ?_ ?_);rotate_left;(simp only [List.append_eq,List.cons_append,List.nil_append]<;>rfl))
   |with_reducible refine wc_region ?_
   |with_reducible refine wk_then_exit ?_
   |with_reducible refine wk_blk_exit ?_
   |((with_reducible refine wk_blk_exit_ne ?_ ?_);decide)
   |with_reducible refine wk_then_ret ?_
   |with_reducible refine wk_blk_ret ?_
   |with_reducible refine wk_blk_norm ?_
   |with_reducible refine wc_skip ?_
   |with_reducible refine wc_ret ?_
   |with_reducible refine wc_exit ?_
   |with_reducible refine wc_block ?_
   |((with_reducible show WL _ _ _ _ _ _ _);refine wl_nil ?_)
   |refine wc_seq ?_|refine wc_region ?_)
  exact r.1):G:=s ⟨r⟩
theorem sl {G R:Prop} (r:R) (s:Hid R→G:=by
  intro r
  repeat (first
   |refine st ?_
   |with_reducible refine wl_nil ?_
   |with_reducible refine wk_norm ?_
   |with_reducible refine wk_then_exit ?_
   |with_reducible refine wk_blk_exit ?_
   |((with_reducible refine wk_blk_exit_ne ?_ ?_);decide)
   |with_reducible refine wk_then_ret ?_
   |with_reducible refine wk_blk_ret ?_
   |with_reducible refine wk_blk_norm ?_
   |with_reducible refine wc_skip ?_
   |with_reducible refine wc_ret ?_
   |with_reducible refine wc_exit ?_
   |((with_reducible show WL _ _ _ _ _ _ _);refine wl_nil ?_))
  exact r.1):G:=s ⟨r⟩
theorem pl {G:Prop} (s:G:=by
  repeat (first|exact PL.nil|(apply PL.op;rfl;exact sp (wl_nil qp)))):G:=s
theorem pm {G R:Prop} (r:R) (s:Hid R→G:=by
  intro r
  repeat (apply PL.op;rfl;exact sp (wl_nil qp))
  exact r.1):G:=s ⟨r⟩
section
variable {P:Program} {n:Nat} {L L':List (Nat×Value)} {w w0:World} {M0 Fz:Nat→Prop} {H:List It} {Q:Exit→Act→World→Prop}
theorem wdP (m : Nat) {id : Nat} {l : List Oper} (hp : HP w0 M0 Fz w H) (H1 : ∀ w', HP w0 M0 Fz w' H → Ext w w' → PL P n l.toArray w' (l.take m) L L') (H2 : ∀ w', HP w0 M0 Fz w' H → Ext w w' → WL P n l.toArray Q (l.drop m) L' w')
  (hm:P.follows .mixedOrders=true:=by kernel_rfl) (hB:seqB l m n=true:=by kernel_rfl):WK n ((Code.region id l.toArray true).wp P Q) L w:=wc_seq_draw m hm hB (fun w' e=>H1 w' (hp.ext e) e) fun w' e=>H2 w' (hp.ext e) e
theorem wdE (m : Nat) {id : Nat} {l : List Oper} (H1 : ∀ w', Ext w w' → PL P n l.toArray w' (l.take m) L L') (H2 : ∀ w', Ext w w' → WL P n l.toArray Q (l.drop m) L' w')
  (hm:P.follows .mixedOrders=true:=by kernel_rfl) (hB:seqB l m n=true:=by kernel_rfl):WK n ((Code.region id l.toArray true).wp P Q) L w:=wc_seq_draw m hm hB H1 H2
end
section
variable {P:Program} {n:Nat} {L L':List (Nat×Value)} {w:World} {ops:Array Oper} {rest:List Oper} {ty:TypeId} {pos:String} {af:Array Edge} {d:Nat} {f:FuncId} {xs:List Operand} {vs:List Value} {u:Value} {ts:Array TypeId}
theorem PLe [c : ClC P f] (hc : Ret P f vs.toArray w (fun v w' => v = u ∧ Ext w w')) (hx : evs L xs = some vs := by rfl) (hd : d < n := by decide) (h : PL P n ops w rest ((d, u) :: L) L') :
  PL P n ops w ({dst:=some d,op:= .call {callee:= .value (.func f),args:=xs.toArray,argTypes:=ts},type:=ty,pos:=pos,after:=af,guard:=none}::rest) L L':= .op rfl (wl_call hd c.h hx hc (by rintro _ w' ⟨rfl,hE⟩;exact wl_nil (qpe hE))) h
theorem PLs [c : ClC P f] (hc : Ret P f vs.toArray w (fun v w' => v = u ∧ w' = w)) (hx : evs L xs = some vs := by rfl) (hd : d < n := by decide) (h : PL P n ops w rest ((d, u) :: L) L') :
  PL P n ops w ({dst:=some d,op:= .call {callee:= .value (.func f),args:=xs.toArray,argTypes:=ts},type:=ty,pos:=pos,after:=af,guard:=none}::rest) L L':= .op rfl (wl_call hd c.h hx hc (by rintro _ _ ⟨rfl,rfl⟩;exact wl_nil qp)) h
theorem PLeg {j dj : Nat} {want b : Bool} [c : ClC P f] (hc : Ret P f vs.toArray w (fun v w' => v = u ∧ Ext w w')) (hx : evs L xs = some vs := by rfl) (hd : d < n := by decide) (hj : ((ops[j]?).bind (·.dst)) = some dj := by rfl) (hv : lk L dj = some (.bool b) := by rfl) (hb : b = want := by first | rfl | exact bt | exact bf) (h : PL P n ops w rest ((d, u) :: L) L') :
  PL P n ops w ({dst:=some d,op:= .call {callee:= .value (.func f),args:=xs.toArray,argTypes:=ts},type:=ty,pos:=pos,after:=af,guard:=some (j,want)}::rest) L L':= .op rfl (aGy hj hv hb (wl_call hd c.h hx hc (by rintro _ w' ⟨rfl,hE⟩;exact wl_nil (qpe hE)))) h
theorem PLsg {j dj : Nat} {want b : Bool} [c : ClC P f] (hc : Ret P f vs.toArray w (fun v w' => v = u ∧ w' = w)) (hx : evs L xs = some vs := by rfl) (hd : d < n := by decide) (hj : ((ops[j]?).bind (·.dst)) = some dj := by rfl) (hv : lk L dj = some (.bool b) := by rfl) (hb : b = want := by first | rfl | exact bt | exact bf) (h : PL P n ops w rest ((d, u) :: L) L') :
  PL P n ops w ({dst:=some d,op:= .call {callee:= .value (.func f),args:=xs.toArray,argTypes:=ts},type:=ty,pos:=pos,after:=af,guard:=some (j,want)}::rest) L L':= .op rfl (aGy hj hv hb (wl_call hd c.h hx hc (by rintro _ _ ⟨rfl,rfl⟩;exact wl_nil qp))) h
theorem Ce {Q : Exit → Act → World → Prop} {R : Value → World → Prop} [c : ClC P f] (hc : Ret P f vs.toArray w R) (h : ∀ v w', R v w' → WL P n ops Q rest ((d, v) :: L) w') (hx : evs L xs = some vs := by rfl) (hd : d < n := by decide) :
  WL P n ops Q ({dst:=some d,op:= .call {callee:= .value (.func f),args:=xs.toArray,argTypes:=ts},type:=ty,pos:=pos,after:=af,guard:=none}::rest) L w:=wl_call hd c.h hx hc h
theorem Cs {Q : Exit → Act → World → Prop} [c : ClC P f] (hc : Ret P f vs.toArray w (fun v w' => v = u ∧ w' = w)) (h : WL P n ops Q rest ((d, u) :: L) w) (hx : evs L xs = some vs := by rfl) (hd : d < n := by decide) :
  WL P n ops Q ({dst:=some d,op:= .call {callee:= .value (.func f),args:=xs.toArray,argTypes:=ts},type:=ty,pos:=pos,after:=af,guard:=none}::rest) L w:=wl_call hd c.h hx hc (by rintro _ _ ⟨rfl,rfl⟩;exact h)
theorem Cx {Q : Exit → Act → World → Prop} {w0 : World} {M0 Fz : Nat → Prop} {H : List It} [c : ClC P f] (hp : HP w0 M0 Fz w H) (hc : Ret P f vs.toArray w (fun v w' => v = u ∧ Ext w w')) (h : ∀ w', HP w0 M0 Fz w' H → Ext w w' → WL P n ops Q rest ((d, u) :: L) w') (hx : evs L xs = some vs := by rfl) (hd : d < n := by decide) :
  WL P n ops Q ({dst:=some d,op:= .call {callee:= .value (.func f),args:=xs.toArray,argTypes:=ts},type:=ty,pos:=pos,after:=af,guard:=none}::rest) L w:=wl_call hd c.h hx hc (by rintro _ w' ⟨rfl,hE⟩;exact h w' (hp.ext hE) hE)
theorem Cy {Q : Exit → Act → World → Prop} [c : ClC P f] (hc : Ret P f vs.toArray w (fun v w' => v = u ∧ Ext w w')) (h : ∀ w', Ext w w' → WL P n ops Q rest ((d, u) :: L) w') (hx : evs L xs = some vs := by rfl) (hd : d < n := by decide) :
  WL P n ops Q ({dst:=some d,op:= .call {callee:= .value (.func f),args:=xs.toArray,argTypes:=ts},type:=ty,pos:=pos,after:=af,guard:=none}::rest) L w:=wl_call hd c.h hx hc (by rintro _ w' ⟨rfl,hE⟩;exact h w' hE)
theorem Ci {Q : Exit → Act → World → Prop} {R : Value → World → Prop} {t : TypeId} {name : String} {x : Operand} {v0 : Value} [c : MtC P t name f] (hx0 : ev L x = some (.iface t v0)) (hc : Ret P f (v0 :: vs).toArray w R) (h : ∀ v w', R v w' → WL P n ops Q rest ((d, v) :: L) w') (hx : evs L xs = some vs := by rfl) (hd : d < n := by decide) :
  WL P n ops Q ({dst:=some d,op:= .call {callee:= .invoke x name,args:=xs.toArray,argTypes:=ts},type:=ty,pos:=pos,after:=af,guard:=none}::rest) L w:=wl_invoke hd c.h hx0 hx hc h
class StC (H:List It) (i:Nat) (x:It) (H':outParam (List It)):Prop where h:H.set i x=H'
instance {y x:It} {H:List It}:StC (y::H) 0 x (x::H):=⟨rfl⟩
instance {y x:It} {H H':List It} {i:Nat} [k:StC H i x H']:StC (y::H) (i+1) x (y::H'):=⟨by rw [List.set_cons_succ,k.h]⟩
instance (priority:=low) {x:It} {H:List It} {i:Nat}:StC H i x (H.set i x):=⟨rfl⟩
class CeV (v:Value) (cs:outParam (List Value)):Prop where h:v.cells.toList=cs
instance {xs:List Value}:CeV (.agg xs.toArray) xs:=⟨rfl⟩
instance (priority:=low) {v:Value}:CeV v v.cells.toList:=⟨rfl⟩
theorem putL_all {cs xs:List Value} (h:xs.length=cs.length):putL cs 0 xs=xs:=by unfold putL;simp [h]
theorem Bx {Q : Exit → Act → World → Prop} {w0 : World} {M0 Fz : Nat → Prop} {H : List It} {e : TypeId} {x : Operand} {v : Value} {cs : List Value} (hp : HP w0 M0 Fz w H) (hx : ev L x = some v := by rfl) (hc : CeV v cs := by exact inferInstance) (hd : d < n := by decide)
  (h: ∀g w',HP w0 M0 Fz w' (itB g e cs::H)→Ext w w'→WL P n ops Q rest ((d, .pointer (some ⟨g,0,none⟩))::L) w'):
  WL P n ops Q ({dst:=some d,op:= .box e x,type:=ty,pos:=pos,after:=af,guard:=none}::rest) L w:=wl_hbox hd hx hp (by rw [hc.h];exact h)
theorem Alo {Q : Exit → Act → World → Prop} {w0 : World} {M0 Fz : Nat → Prop} {H : List It} {e : TypeId} {z : Value} {cs : List Value} [c : ZrC P e z] [k : CeV z cs] (hp : HP w0 M0 Fz w H) (hd : d < n := by decide)
  (h: ∀g w',HP w0 M0 Fz w' (itB g e cs::H)→Ext w w'→WL P n ops Q rest ((d, .pointer (some ⟨g,0,none⟩))::L) w'):
  WL P n ops Q ({dst:=some d,op:= .alloc e,type:=ty,pos:=pos,after:=af,guard:=none}::rest) L w:=wl_halloc hd c.h hp (by rw [k.h];exact h)
theorem Hs {Q : Exit → Act → World → Prop} {w0 : World} {M0 Fz : Nat → Prop} {H : List It} {t e g o k : Nat} {cs ds xs : List Value} {x y : Operand} {v : Value} [c : SzC P t k] (i : Nat) (hp : HP w0 M0 Fz w H) (hx : ev L x = some (.pointer (some ⟨g, o, none⟩)) := by rfl) (hy : ev L y = some v := by rfl) (hi : H[i]? = some (itB g e cs) := by rfl) (hc : CeV v xs := by exact inferInstance) (hk : xs.length = k := by rfl)
  (hl:o+xs.length≤cs.length:=by exact leB_) (h1: ∀u∈xs,u.oneCell'=true:=by exact List.all_eq_true.1 rfl) (hq:putL cs o xs=ds:=by first|exact putL_all rfl|rfl) {H':List It} (hH:StC H i (itB g e ds) H':=by exact inferInstance)
  (h: ∀w',HP w0 M0 Fz w' H'→Chg (fun b=> ¬Fz b) w w'→WL P n ops Q rest L w'):
  WL P n ops Q ({dst:=none,op:= .store t x y,type:=ty,pos:=pos,after:=af,guard:=none}::rest) L w:=by
 have hz:v.cells.size=k:=by rw [←Array.length_toList,hc.h,hk]
 refine wl_hstore hx hy hp hi (by rw [hz];exact c.h) (by rw [hz,←hk];exact hl) (by rw [hc.h];exact h1) ?_
 rw [hc.h,hq,hH.h];exact h
theorem H1 {Q : Exit → Act → World → Prop} {w0 : World} {M0 Fz : Nat → Prop} {H : List It} {t e g o : Nat} {cs : List Value} {x y : Operand} {v : Value} [c : SzC P t 1] (i : Nat) (hp : HP w0 M0 Fz w H) (hx : ev L x = some (.pointer (some ⟨g, o, none⟩)) := by rfl) (hy : ev L y = some v := by rfl) (hi : H[i]? = some (itB g e cs) := by rfl)
  (hl:o<cs.length:=by exact Nat.lt_of_lt_of_le (Nat.lt_succ_self _) leB_) (h1:v.oneCell'=true:=by rfl) {H':List It} (hH:StC H i (itB g e (cs.set o v)) H':=by exact inferInstance)
  (h: ∀w',HP w0 M0 Fz w' H'→Chg (fun b=> ¬Fz b) w w'→WL P n ops Q rest L w'):
  WL P n ops Q ({dst:=none,op:= .store t x y,type:=ty,pos:=pos,after:=af,guard:=none}::rest) L w:=wl_hstore1 hx hy hp hi c.h hl h1 (by rw [hH.h];exact h)
def pk (L : List (Nat × Value)) : List Nat → List (Nat × Value)
 | []=> []
 |i::r=>(i,(lk L i).getD undef)::pk L r
theorem pk_sub {is:List Nat} (h:(is.all fun i=>(lk L i).isSome)=true):subL (pk L is) L:=by
 induction is with
 |nil=>trivial
 | cons i r ih =>
  rw [List.all_cons,Bool.and_eq_true] at h
  refine ⟨?_,ih h.2⟩
  cases e:lk L i with
  |none=>rw [e] at h;exact absurd h.1 (by decide)
  |some v=>rfl
theorem Kd {K:Act→World→Prop} {Φ:List (Nat×Value)→World→Prop} (is:List Nat) (hK: ∀L' w',Φ L' w'→WK n K L' w') (h:Φ (pk L is) w) (hs:(is.all fun i=>(lk L i).isSome)=true:=by rfl):WK n K L w:=wk_drop _ (pk_sub hs) (hK _ _ h)
theorem Kl {K:Act→World→Prop} {Φ:List (Nat×Value)→World→Nat→Prop} {m:Nat} (is:List Nat) (hK: ∀L2 w2 m2,Φ L2 w2 m2→m2<m→WK n K L2 w2) (m2:Nat) (h:Φ (pk L is) w m2) (hm:m2<m) (hs:(is.all fun i=>(lk L i).isSome)=true:=by rfl):WK n K L w:=wk_drop _ (pk_sub hs) (hK _ _ _ h hm)
theorem Lp {Q : Exit → Act → World → Prop} {c : Code} (is : List Nat) (Inv : List (Nat × Value) → World → Nat → Prop) (m0 : Nat) (h0 : Inv (pk L is) w m0) (round : ∀ L' w' m, Inv L' w' m → ∀ K : Act → World → Prop, (∀ L2 w2 m2, Inv L2 w2 m2 → m2 < m → WK n K L2 w2) → WK n (c.wp P (Exit.then K Q)) L' w') (hs : (is.all fun i => (lk L i).isSome) = true := by rfl) :
  WK n ((Code.loop c).wp P Q) L w:=wc_loop Inv (pk L is) m0 h0 (pk_sub hs) round
theorem Pt {fn:Func} {R:Ending→World→Prop} {e:Exit} {t:Nat} {v:Value} (h:R (.returned v) w) (hr:fn.results= #[.tmp t]:=by rfl) (he:e= .ret∨e= .normal:=by first|exact .inl rfl|exact .inr rfl) (hv:lk L t=some v:=by rfl):WK n (bodyPost P fn R e) L w:=wk_post1 he hr hv h
theorem wP (m : Nat) {id : Nat} {l : List Oper} {L' : List (Nat × Value)} {Q : Exit → Act → World → Prop} {w0 : World} {M0 Fz : Nat → Prop} {H : List It} (hp : HP w0 M0 Fz w H) (H1 : ∀ w', HP w0 M0 Fz w' H → Ext w w' → PL P n l.toArray w' (l.take m) L L' := by intro wD hp hED; exact pl) (hm : P.follows .mixedOrders = true := by kernel_rfl) (hB : seqB l m n = true := by kernel_rfl)
  (h: ∀w',HP w0 M0 Fz w' H→Ext w w'→WL P n l.toArray Q (l.drop m) L' w'):WK n ((Code.region id l.toArray true).wp P Q) L w:=wdP m hp H1 h hm hB
theorem aT {Q:Exit→Act→World→Prop} {c:Operand} {x y:Code} {b:Bool} (ht:WK n (x.wp P Q) L w) (hc:ev L c=some (.bool b):=by rfl) (hb:b=true:=by first|rfl|exact bt):WK n ((Code.cond c x y).wp P Q) L w:=aCt hc hb ht
theorem aF {Q:Exit→Act→World→Prop} {c:Operand} {x y:Code} {b:Bool} (hf:WK n (y.wp P Q) L w) (hc:ev L c=some (.bool b):=by rfl) (hb:b=false:=by first|rfl|exact bf):WK n ((Code.cond c x y).wp P Q) L w:=aCf hc hb hf
end
end Go.Eng
namespace Go.Eng
open Go.RowKit
def catE {α:Type} (E:α→List UInt8) (o:List UInt8) (l:List α) (k:Nat):List UInt8:=o++flatE E (l.take k)
theorem catE_s {α:Type} {E:α→List UInt8} {o:List UInt8} {l:List α} {k:Nat} (d:α) (hk:k<l.length):catE E o l (k+1)=catE E o l k++E (l.getD k d):=by
 unfold catE
 rw [List.append_assoc,←flatE_snoc,List.take_succ_eq_append_getElem hk,List.getD_eq_getElem?_getD,List.getElem?_eq_getElem hk]
 rfl
theorem catE_all {α:Type} (E:α→List UInt8) (o:List UInt8) (l:List α):catE E o l l.length=o++flatE E l:=by rw [catE,List.take_length]
theorem catE_le {α:Type} (E:α→List UInt8) (o:List UInt8) (l:List α) (k:Nat):(catE E o l k).length≤o.length+(flatE E l).length:=by
 unfold catE
 rw [List.length_append]
 have h:flatE E l=flatE E (l.take k)++flatE E (l.drop k):=by
  unfold flatE
  rw [←List.flatten_append,←List.map_append,List.take_append_drop]
 rw [h,List.length_append]
 omega
section
variable {P:Program} {n:Nat} {L:List (Nat×Value)} {w w0:World} {M0 Fz:Nat→Prop} {H:List It} {ops:Array Oper} {rest:List Oper} {ty:TypeId} {pos:String} {af:Array Edge} {d te:Nat} {f:FuncId} {xs:List Operand} {vs:List Value} {ts:Array TypeId} {out:List UInt8} {Q:Exit→Act→World→Prop}
theorem Ar {l2 : List UInt8} {S : Nat → Prop} {A B : Option Addr} {c c2 t m : Nat} {s x : Operand} [k : SlC P t te 1 1] (hp : HP w0 M0 Fz w (itR te 1 A out.length c (out.map bv) :: H)) (hb : GS byteR S w B c2 l2) (hlen : out.length + l2.length ≤ 140737488355328) (h : ∀ A' c' w2, HP w0 M0 Fz w2 (itR te 1 A' (out ++ l2).length c' ((out ++ l2).map bv) :: H) → Chg (fun b => ¬ Fz b) w w2 → WL P n ops Q rest ((d, .slice A' (out ++ l2).length c') :: L) w2)
  (hs:ev L s=some (.slice A out.length c):=by rfl) (hx:ev L x=some (.slice B m c2):=by rfl) (hm:m=l2.length:=by rfl) (hd:d<n:=by decide):
  WL P n ops Q ({dst:=some d,op:= .call {callee:= .builtin .append,args:= #[s,x],argTypes:= #[t,t]},type:=ty,pos:=pos,after:=af,guard:=none}::rest) L w:=by
 subst hm
 exact wl_happendB (i:=0) hd k.h hs hx hp rfl hb hlen (fun A' c' w2 hp hC=>h A' c' w2 hp hC)
end
end Go.Eng
namespace Go.Eng
open Go.RowKit Go.ChangeShapes Go.WideShapes Go.ChangeAt
section
variable {H:Type} {enc:TypeId×Value→H} {P:Program} {W:World}
structure Arg (enc:TypeId×Value→H) (P:Program) (W:World) (base:Nat) (t:TypeId) (v:Value) (d:DataW H) (p:List MemPlace):Prop where
 ok:Value.okWide P W .any base t v
 rd:DataW.Trod enc P W 0 (fun _=>true) true t v d p
 lt: ∀x∈p,x.block<W.heap.size
 wt:(d.weights P t).all (· ≤reachBytes)=true
def Args (enc : TypeId × Value → H) (P : Program) (W : World) (base : Nat) : List TypeId → List Value → List (DataW H) → Prop
 | [], [], []=>True
 |t::ts,v::vs,d::ds=>(∃p,Arg enc P W base t v d p)∧Args enc P W base ts vs ds
 |_,_,_=>False
theorem args_of {base : Nat} : ∀ (ts : List TypeId) (vs : List Value) (ds : List (DataW H)) (ps : List MemPlace), (∀ (j : Nat) t v, ts[j]? = some t → vs[j]? = some v → Value.okWide P W .any base t v) →
  DataW.TrodAll enc P W 0 (fun _=>true) true ts vs ds ps→(∀x∈ps,x.block<W.heap.size)→(DataW.weightsEach P ts ds).all (· ≤reachBytes)=true→Args enc P W base ts vs ds
 | [], [], [],_,_,_,_,_=>trivial
 | t :: ts, v :: vs, d :: ds, ps, hv, ht, hl, hw => by
  obtain ⟨p,q,h1,h2,rfl⟩:=ht
  simp only [DataW.weightsEach,List.all_append,Bool.and_eq_true] at hw
  exact ⟨⟨p, hv 0 t v rfl rfl, h1, fun x hx => hl x (List.mem_append_left _ hx), hw.1⟩,
   args_of ts vs ds q (fun j t v h1 h2=>hv (j+1) t v (by simpa using h1) (by simpa using h2)) h2 (fun x hx=>hl x (List.mem_append_right _ hx)) hw.2⟩
 | [], [],_::_,_,_,h,_,_=>h.elim
 | [],_::_,_,_,_,h,_,_=>by cases ‹List (DataW H)› <;>exact h.elim
 |_::_, [],_,_,_,h,_,_=>by cases ‹List (DataW H)› <;>exact h.elim
 |_::_,_::_, [],_,_,h,_,_=>h.elim
def readB (P:Program) (ts:List TypeId):Bool:=ts.all fun t=>P.readableRec t&&decide (t<P.types.size)
theorem trodAll_below {W' : World} (hl : laidOutB P = true) (hb : Below W.heap.size W W') : ∀ (ts : List TypeId) (vs : List Value) (ds : List (DataW H)) (ps : List MemPlace), readB P ts = true →
  DataW.TrodAll enc P W 0 (fun _=>true) true ts vs ds ps→(∀x∈ps,x.block<W.heap.size)→DataW.TrodAll enc P W' 0 (fun b=>decide (b<W.heap.size)) true ts vs ds ps
 | [], [], [],_,_,h,_=>h
 | t :: ts, v :: vs, d :: ds, ps, hr, ht, hlt => by
  obtain ⟨p,q,h1,h2,rfl⟩:=ht
  simp only [readB,List.all_cons,Bool.and_eq_true,decide_eq_true_eq] at hr
  exact ⟨p, q, Below.trod hl hr.1.1 hr.1.2 h1 hb (fun x hx => hlt x (List.mem_append_left _ hx)),
   trodAll_below hl hb ts vs ds q hr.2 h2 (fun x hx=>hlt x (List.mem_append_right _ hx)),rfl⟩
 | [], [],_::_,_,_,h,_=>h.elim
 | [],_::_,_,_,_,h,_=>by cases ‹List (DataW H)› <;>exact h.elim
 |_::_, [],_,_,_,h,_=>by cases ‹List (DataW H)› <;>exact h.elim
 |_::_,_::_, [],_,_,h,_=>h.elim
theorem trodAll_len {base : Nat} {sp : Nat → Bool} {hd : Bool} : ∀ (ts : List TypeId) (vs : List Value) (ds : List (DataW H)) (ps : List MemPlace), DataW.TrodAll enc P W base sp hd ts vs ds ps → ds.length = ts.length
 | [], [], [],_,_=>rfl
 | t :: ts, v :: vs, d :: ds, ps, ht => by
  obtain ⟨p,q,_,h2,_⟩:=ht
  simp [trodAll_len ts vs ds q h2]
 | [], [],_::_,_,h=>h.elim
 | [],_::_,_,_,h=>by cases ‹List (DataW H)› <;>exact h.elim
 |_::_, [],_,_,h=>by cases ‹List (DataW H)› <;>exact h.elim
 |_::_,_::_, [],_,h=>h.elim
theorem law_lifted {C : Checked} {os : Os} {f : FuncId} {fn : Func} {s : ChangeSpec} {tb : TypeId} (own : ownKnob C.prog.godebug = none) (started : os.Started) (noInit : C.prog.inits.idxOf? f = none) (hfn : C.prog.funcs[f]? = some fn)
  (witness : ∃ (w : World) (tape : Tape) (i : Input), w.os = os ∧ (w.forCall tape i).Shaped C.prog ∧ i.vars = [] ∧ Input.okWide C.prog (w.forCall tape i) .any w.heap.size f i ∧
   s.pre6 enc C.prog fn [] false (w.forCall tape i).memory i.args∧({}:Assume).holds C.prog (lone (Frame.enter C.prog f i.args .normal) [] (w.forCall tape i)))
  (hlo:laidOutB C.prog=true) (hrd:readB C.prog fn.params.toList=true) (hvars:s.vars= []) (hres:fn.resultTypes= #[tb]) (htb:C.prog.underlying tb=some .bool)
  (hs: ∀ds:List (DataW H),ds.length=fn.params.toList.length→s.fn H ds={results:= [.lit (.bool true)],args:=ds})
  (walk: ∀(W:World) (base:Nat) (args:Array Value) (ds:List (DataW H)),Args enc C.prog W base fn.params.toList args.toList ds→Ret C.prog f args W fun v w'=>v= .bool true∧Ext W w'):
  ReturnsInHanded {} C os f .any (s.pre6 enc C.prog fn [] false) (s.post enc C.prog fn false true false false):=by
 refine returnsInHanded_of_change_sized own started noInit hfn witness ?_
 intro W base args ds gs before hval hW _ hsz _
 have hW':=hW
 obtain ⟨p,q,hA,hV,rfl,hfz,hnd⟩:=hW
 have hvt:s.plain.varTypes C.prog= []:=by simp [ChangeSpec.plain,DataSpec.varTypes,hvars]
 rw [hvars] at hV
 obtain ⟨rfl,rfl⟩:=trodVars_none hV
 rw [hvt,List.append_nil,List.append_nil] at hsz
 simp only [List.append_nil] at hW'
 have hlt: ∀x∈p,x.block<W.heap.size:=fun x hx=>hW'.lt x hx
 have hargs:=args_of fn.params.toList args.toList ds p (fun j t v h1 h2=>hval j t v (by simpa using h1) (by simpa using h2)) hA hlt hsz
 refine Calls.mono (walk W base args ds hargs) fun e W' ⟨v,he,hv,hE⟩=>⟨v,he, ?_⟩
 subst hv
 have hds:=hs ds (trodAll_len _ _ _ _ hA)
 have hb:=hE.below
 refine ⟨ds, [],p, [],p, [],hW', ?_, ?_, ?_,hb.frame _,fun h=>by cases h⟩
 ·rw [List.append_nil, hds, hres]
  exact trodAll_mk1 (shut_bool htb true)
 ·rw [List.append_nil, hds]
  exact trodAll_below hlo hb _ _ _ _ hrd hA hlt
 ·rw [List.append_nil, hds, hvars]
  rfl
theorem arg_bytes {base : Nat} {t e : TypeId} {v : Value} {d : DataW H} (ht : P.underlying t = some (.slice e)) (he : P.underlying e = some (.int .u8)) (hc : P.cellsOf e = 1) (hbb : P.bytesOf e = 1) (h : ∃ p, Arg enc P W base t v d p) :
  ∃A c l,v= .slice A l.length c∧BS (fun b=>b<W.heap.size) W A c l:=by
 obtain ⟨p,h⟩:=h
 obtain ⟨a0,len,cap,rfl⟩:=okWide_slice ht h.ok
 have hwt:=h.wt
 have hltp:=h.lt
 obtain ⟨fuel,hf⟩:=h.rd
 rcases open_ints ht he hc hf with ⟨hcs,hx⟩|⟨a,len',cap',zs,hcs,_,hl,hm,hz,hx,hcell,hwz⟩
 ·simp [Value.cells] at hcs
  obtain ⟨rfl,rfl,rfl⟩:=hcs
  exact ⟨none,0, [],rfl,GS.nil _ _ _ _ _⟩
 ·simp [Value.cells] at hcs
  obtain ⟨rfl,rfl,rfl⟩:=hcs
  simp only [Prod.mk.injEq] at hx
  obtain ⟨rfl,rfl⟩:=hx
  simp only [if_true] at hz
  have hcap:cap≤140737488355328:=by
   have:=List.all_eq_true.1 hwt ((lits (H:=H) .u8 (zs.take len)).length+(lits (H:=H) .u8 (zs.drop len)).length) (by
    have e1:(((lits (H:=H) .u8 (zs.take len)).length+(lits (H:=H) .u8 (zs.drop len)).length)*P.bytesOf e)∈(DataW.slice (lits (H:=H) .u8 (zs.take len)) (lits .u8 (zs.drop len))).weights P t:=by simp [DataW.weights,ht]
    rwa [hbb,Nat.mul_one] at e1)
   simp only [lits,List.length_map,List.length_take,List.length_drop,reachBytes,decide_eq_true_eq] at this
   omega
  have hbd: ∀i,i<len→∃b:UInt8,zs.getD i 0=(b.toNat:Int):=by
   intro i hi
   have hmem:zs.getD i 0∈zs:=by
    rw [List.getD_eq_getElem?_getD,List.getElem?_eq_getElem (by omega)]
    exact List.getElem_mem _
   have hw:=hwz _ hmem
   simp [Lit.wf,IntKind.min,IntKind.max,IntKind.signed,IntKind.bits] at hw
   refine ⟨UInt8.ofNat (zs.getD i 0).toNat, ?_⟩
   simp only [UInt8.toNat_ofNat',List.getD_eq_getElem?_getD]
   omega
  refine ⟨some a,cap,(zs.take len).map fun z=>UInt8.ofNat z.toNat, ?_, ?_⟩
  ·have : ((zs.take len).map fun z => UInt8.ofNat z.toNat).length = len := by simp; omega
   rw [this]
  ·have hlen : ((zs.take len).map fun z => UInt8.ofNat z.toNat).length = len := by simp; omega
   refine ⟨by omega,by omega,fun i hi=> ?_⟩
   have hi':i<len:=by omega
   obtain ⟨b,hb⟩:=hbd i hi'
   have hc1:=hcell i (by omega)
   rw [hb] at hc1
   refine ⟨a, [bv b],rfl, ?_, ?_, ?_, ?_⟩
   ·have := World.block_lt_of_cell? W _ hc1
    rwa [block_add] at this
   ·have := World.block_lt_of_cell? W _ hc1
    rwa [block_add] at this
   ·intro j v hv
    have hj:j=0:=by
     have:=(List.getElem?_eq_some_iff.1 hv).1
     simpa using this
    subst hj
    simp only [List.getElem?_cons_zero,Option.some.injEq] at hv
    subst hv
    rw [add_add']
    simpa [byteR,oneR] using hc1
   ·simp only [byteR, oneR, List.getElem_map, List.getElem_take]
    have e1:zs[i]'(by omega)=zs.getD i 0:=by rw [List.getD_eq_getElem?_getD,List.getElem?_eq_getElem (by omega)];rfl
    rw [e1,hb]
    simp
end
end Go.Eng
namespace Go.Eng
open Go.RowKit Go.ChangeShapes Go.WideShapes Go.ChangeAt
section
variable {H:Type} {enc:TypeId×Value→H} {P:Program} {W:World}
theorem args_nil {base:Nat} {vs:List Value} {ds:List (DataW H)} (h:Args enc P W base [] vs ds):vs= []:=by
 cases vs with
 |nil=>rfl
 |cons v t=>cases ds<;>exact h.elim
theorem args_cons {base : Nat} {t : TypeId} {ts : List TypeId} {vs : List Value} {ds : List (DataW H)} (h : Args enc P W base (t :: ts) vs ds) :
  ∃v vs' d ds',vs=v::vs'∧(∃p,Arg enc P W base t v d p)∧Args enc P W base ts vs' ds':=by
 cases vs with
 |nil=>cases ds<;>exact h.elim
 | cons v vs' =>
  cases ds with
  |nil=>exact h.elim
  |cons d ds'=>exact ⟨v,vs',d,ds',rfl,h.1,h.2⟩
theorem spec_len {ds:List (DataW H)} {n:Nat} (h:ds.length=n+1): ∃d ds',ds=d::ds'∧ds'.length=n:=by
 cases ds with
 |nil=>cases h
 |cons d t=>exact ⟨d,t,rfl,by simpa using h⟩
end
end Go.Eng
namespace Go.Proofs.Tryz
open Go.Eng
theorem ag110:agB prog 110 34=true:=by kernel_rfl
theorem ag112:agB prog 112 10=true:=by kernel_rfl
theorem ag152:agB prog 152 4=true:=by kernel_rfl
theorem ag157:agB prog 157 58=true:=by kernel_rfl
theorem ag210:agB prog 210 8=true:=by kernel_rfl
theorem ag230:agB prog 230 8=true:=by kernel_rfl
theorem ag232:agB prog 232 64=true:=by kernel_rfl
theorem ag24:agB prog 24 2=true:=by kernel_rfl
theorem ag248:agB prog 248 34=true:=by kernel_rfl
theorem ag26:agB prog 26 32=true:=by kernel_rfl
theorem ag262:agB prog 262 64=true:=by kernel_rfl
theorem ag28:agB prog 28 33=true:=by kernel_rfl
theorem ag33:agB prog 33 42=true:=by kernel_rfl
theorem ag35:agB prog 35 6=true:=by kernel_rfl
theorem ag38:agB prog 38 54=true:=by kernel_rfl
theorem ag45:agB prog 45 42=true:=by kernel_rfl
theorem ag47:agB prog 47 54=true:=by kernel_rfl
theorem ag86:agB prog 86 33=true:=by kernel_rfl
theorem ag89:agB prog 89 33=true:=by kernel_rfl
theorem ar238:arB prog 238 4 181 1=true:=by kernel_rfl
theorem ar26:arB prog 26 32 5 1=true:=by kernel_rfl
theorem bld110:bldB prog 110 [(0,1),(1,32),(33,1)] (fun z=>isCells z.toList [.int .i64 0, .int .u8 0, .int .u8 0, .int .u8 0, .int .u8 0, .int .u8 0, .int .u8 0, .int .u8 0, .int .u8 0, .int .u8 0, .int .u8 0, .int .u8 0, .int .u8 0, .int .u8 0, .int .u8 0, .int .u8 0, .int .u8 0, .int .u8 0, .int .u8 0, .int .u8 0, .int .u8 0, .int .u8 0, .int .u8 0, .int .u8 0, .int .u8 0, .int .u8 0, .int .u8 0, .int .u8 0, .int .u8 0, .int .u8 0, .int .u8 0, .int .u8 0, .int .u8 0, .int .i64 0])=true:=by kernel_rfl
theorem bld112:bldB prog 112 [(0,1),(1,1),(2,1),(3,1),(4,1),(5,1),(6,1),(7,1),(8,1),(9,1)] (fun z=>isCells z.toList [.int .i64 0, .int .i64 0, .int .i64 0, .int .i64 0, .int .i64 0, .int .i64 0, .slice none 0 0, .int .i64 0, .int .i64 0, .slice none 0 0])=true:=by kernel_rfl
theorem bld132:bldB prog 132 [(0,1)] (fun z=>isCells z.toList [.slice none 0 0])=true:=by kernel_rfl
theorem bld150:bldB prog 150 [(0,1),(1,1),(2,1),(3,1)] (fun z=>isCells z.toList [.int .i64 0, .int .i64 0, .int .i64 0, .int .i64 0])=true:=by kernel_rfl
theorem bld157:bldB prog 157 [(0,1),(1,1),(2,1),(3,1),(4,1),(5,1),(6,32),(38,1),(39,4),(43,1),(44,1),(45,6),(51,1),(52,1),(53,1),(54,1),(55,1),(56,1),(57,1)] (fun z=>isCells z.toList [.int .i64 0, .int .i64 0, .int .i64 0, .int .i64 0, .int .i64 0, .int .i64 0, .int .u8 0, .int .u8 0, .int .u8 0, .int .u8 0, .int .u8 0, .int .u8 0, .int .u8 0, .int .u8 0, .int .u8 0, .int .u8 0, .int .u8 0, .int .u8 0, .int .u8 0, .int .u8 0, .int .u8 0, .int .u8 0, .int .u8 0, .int .u8 0, .int .u8 0, .int .u8 0, .int .u8 0, .int .u8 0, .int .u8 0, .int .u8 0, .int .u8 0, .int .u8 0, .int .u8 0, .int .u8 0, .int .u8 0, .int .u8 0, .int .u8 0, .int .u8 0, .slice none 0 0, .int .i64 0, .slice none 0 0, .int .i64 0, .slice none 0 0, .int .i64 0, .int .i64 0, .int .i64 0, .int .i64 0, .int .i64 0, .slice none 0 0, .slice none 0 0, .slice none 0 0, .slice none 0 0, .slice none 0 0, .int .i64 0, .int .i64 0, .slice none 0 0, .slice none 0 0, .slice none 0 0])=true:=by kernel_rfl
theorem bld175:bldB prog 175 [(0,1),(1,1)] (fun z=>isCells z.toList [.slice none 0 0, .int .i64 0])=true:=by kernel_rfl
theorem bld210:bldB prog 210 [(0,1),(1,1),(2,1),(3,1),(4,1),(5,1),(6,1),(7,1)] (fun z=>isCells z.toList [.int .i64 0, .int .i64 0, .int .i64 0, .int .i64 0, .int .i64 0, .int .i64 0, .int .i64 0, .int .i64 0])=true:=by kernel_rfl
theorem bld220:bldB prog 220 [(0,1),(1,1)] (fun z=>isCells z.toList [.slice none 0 0, .int .i64 0])=true:=by kernel_rfl
theorem bld223:bldB prog 223 [(0,1),(1,1)] (fun z=>isCells z.toList [.slice none 0 0, .bool false])=true:=by kernel_rfl
theorem bld230:bldB prog 230 [(0,1),(1,1),(2,1),(3,1),(4,1),(5,1),(6,1),(7,1)] (fun z=>isCells z.toList [.int .u32 0, .int .u32 0, .int .u32 0, .int .u32 0, .int .u32 0, .int .u32 0, .int .u32 0, .int .u32 0])=true:=by kernel_rfl
theorem bld238:bldB prog 238 [(0,1),(1,1),(2,1),(3,1)] (fun z=>isCells z.toList [.pointer none, .pointer none, .pointer none, .pointer none])=true:=by kernel_rfl
theorem bld24:bldB prog 24 [(0,1),(1,1)] (fun z=>isCells z.toList [.int .i64 0, .slice none 0 0])=true:=by kernel_rfl
theorem bld26:bldB prog 26 [(0,1),(1,1),(2,1),(3,1),(4,1),(5,1),(6,1),(7,1),(8,1),(9,1),(10,1),(11,1),(12,1),(13,1),(14,1),(15,1),(16,1),(17,1),(18,1),(19,1),(20,1),(21,1),(22,1),(23,1),(24,1),(25,1),(26,1),(27,1),(28,1),(29,1),(30,1),(31,1)] (fun z=>isCells z.toList [.int .u8 0, .int .u8 0, .int .u8 0, .int .u8 0, .int .u8 0, .int .u8 0, .int .u8 0, .int .u8 0, .int .u8 0, .int .u8 0, .int .u8 0, .int .u8 0, .int .u8 0, .int .u8 0, .int .u8 0, .int .u8 0, .int .u8 0, .int .u8 0, .int .u8 0, .int .u8 0, .int .u8 0, .int .u8 0, .int .u8 0, .int .u8 0, .int .u8 0, .int .u8 0, .int .u8 0, .int .u8 0, .int .u8 0, .int .u8 0, .int .u8 0, .int .u8 0])=true:=by kernel_rfl
theorem bld262:bldB prog 262 [(0,1),(1,1),(2,1),(3,1),(4,1),(5,1),(6,1),(7,1),(8,1),(9,1),(10,1),(11,1),(12,1),(13,1),(14,1),(15,1),(16,1),(17,1),(18,1),(19,1),(20,1),(21,1),(22,1),(23,1),(24,1),(25,1),(26,1),(27,1),(28,1),(29,1),(30,1),(31,1),(32,1),(33,1),(34,1),(35,1),(36,1),(37,1),(38,1),(39,1),(40,1),(41,1),(42,1),(43,1),(44,1),(45,1),(46,1),(47,1),(48,1),(49,1),(50,1),(51,1),(52,1),(53,1),(54,1),(55,1),(56,1),(57,1),(58,1),(59,1),(60,1),(61,1),(62,1),(63,1)] (fun z=>isCells z.toList [.int .u32 0, .int .u32 0, .int .u32 0, .int .u32 0, .int .u32 0, .int .u32 0, .int .u32 0, .int .u32 0, .int .u32 0, .int .u32 0, .int .u32 0, .int .u32 0, .int .u32 0, .int .u32 0, .int .u32 0, .int .u32 0, .int .u32 0, .int .u32 0, .int .u32 0, .int .u32 0, .int .u32 0, .int .u32 0, .int .u32 0, .int .u32 0, .int .u32 0, .int .u32 0, .int .u32 0, .int .u32 0, .int .u32 0, .int .u32 0, .int .u32 0, .int .u32 0, .int .u32 0, .int .u32 0, .int .u32 0, .int .u32 0, .int .u32 0, .int .u32 0, .int .u32 0, .int .u32 0, .int .u32 0, .int .u32 0, .int .u32 0, .int .u32 0, .int .u32 0, .int .u32 0, .int .u32 0, .int .u32 0, .int .u32 0, .int .u32 0, .int .u32 0, .int .u32 0, .int .u32 0, .int .u32 0, .int .u32 0, .int .u32 0, .int .u32 0, .int .u32 0, .int .u32 0, .int .u32 0, .int .u32 0, .int .u32 0, .int .u32 0, .int .u32 0])=true:=by kernel_rfl
theorem bld28:bldB prog 28 [(0,1),(1,32)] (fun z=>isCells z.toList [.int .i64 0, .int .u8 0, .int .u8 0, .int .u8 0, .int .u8 0, .int .u8 0, .int .u8 0, .int .u8 0, .int .u8 0, .int .u8 0, .int .u8 0, .int .u8 0, .int .u8 0, .int .u8 0, .int .u8 0, .int .u8 0, .int .u8 0, .int .u8 0, .int .u8 0, .int .u8 0, .int .u8 0, .int .u8 0, .int .u8 0, .int .u8 0, .int .u8 0, .int .u8 0, .int .u8 0, .int .u8 0, .int .u8 0, .int .u8 0, .int .u8 0, .int .u8 0, .int .u8 0])=true:=by kernel_rfl
theorem bld33:bldB prog 33 [(0,1),(1,1),(2,33),(35,1),(36,1),(37,1),(38,1),(39,1),(40,1),(41,1)] (fun z=>isCells z.toList [.int .i64 0, .bool false, .int .i64 0, .int .u8 0, .int .u8 0, .int .u8 0, .int .u8 0, .int .u8 0, .int .u8 0, .int .u8 0, .int .u8 0, .int .u8 0, .int .u8 0, .int .u8 0, .int .u8 0, .int .u8 0, .int .u8 0, .int .u8 0, .int .u8 0, .int .u8 0, .int .u8 0, .int .u8 0, .int .u8 0, .int .u8 0, .int .u8 0, .int .u8 0, .int .u8 0, .int .u8 0, .int .u8 0, .int .u8 0, .int .u8 0, .int .u8 0, .int .u8 0, .int .u8 0, .int .u8 0, .slice none 0 0, .slice none 0 0, .slice none 0 0, .int .i64 0, .slice none 0 0, .bool false, .slice none 0 0])=true:=by kernel_rfl
theorem bld35:bldB prog 35 [(0,1),(1,1),(2,1),(3,1),(4,1),(5,1)] (fun z=>isCells z.toList [.int .i64 0, .int .i64 0, .int .i64 0, .slice none 0 0, .slice none 0 0, .slice none 0 0])=true:=by kernel_rfl
theorem bld38:bldB prog 38 [(0,1),(1,1),(2,2),(4,42),(46,1),(47,6),(53,1)] (fun z=>isCells z.toList [.int .i64 0, .int .i64 0, .int .i64 0, .slice none 0 0, .int .i64 0, .bool false, .int .i64 0, .int .u8 0, .int .u8 0, .int .u8 0, .int .u8 0, .int .u8 0, .int .u8 0, .int .u8 0, .int .u8 0, .int .u8 0, .int .u8 0, .int .u8 0, .int .u8 0, .int .u8 0, .int .u8 0, .int .u8 0, .int .u8 0, .int .u8 0, .int .u8 0, .int .u8 0, .int .u8 0, .int .u8 0, .int .u8 0, .int .u8 0, .int .u8 0, .int .u8 0, .int .u8 0, .int .u8 0, .int .u8 0, .int .u8 0, .int .u8 0, .int .u8 0, .int .u8 0, .slice none 0 0, .slice none 0 0, .slice none 0 0, .int .i64 0, .slice none 0 0, .bool false, .slice none 0 0, .bool false, .int .i64 0, .int .i64 0, .int .i64 0, .slice none 0 0, .slice none 0 0, .slice none 0 0, .slice none 0 0])=true:=by kernel_rfl
theorem bld45:bldB prog 45 [(0,1),(1,1),(2,33),(35,1),(36,1),(37,1),(38,1),(39,1),(40,1),(41,1)] (fun z=>isCells z.toList [.int .i64 0, .bool false, .int .i64 0, .int .u8 0, .int .u8 0, .int .u8 0, .int .u8 0, .int .u8 0, .int .u8 0, .int .u8 0, .int .u8 0, .int .u8 0, .int .u8 0, .int .u8 0, .int .u8 0, .int .u8 0, .int .u8 0, .int .u8 0, .int .u8 0, .int .u8 0, .int .u8 0, .int .u8 0, .int .u8 0, .int .u8 0, .int .u8 0, .int .u8 0, .int .u8 0, .int .u8 0, .int .u8 0, .int .u8 0, .int .u8 0, .int .u8 0, .int .u8 0, .int .u8 0, .int .u8 0, .slice none 0 0, .slice none 0 0, .slice none 0 0, .int .i64 0, .slice none 0 0, .bool false, .slice none 0 0])=true:=by kernel_rfl
theorem bld47:bldB prog 47 [(0,1),(1,1),(2,2),(4,42),(46,1),(47,6),(53,1)] (fun z=>isCells z.toList [.int .i64 0, .int .i64 0, .int .i64 0, .slice none 0 0, .int .i64 0, .bool false, .int .i64 0, .int .u8 0, .int .u8 0, .int .u8 0, .int .u8 0, .int .u8 0, .int .u8 0, .int .u8 0, .int .u8 0, .int .u8 0, .int .u8 0, .int .u8 0, .int .u8 0, .int .u8 0, .int .u8 0, .int .u8 0, .int .u8 0, .int .u8 0, .int .u8 0, .int .u8 0, .int .u8 0, .int .u8 0, .int .u8 0, .int .u8 0, .int .u8 0, .int .u8 0, .int .u8 0, .int .u8 0, .int .u8 0, .int .u8 0, .int .u8 0, .int .u8 0, .int .u8 0, .slice none 0 0, .slice none 0 0, .slice none 0 0, .int .i64 0, .slice none 0 0, .bool false, .slice none 0 0, .bool false, .int .i64 0, .int .i64 0, .int .i64 0, .slice none 0 0, .slice none 0 0, .slice none 0 0, .slice none 0 0])=true:=by kernel_rfl
theorem bld72:bldB prog 72 [(0,1),(1,1)] (fun z=>isCells z.toList [.slice none 0 0, .bool false])=true:=by kernel_rfl
theorem bld86:bldB prog 86 [(0,32),(32,1)] (fun z=>isCells z.toList [.int .u8 0, .int .u8 0, .int .u8 0, .int .u8 0, .int .u8 0, .int .u8 0, .int .u8 0, .int .u8 0, .int .u8 0, .int .u8 0, .int .u8 0, .int .u8 0, .int .u8 0, .int .u8 0, .int .u8 0, .int .u8 0, .int .u8 0, .int .u8 0, .int .u8 0, .int .u8 0, .int .u8 0, .int .u8 0, .int .u8 0, .int .u8 0, .int .u8 0, .int .u8 0, .int .u8 0, .int .u8 0, .int .u8 0, .int .u8 0, .int .u8 0, .int .u8 0, .slice none 0 0])=true:=by kernel_rfl
theorem bld89:bldB prog 89 [(0,32),(32,1)] (fun z=>isCells z.toList [.int .u8 0, .int .u8 0, .int .u8 0, .int .u8 0, .int .u8 0, .int .u8 0, .int .u8 0, .int .u8 0, .int .u8 0, .int .u8 0, .int .u8 0, .int .u8 0, .int .u8 0, .int .u8 0, .int .u8 0, .int .u8 0, .int .u8 0, .int .u8 0, .int .u8 0, .int .u8 0, .int .u8 0, .int .u8 0, .int .u8 0, .int .u8 0, .int .u8 0, .int .u8 0, .int .u8 0, .int .u8 0, .int .u8 0, .int .u8 0, .int .u8 0, .int .u8 0, .slice none 0 0])=true:=by kernel_rfl
theorem bld94:bldB prog 94 [(0,1),(1,1)] (fun z=>isCells z.toList [.slice none 0 0, .bool false])=true:=by kernel_rfl
theorem bo4:boB prog 4=true:=by kernel_rfl
theorem cl10:callable prog 10=true:=by kernel_rfl
theorem cl100:callable prog 100=true:=by kernel_rfl
theorem cl101:callable prog 101=true:=by kernel_rfl
theorem cl102:callable prog 102=true:=by kernel_rfl
theorem cl103:callable prog 103=true:=by kernel_rfl
theorem cl104:callable prog 104=true:=by kernel_rfl
theorem cl105:callable prog 105=true:=by kernel_rfl
theorem cl106:callable prog 106=true:=by kernel_rfl
theorem cl107:callable prog 107=true:=by kernel_rfl
theorem cl108:callable prog 108=true:=by kernel_rfl
theorem cl109:callable prog 109=true:=by kernel_rfl
theorem cl11:callable prog 11=true:=by kernel_rfl
theorem cl110:callable prog 110=true:=by kernel_rfl
theorem cl111:callable prog 111=true:=by kernel_rfl
theorem cl112:callable prog 112=true:=by kernel_rfl
theorem cl113:callable prog 113=true:=by kernel_rfl
theorem cl114:callable prog 114=true:=by kernel_rfl
theorem cl115:callable prog 115=true:=by kernel_rfl
theorem cl116:callable prog 116=true:=by kernel_rfl
theorem cl117:callable prog 117=true:=by kernel_rfl
theorem cl118:callable prog 118=true:=by kernel_rfl
theorem cl119:callable prog 119=true:=by kernel_rfl
theorem cl12:callable prog 12=true:=by kernel_rfl
theorem cl120:callable prog 120=true:=by kernel_rfl
theorem cl121:callable prog 121=true:=by kernel_rfl
theorem cl122:callable prog 122=true:=by kernel_rfl
theorem cl123:callable prog 123=true:=by kernel_rfl
theorem cl124:callable prog 124=true:=by kernel_rfl
theorem cl125:callable prog 125=true:=by kernel_rfl
theorem cl126:callable prog 126=true:=by kernel_rfl
theorem cl127:callable prog 127=true:=by kernel_rfl
theorem cl128:callable prog 128=true:=by kernel_rfl
theorem cl129:callable prog 129=true:=by kernel_rfl
theorem cl13:callable prog 13=true:=by kernel_rfl
theorem cl130:callable prog 130=true:=by kernel_rfl
theorem cl131:callable prog 131=true:=by kernel_rfl
theorem cl132:callable prog 132=true:=by kernel_rfl
theorem cl133:callable prog 133=true:=by kernel_rfl
theorem cl134:callable prog 134=true:=by kernel_rfl
theorem cl135:callable prog 135=true:=by kernel_rfl
theorem cl136:callable prog 136=true:=by kernel_rfl
theorem cl137:callable prog 137=true:=by kernel_rfl
theorem cl14:callable prog 14=true:=by kernel_rfl
theorem cl141:callable prog 141=true:=by kernel_rfl
theorem cl142:callable prog 142=true:=by kernel_rfl
theorem cl143:callable prog 143=true:=by kernel_rfl
theorem cl144:callable prog 144=true:=by kernel_rfl
theorem cl145:callable prog 145=true:=by kernel_rfl
theorem cl146:callable prog 146=true:=by kernel_rfl
theorem cl147:callable prog 147=true:=by kernel_rfl
theorem cl15:callable prog 15=true:=by kernel_rfl
theorem cl154:callable prog 154=true:=by kernel_rfl
theorem cl155:callable prog 155=true:=by kernel_rfl
theorem cl156:callable prog 156=true:=by kernel_rfl
theorem cl157:callable prog 157=true:=by kernel_rfl
theorem cl158:callable prog 158=true:=by kernel_rfl
theorem cl159:callable prog 159=true:=by kernel_rfl
theorem cl16:callable prog 16=true:=by kernel_rfl
theorem cl160:callable prog 160=true:=by kernel_rfl
theorem cl161:callable prog 161=true:=by kernel_rfl
theorem cl162:callable prog 162=true:=by kernel_rfl
theorem cl163:callable prog 163=true:=by kernel_rfl
theorem cl164:callable prog 164=true:=by kernel_rfl
theorem cl165:callable prog 165=true:=by kernel_rfl
theorem cl166:callable prog 166=true:=by kernel_rfl
theorem cl167:callable prog 167=true:=by kernel_rfl
theorem cl168:callable prog 168=true:=by kernel_rfl
theorem cl17:callable prog 17=true:=by kernel_rfl
theorem cl18:callable prog 18=true:=by kernel_rfl
theorem cl181:callable prog 181=true:=by kernel_rfl
theorem cl182:callable prog 182=true:=by kernel_rfl
theorem cl183:callable prog 183=true:=by kernel_rfl
theorem cl184:callable prog 184=true:=by kernel_rfl
theorem cl185:callable prog 185=true:=by kernel_rfl
theorem cl186:callable prog 186=true:=by kernel_rfl
theorem cl187:callable prog 187=true:=by kernel_rfl
theorem cl188:callable prog 188=true:=by kernel_rfl
theorem cl189:callable prog 189=true:=by kernel_rfl
theorem cl19:callable prog 19=true:=by kernel_rfl
theorem cl190:callable prog 190=true:=by kernel_rfl
theorem cl191:callable prog 191=true:=by kernel_rfl
theorem cl192:callable prog 192=true:=by kernel_rfl
theorem cl193:callable prog 193=true:=by kernel_rfl
theorem cl194:callable prog 194=true:=by kernel_rfl
theorem cl195:callable prog 195=true:=by kernel_rfl
theorem cl196:callable prog 196=true:=by kernel_rfl
theorem cl197:callable prog 197=true:=by kernel_rfl
theorem cl198:callable prog 198=true:=by kernel_rfl
theorem cl199:callable prog 199=true:=by kernel_rfl
theorem cl20:callable prog 20=true:=by kernel_rfl
theorem cl200:callable prog 200=true:=by kernel_rfl
theorem cl201:callable prog 201=true:=by kernel_rfl
theorem cl202:callable prog 202=true:=by kernel_rfl
theorem cl203:callable prog 203=true:=by kernel_rfl
theorem cl21:callable prog 21=true:=by kernel_rfl
theorem cl213:callable prog 213=true:=by kernel_rfl
theorem cl214:callable prog 214=true:=by kernel_rfl
theorem cl215:callable prog 215=true:=by kernel_rfl
theorem cl216:callable prog 216=true:=by kernel_rfl
theorem cl217:callable prog 217=true:=by kernel_rfl
theorem cl218:callable prog 218=true:=by kernel_rfl
theorem cl22:callable prog 22=true:=by kernel_rfl
theorem cl220:callable prog 220=true:=by kernel_rfl
theorem cl221:callable prog 221=true:=by kernel_rfl
theorem cl222:callable prog 222=true:=by kernel_rfl
theorem cl223:callable prog 223=true:=by kernel_rfl
theorem cl224:callable prog 224=true:=by kernel_rfl
theorem cl23:callable prog 23=true:=by kernel_rfl
theorem cl24:callable prog 24=true:=by kernel_rfl
theorem cl245:callable prog 245=true:=by kernel_rfl
theorem cl25:callable prog 25=true:=by kernel_rfl
theorem cl250:callable prog 250=true:=by kernel_rfl
theorem cl251:callable prog 251=true:=by kernel_rfl
theorem cl252:callable prog 252=true:=by kernel_rfl
theorem cl26:callable prog 26=true:=by kernel_rfl
theorem cl27:callable prog 27=true:=by kernel_rfl
theorem cl28:callable prog 28=true:=by kernel_rfl
theorem cl29:callable prog 29=true:=by kernel_rfl
theorem cl3:callable prog 3=true:=by kernel_rfl
theorem cl30:callable prog 30=true:=by kernel_rfl
theorem cl31:callable prog 31=true:=by kernel_rfl
theorem cl32:callable prog 32=true:=by kernel_rfl
theorem cl33:callable prog 33=true:=by kernel_rfl
theorem cl34:callable prog 34=true:=by kernel_rfl
theorem cl35:callable prog 35=true:=by kernel_rfl
theorem cl36:callable prog 36=true:=by kernel_rfl
theorem cl37:callable prog 37=true:=by kernel_rfl
theorem cl38:callable prog 38=true:=by kernel_rfl
theorem cl39:callable prog 39=true:=by kernel_rfl
theorem cl4:callable prog 4=true:=by kernel_rfl
theorem cl40:callable prog 40=true:=by kernel_rfl
theorem cl41:callable prog 41=true:=by kernel_rfl
theorem cl42:callable prog 42=true:=by kernel_rfl
theorem cl43:callable prog 43=true:=by kernel_rfl
theorem cl44:callable prog 44=true:=by kernel_rfl
theorem cl45:callable prog 45=true:=by kernel_rfl
theorem cl46:callable prog 46=true:=by kernel_rfl
theorem cl47:callable prog 47=true:=by kernel_rfl
theorem cl48:callable prog 48=true:=by kernel_rfl
theorem cl49:callable prog 49=true:=by kernel_rfl
theorem cl5:callable prog 5=true:=by kernel_rfl
theorem cl50:callable prog 50=true:=by kernel_rfl
theorem cl51:callable prog 51=true:=by kernel_rfl
theorem cl52:callable prog 52=true:=by kernel_rfl
theorem cl53:callable prog 53=true:=by kernel_rfl
theorem cl54:callable prog 54=true:=by kernel_rfl
theorem cl55:callable prog 55=true:=by kernel_rfl
theorem cl56:callable prog 56=true:=by kernel_rfl
theorem cl57:callable prog 57=true:=by kernel_rfl
theorem cl58:callable prog 58=true:=by kernel_rfl
theorem cl59:callable prog 59=true:=by kernel_rfl
theorem cl6:callable prog 6=true:=by kernel_rfl
theorem cl60:callable prog 60=true:=by kernel_rfl
theorem cl61:callable prog 61=true:=by kernel_rfl
theorem cl62:callable prog 62=true:=by kernel_rfl
theorem cl63:callable prog 63=true:=by kernel_rfl
theorem cl64:callable prog 64=true:=by kernel_rfl
theorem cl65:callable prog 65=true:=by kernel_rfl
theorem cl66:callable prog 66=true:=by kernel_rfl
theorem cl67:callable prog 67=true:=by kernel_rfl
theorem cl68:callable prog 68=true:=by kernel_rfl
theorem cl69:callable prog 69=true:=by kernel_rfl
theorem cl70:callable prog 70=true:=by kernel_rfl
theorem cl71:callable prog 71=true:=by kernel_rfl
theorem cl72:callable prog 72=true:=by kernel_rfl
theorem cl73:callable prog 73=true:=by kernel_rfl
theorem cl74:callable prog 74=true:=by kernel_rfl
theorem cl75:callable prog 75=true:=by kernel_rfl
theorem cl76:callable prog 76=true:=by kernel_rfl
theorem cl77:callable prog 77=true:=by kernel_rfl
theorem cl78:callable prog 78=true:=by kernel_rfl
theorem cl79:callable prog 79=true:=by kernel_rfl
theorem cl80:callable prog 80=true:=by kernel_rfl
theorem cl81:callable prog 81=true:=by kernel_rfl
theorem cl82:callable prog 82=true:=by kernel_rfl
theorem cl83:callable prog 83=true:=by kernel_rfl
theorem cl84:callable prog 84=true:=by kernel_rfl
theorem cl85:callable prog 85=true:=by kernel_rfl
theorem cl86:callable prog 86=true:=by kernel_rfl
theorem cl87:callable prog 87=true:=by kernel_rfl
theorem cl89:callable prog 89=true:=by kernel_rfl
theorem cl90:callable prog 90=true:=by kernel_rfl
theorem cl91:callable prog 91=true:=by kernel_rfl
theorem cl92:callable prog 92=true:=by kernel_rfl
theorem cl96:callable prog 96=true:=by kernel_rfl
theorem cl97:callable prog 97=true:=by kernel_rfl
theorem cl98:callable prog 98=true:=by kernel_rfl
theorem cl99:callable prog 99=true:=by kernel_rfl
theorem eg110:prog.eqGuardType prog.depth 110=false:=by kernel_rfl
theorem eg210:prog.eqGuardType prog.depth 210=false:=by kernel_rfl
theorem eg26:prog.eqGuardType prog.depth 26=false:=by kernel_rfl
theorem eg28:prog.eqGuardType prog.depth 28=false:=by kernel_rfl
theorem fld103_0:fldB prog 103 0 0=true:=by kernel_rfl
theorem fld103_1:fldB prog 103 1 1=true:=by kernel_rfl
theorem fld110_0:fldB prog 110 0 0=true:=by kernel_rfl
theorem fld110_1:fldB prog 110 1 1=true:=by kernel_rfl
theorem fld110_2:fldB prog 110 2 33=true:=by kernel_rfl
theorem fld112_0:fldB prog 112 0 0=true:=by kernel_rfl
theorem fld112_1:fldB prog 112 1 1=true:=by kernel_rfl
theorem fld112_2:fldB prog 112 2 2=true:=by kernel_rfl
theorem fld112_3:fldB prog 112 3 3=true:=by kernel_rfl
theorem fld112_4:fldB prog 112 4 4=true:=by kernel_rfl
theorem fld112_5:fldB prog 112 5 5=true:=by kernel_rfl
theorem fld112_6:fldB prog 112 6 6=true:=by kernel_rfl
theorem fld112_7:fldB prog 112 7 7=true:=by kernel_rfl
theorem fld112_8:fldB prog 112 8 8=true:=by kernel_rfl
theorem fld112_9:fldB prog 112 9 9=true:=by kernel_rfl
theorem fld132_0:fldB prog 132 0 0=true:=by kernel_rfl
theorem fld152_0:fldB prog 152 0 0=true:=by kernel_rfl
theorem fld152_1:fldB prog 152 1 1=true:=by kernel_rfl
theorem fld152_2:fldB prog 152 2 2=true:=by kernel_rfl
theorem fld152_3:fldB prog 152 3 3=true:=by kernel_rfl
theorem fld157_0:fldB prog 157 0 0=true:=by kernel_rfl
theorem fld157_1:fldB prog 157 1 1=true:=by kernel_rfl
theorem fld157_10:fldB prog 157 10 44=true:=by kernel_rfl
theorem fld157_11:fldB prog 157 11 45=true:=by kernel_rfl
theorem fld157_12:fldB prog 157 12 51=true:=by kernel_rfl
theorem fld157_13:fldB prog 157 13 52=true:=by kernel_rfl
theorem fld157_14:fldB prog 157 14 53=true:=by kernel_rfl
theorem fld157_15:fldB prog 157 15 54=true:=by kernel_rfl
theorem fld157_16:fldB prog 157 16 55=true:=by kernel_rfl
theorem fld157_17:fldB prog 157 17 56=true:=by kernel_rfl
theorem fld157_18:fldB prog 157 18 57=true:=by kernel_rfl
theorem fld157_2:fldB prog 157 2 2=true:=by kernel_rfl
theorem fld157_3:fldB prog 157 3 3=true:=by kernel_rfl
theorem fld157_4:fldB prog 157 4 4=true:=by kernel_rfl
theorem fld157_5:fldB prog 157 5 5=true:=by kernel_rfl
theorem fld157_6:fldB prog 157 6 6=true:=by kernel_rfl
theorem fld157_7:fldB prog 157 7 38=true:=by kernel_rfl
theorem fld157_8:fldB prog 157 8 39=true:=by kernel_rfl
theorem fld157_9:fldB prog 157 9 43=true:=by kernel_rfl
theorem fld175_0:fldB prog 175 0 0=true:=by kernel_rfl
theorem fld175_1:fldB prog 175 1 1=true:=by kernel_rfl
theorem fld220_0:fldB prog 220 0 0=true:=by kernel_rfl
theorem fld220_1:fldB prog 220 1 1=true:=by kernel_rfl
theorem fld223_0:fldB prog 223 0 0=true:=by kernel_rfl
theorem fld223_1:fldB prog 223 1 1=true:=by kernel_rfl
theorem fld248_0:fldB prog 248 0 0=true:=by kernel_rfl
theorem fld248_1:fldB prog 248 1 1=true:=by kernel_rfl
theorem fld248_2:fldB prog 248 2 33=true:=by kernel_rfl
theorem fld24_0:fldB prog 24 0 0=true:=by kernel_rfl
theorem fld24_1:fldB prog 24 1 1=true:=by kernel_rfl
theorem fld28_0:fldB prog 28 0 0=true:=by kernel_rfl
theorem fld28_1:fldB prog 28 1 1=true:=by kernel_rfl
theorem fld33_0:fldB prog 33 0 0=true:=by kernel_rfl
theorem fld33_1:fldB prog 33 1 1=true:=by kernel_rfl
theorem fld33_2:fldB prog 33 2 2=true:=by kernel_rfl
theorem fld33_3:fldB prog 33 3 35=true:=by kernel_rfl
theorem fld33_4:fldB prog 33 4 36=true:=by kernel_rfl
theorem fld33_5:fldB prog 33 5 37=true:=by kernel_rfl
theorem fld33_6:fldB prog 33 6 38=true:=by kernel_rfl
theorem fld33_7:fldB prog 33 7 39=true:=by kernel_rfl
theorem fld33_8:fldB prog 33 8 40=true:=by kernel_rfl
theorem fld33_9:fldB prog 33 9 41=true:=by kernel_rfl
theorem fld35_0:fldB prog 35 0 0=true:=by kernel_rfl
theorem fld35_1:fldB prog 35 1 1=true:=by kernel_rfl
theorem fld35_2:fldB prog 35 2 2=true:=by kernel_rfl
theorem fld35_3:fldB prog 35 3 3=true:=by kernel_rfl
theorem fld35_4:fldB prog 35 4 4=true:=by kernel_rfl
theorem fld35_5:fldB prog 35 5 5=true:=by kernel_rfl
theorem fld38_0:fldB prog 38 0 0=true:=by kernel_rfl
theorem fld38_1:fldB prog 38 1 1=true:=by kernel_rfl
theorem fld38_2:fldB prog 38 2 2=true:=by kernel_rfl
theorem fld38_3:fldB prog 38 3 4=true:=by kernel_rfl
theorem fld38_4:fldB prog 38 4 46=true:=by kernel_rfl
theorem fld38_5:fldB prog 38 5 47=true:=by kernel_rfl
theorem fld38_6:fldB prog 38 6 53=true:=by kernel_rfl
theorem fld45_0:fldB prog 45 0 0=true:=by kernel_rfl
theorem fld45_1:fldB prog 45 1 1=true:=by kernel_rfl
theorem fld45_2:fldB prog 45 2 2=true:=by kernel_rfl
theorem fld45_3:fldB prog 45 3 35=true:=by kernel_rfl
theorem fld45_4:fldB prog 45 4 36=true:=by kernel_rfl
theorem fld45_5:fldB prog 45 5 37=true:=by kernel_rfl
theorem fld45_6:fldB prog 45 6 38=true:=by kernel_rfl
theorem fld45_7:fldB prog 45 7 39=true:=by kernel_rfl
theorem fld45_8:fldB prog 45 8 40=true:=by kernel_rfl
theorem fld45_9:fldB prog 45 9 41=true:=by kernel_rfl
theorem fld47_0:fldB prog 47 0 0=true:=by kernel_rfl
theorem fld47_1:fldB prog 47 1 1=true:=by kernel_rfl
theorem fld47_2:fldB prog 47 2 2=true:=by kernel_rfl
theorem fld47_3:fldB prog 47 3 4=true:=by kernel_rfl
theorem fld47_4:fldB prog 47 4 46=true:=by kernel_rfl
theorem fld47_5:fldB prog 47 5 47=true:=by kernel_rfl
theorem fld47_6:fldB prog 47 6 53=true:=by kernel_rfl
theorem fld72_0:fldB prog 72 0 0=true:=by kernel_rfl
theorem fld72_1:fldB prog 72 1 1=true:=by kernel_rfl
theorem fld86_0:fldB prog 86 0 0=true:=by kernel_rfl
theorem fld86_1:fldB prog 86 1 32=true:=by kernel_rfl
theorem fld89_0:fldB prog 89 0 0=true:=by kernel_rfl
theorem fld89_1:fldB prog 89 1 32=true:=by kernel_rfl
theorem fld94_0:fldB prog 94 0 0=true:=by kernel_rfl
theorem fld94_1:fldB prog 94 1 1=true:=by kernel_rfl
theorem it3:intB prog 3 .i64=true:=by kernel_rfl
theorem it5:intB prog 5 .u8=true:=by kernel_rfl
theorem key110:keyB prog 6 110 [some .i64,some .u8,some .u8,some .u8,some .u8,some .u8,some .u8,some .u8,some .u8,some .u8,some .u8,some .u8,some .u8,some .u8,some .u8,some .u8,some .u8,some .u8,some .u8,some .u8,some .u8,some .u8,some .u8,some .u8,some .u8,some .u8,some .u8,some .u8,some .u8,some .u8,some .u8,some .u8,some .u8,some .i64]=true:=by kernel_rfl
theorem key210:keyB prog 6 210 [some .i64,some .i64,some .i64,some .i64,some .i64,some .i64,some .i64,some .i64]=true:=by kernel_rfl
theorem key26:keyB prog 6 26 [some .u8,some .u8,some .u8,some .u8,some .u8,some .u8,some .u8,some .u8,some .u8,some .u8,some .u8,some .u8,some .u8,some .u8,some .u8,some .u8,some .u8,some .u8,some .u8,some .u8,some .u8,some .u8,some .u8,some .u8,some .u8,some .u8,some .u8,some .u8,some .u8,some .u8,some .u8,some .u8]=true:=by kernel_rfl
theorem key28:keyB prog 6 28 [some .i64,some .u8,some .u8,some .u8,some .u8,some .u8,some .u8,some .u8,some .u8,some .u8,some .u8,some .u8,some .u8,some .u8,some .u8,some .u8,some .u8,some .u8,some .u8,some .u8,some .u8,some .u8,some .u8,some .u8,some .u8,some .u8,some .u8,some .u8,some .u8,some .u8,some .u8,some .u8,some .u8]=true:=by kernel_rfl
theorem mt243:methB prog 130 "bastide/note.digest" 243=true:=by kernel_rfl
theorem mt244:methB prog 130 "bastide/note.many" 244=true:=by kernel_rfl
theorem mt245:methB prog 130 "bastide/note.num" 245=true:=by kernel_rfl
theorem mt247:methB prog 221 "bastide/note.batch" 247=true:=by kernel_rfl
theorem mt248:methB prog 221 "bastide/note.digest" 248=true:=by kernel_rfl
theorem mt249:methB prog 221 "bastide/note.many" 249=true:=by kernel_rfl
theorem mt250:methB prog 221 "bastide/note.num" 250=true:=by kernel_rfl
theorem mt251:methB prog 221 "bastide/note.str" 251=true:=by kernel_rfl
theorem sc153:scB prog 153=true:=by kernel_rfl
theorem sc154:scB prog 154=true:=by kernel_rfl
theorem sc155:scB prog 155=true:=by kernel_rfl
theorem sc173:scB prog 173=true:=by kernel_rfl
theorem sc179:scB prog 179=true:=by kernel_rfl
theorem sc181:scB prog 181=true:=by kernel_rfl
theorem sc22:scB prog 22=true:=by kernel_rfl
theorem sc229:scB prog 229=true:=by kernel_rfl
theorem sc29:scB prog 29=true:=by kernel_rfl
theorem sc3:scB prog 3=true:=by kernel_rfl
theorem sc30:scB prog 30=true:=by kernel_rfl
theorem sc31:scB prog 31=true:=by kernel_rfl
theorem sc36:scB prog 36=true:=by kernel_rfl
theorem sc39:scB prog 39=true:=by kernel_rfl
theorem sc4:scB prog 4=true:=by kernel_rfl
theorem sc43:scB prog 43=true:=by kernel_rfl
theorem sc5:scB prog 5=true:=by kernel_rfl
theorem sc68:scB prog 68=true:=by kernel_rfl
theorem sc84:scB prog 84=true:=by kernel_rfl
theorem sc93:scB prog 93=true:=by kernel_rfl
theorem sl153:slB prog 153 35 6 96=true:=by kernel_rfl
theorem sl154:slB prog 154 248 34 64=true:=by kernel_rfl
theorem sl155:slB prog 155 26 32 32=true:=by kernel_rfl
theorem sl173:slB prog 173 36 1 24=true:=by kernel_rfl
theorem sl22:slB prog 22 3 1 8=true:=by kernel_rfl
theorem sl237:slB prog 237 181 1 8=true:=by kernel_rfl
theorem sl29:slB prog 29 28 33 40=true:=by kernel_rfl
theorem sl30:slB prog 30 110 34 48=true:=by kernel_rfl
theorem sl31:slB prog 31 89 33 56=true:=by kernel_rfl
theorem sl36:slB prog 36 5 1 1=true:=by kernel_rfl
theorem sl43:slB prog 43 86 33 56=true:=by kernel_rfl
theorem sl67:slB prog 67 47 54 368=true:=by kernel_rfl
theorem sl84:slB prog 84 112 10 112=true:=by kernel_rfl
theorem sz110:szB prog 110 34=true:=by kernel_rfl
theorem sz112:szB prog 112 10=true:=by kernel_rfl
theorem sz153:szB prog 153 1=true:=by kernel_rfl
theorem sz154:szB prog 154 1=true:=by kernel_rfl
theorem sz155:szB prog 155 1=true:=by kernel_rfl
theorem sz157:szB prog 157 58=true:=by kernel_rfl
theorem sz173:szB prog 173 1=true:=by kernel_rfl
theorem sz210:szB prog 210 8=true:=by kernel_rfl
theorem sz22:szB prog 22 1=true:=by kernel_rfl
theorem sz229:szB prog 229 1=true:=by kernel_rfl
theorem sz230:szB prog 230 8=true:=by kernel_rfl
theorem sz248:szB prog 248 34=true:=by kernel_rfl
theorem sz26:szB prog 26 32=true:=by kernel_rfl
theorem sz262:szB prog 262 64=true:=by kernel_rfl
theorem sz28:szB prog 28 33=true:=by kernel_rfl
theorem sz29:szB prog 29 1=true:=by kernel_rfl
theorem sz3:szB prog 3 1=true:=by kernel_rfl
theorem sz30:szB prog 30 1=true:=by kernel_rfl
theorem sz31:szB prog 31 1=true:=by kernel_rfl
theorem sz33:szB prog 33 42=true:=by kernel_rfl
theorem sz35:szB prog 35 6=true:=by kernel_rfl
theorem sz36:szB prog 36 1=true:=by kernel_rfl
theorem sz38:szB prog 38 54=true:=by kernel_rfl
theorem sz39:szB prog 39 1=true:=by kernel_rfl
theorem sz4:szB prog 4 1=true:=by kernel_rfl
theorem sz43:szB prog 43 1=true:=by kernel_rfl
theorem sz45:szB prog 45 42=true:=by kernel_rfl
theorem sz47:szB prog 47 54=true:=by kernel_rfl
theorem sz5:szB prog 5 1=true:=by kernel_rfl
theorem sz68:szB prog 68 1=true:=by kernel_rfl
theorem sz84:szB prog 84 1=true:=by kernel_rfl
theorem sz86:szB prog 86 33=true:=by kernel_rfl
theorem sz89:szB prog 89 33=true:=by kernel_rfl
theorem sz93:szB prog 93 1=true:=by kernel_rfl
open Go.Eng Go.RowKit
instance:AgC prog 110 34:=⟨ag110⟩
instance:AgC prog 112 10:=⟨ag112⟩
instance:AgC prog 152 4:=⟨ag152⟩
instance:AgC prog 157 58:=⟨ag157⟩
instance:AgC prog 230 8:=⟨ag230⟩
instance:AgC prog 232 64:=⟨ag232⟩
instance:AgC prog 24 2:=⟨ag24⟩
instance:AgC prog 248 34:=⟨ag248⟩
instance:AgC prog 26 32:=⟨ag26⟩
instance:AgC prog 262 64:=⟨ag262⟩
instance:AgC prog 28 33:=⟨ag28⟩
instance:AgC prog 33 42:=⟨ag33⟩
instance:AgC prog 35 6:=⟨ag35⟩
instance:AgC prog 38 54:=⟨ag38⟩
instance:AgC prog 45 42:=⟨ag45⟩
instance:AgC prog 47 54:=⟨ag47⟩
instance:AgC prog 89 33:=⟨ag89⟩
instance:ClC prog 10:=⟨cl10⟩
instance:ClC prog 100:=⟨cl100⟩
instance:ClC prog 101:=⟨cl101⟩
instance:ClC prog 102:=⟨cl102⟩
instance:ClC prog 104:=⟨cl104⟩
instance:ClC prog 106:=⟨cl106⟩
instance:ClC prog 107:=⟨cl107⟩
instance:ClC prog 115:=⟨cl115⟩
instance:ClC prog 12:=⟨cl12⟩
instance:ClC prog 123:=⟨cl123⟩
instance:ClC prog 124:=⟨cl124⟩
instance:ClC prog 125:=⟨cl125⟩
instance:ClC prog 126:=⟨cl126⟩
instance:ClC prog 127:=⟨cl127⟩
instance:ClC prog 128:=⟨cl128⟩
instance:ClC prog 129:=⟨cl129⟩
instance:ClC prog 13:=⟨cl13⟩
instance:ClC prog 130:=⟨cl130⟩
instance:ClC prog 132:=⟨cl132⟩
instance:ClC prog 133:=⟨cl133⟩
instance:ClC prog 134:=⟨cl134⟩
instance:ClC prog 136:=⟨cl136⟩
instance:ClC prog 14:=⟨cl14⟩
instance:ClC prog 142:=⟨cl142⟩
instance:ClC prog 143:=⟨cl143⟩
instance:ClC prog 144:=⟨cl144⟩
instance:ClC prog 145:=⟨cl145⟩
instance:ClC prog 146:=⟨cl146⟩
instance:ClC prog 154:=⟨cl154⟩
instance:ClC prog 156:=⟨cl156⟩
instance:ClC prog 157:=⟨cl157⟩
instance:ClC prog 158:=⟨cl158⟩
instance:ClC prog 16:=⟨cl16⟩
instance:ClC prog 160:=⟨cl160⟩
instance:ClC prog 161:=⟨cl161⟩
instance:ClC prog 162:=⟨cl162⟩
instance:ClC prog 163:=⟨cl163⟩
instance:ClC prog 164:=⟨cl164⟩
instance:ClC prog 165:=⟨cl165⟩
instance:ClC prog 166:=⟨cl166⟩
instance:ClC prog 167:=⟨cl167⟩
instance:ClC prog 168:=⟨cl168⟩
instance:ClC prog 17:=⟨cl17⟩
instance:ClC prog 18:=⟨cl18⟩
instance:ClC prog 181:=⟨cl181⟩
instance:ClC prog 182:=⟨cl182⟩
instance:ClC prog 183:=⟨cl183⟩
instance:ClC prog 184:=⟨cl184⟩
instance:ClC prog 186:=⟨cl186⟩
instance:ClC prog 188:=⟨cl188⟩
instance:ClC prog 189:=⟨cl189⟩
instance:ClC prog 190:=⟨cl190⟩
instance:ClC prog 192:=⟨cl192⟩
instance:ClC prog 194:=⟨cl194⟩
instance:ClC prog 195:=⟨cl195⟩
instance:ClC prog 196:=⟨cl196⟩
instance:ClC prog 197:=⟨cl197⟩
instance:ClC prog 198:=⟨cl198⟩
instance:ClC prog 199:=⟨cl199⟩
instance:ClC prog 20:=⟨cl20⟩
instance:ClC prog 200:=⟨cl200⟩
instance:ClC prog 201:=⟨cl201⟩
instance:ClC prog 202:=⟨cl202⟩
instance:ClC prog 21:=⟨cl21⟩
instance:ClC prog 213:=⟨cl213⟩
instance:ClC prog 214:=⟨cl214⟩
instance:ClC prog 215:=⟨cl215⟩
instance:ClC prog 216:=⟨cl216⟩
instance:ClC prog 217:=⟨cl217⟩
instance:ClC prog 218:=⟨cl218⟩
instance:ClC prog 220:=⟨cl220⟩
instance:ClC prog 23:=⟨cl23⟩
instance:ClC prog 25:=⟨cl25⟩
instance:ClC prog 250:=⟨cl250⟩
instance:ClC prog 251:=⟨cl251⟩
instance:ClC prog 252:=⟨cl252⟩
instance:ClC prog 26:=⟨cl26⟩
instance:ClC prog 27:=⟨cl27⟩
instance:ClC prog 28:=⟨cl28⟩
instance:ClC prog 29:=⟨cl29⟩
instance:ClC prog 30:=⟨cl30⟩
instance:ClC prog 32:=⟨cl32⟩
instance:ClC prog 33:=⟨cl33⟩
instance:ClC prog 34:=⟨cl34⟩
instance:ClC prog 35:=⟨cl35⟩
instance:ClC prog 40:=⟨cl40⟩
instance:ClC prog 48:=⟨cl48⟩
instance:ClC prog 49:=⟨cl49⟩
instance:ClC prog 51:=⟨cl51⟩
instance:ClC prog 52:=⟨cl52⟩
instance:ClC prog 53:=⟨cl53⟩
instance:ClC prog 54:=⟨cl54⟩
instance:ClC prog 61:=⟨cl61⟩
instance:ClC prog 63:=⟨cl63⟩
instance:ClC prog 64:=⟨cl64⟩
instance:ClC prog 65:=⟨cl65⟩
instance:ClC prog 66:=⟨cl66⟩
instance:ClC prog 67:=⟨cl67⟩
instance:ClC prog 68:=⟨cl68⟩
instance:ClC prog 71:=⟨cl71⟩
instance:ClC prog 72:=⟨cl72⟩
instance:ClC prog 73:=⟨cl73⟩
instance:ClC prog 74:=⟨cl74⟩
instance:ClC prog 75:=⟨cl75⟩
instance:ClC prog 77:=⟨cl77⟩
instance:ClC prog 79:=⟨cl79⟩
instance:ClC prog 80:=⟨cl80⟩
instance:ClC prog 81:=⟨cl81⟩
instance:ClC prog 82:=⟨cl82⟩
instance:ClC prog 84:=⟨cl84⟩
instance:ClC prog 85:=⟨cl85⟩
instance:ClC prog 86:=⟨cl86⟩
instance:ClC prog 96:=⟨cl96⟩
instance:ClC prog 97:=⟨cl97⟩
instance:ClC prog 98:=⟨cl98⟩
instance:ClC prog 99:=⟨cl99⟩
instance:FldC prog 110 0 0:=⟨fld110_0⟩
instance:FldC prog 110 1 1:=⟨fld110_1⟩
instance:FldC prog 110 2 33:=⟨fld110_2⟩
instance:FldC prog 112 0 0:=⟨fld112_0⟩
instance:FldC prog 112 1 1:=⟨fld112_1⟩
instance:FldC prog 112 2 2:=⟨fld112_2⟩
instance:FldC prog 112 3 3:=⟨fld112_3⟩
instance:FldC prog 112 4 4:=⟨fld112_4⟩
instance:FldC prog 112 5 5:=⟨fld112_5⟩
instance:FldC prog 112 6 6:=⟨fld112_6⟩
instance:FldC prog 112 7 7:=⟨fld112_7⟩
instance:FldC prog 112 8 8:=⟨fld112_8⟩
instance:FldC prog 112 9 9:=⟨fld112_9⟩
instance:FldC prog 152 0 0:=⟨fld152_0⟩
instance:FldC prog 152 1 1:=⟨fld152_1⟩
instance:FldC prog 152 2 2:=⟨fld152_2⟩
instance:FldC prog 152 3 3:=⟨fld152_3⟩
instance:FldC prog 157 0 0:=⟨fld157_0⟩
instance:FldC prog 157 1 1:=⟨fld157_1⟩
instance:FldC prog 157 10 44:=⟨fld157_10⟩
instance:FldC prog 157 11 45:=⟨fld157_11⟩
instance:FldC prog 157 12 51:=⟨fld157_12⟩
instance:FldC prog 157 13 52:=⟨fld157_13⟩
instance:FldC prog 157 14 53:=⟨fld157_14⟩
instance:FldC prog 157 15 54:=⟨fld157_15⟩
instance:FldC prog 157 16 55:=⟨fld157_16⟩
instance:FldC prog 157 17 56:=⟨fld157_17⟩
instance:FldC prog 157 18 57:=⟨fld157_18⟩
instance:FldC prog 157 2 2:=⟨fld157_2⟩
instance:FldC prog 157 3 3:=⟨fld157_3⟩
instance:FldC prog 157 4 4:=⟨fld157_4⟩
instance:FldC prog 157 5 5:=⟨fld157_5⟩
instance:FldC prog 157 6 6:=⟨fld157_6⟩
instance:FldC prog 157 7 38:=⟨fld157_7⟩
instance:FldC prog 157 8 39:=⟨fld157_8⟩
instance:FldC prog 157 9 43:=⟨fld157_9⟩
instance:FldC prog 220 0 0:=⟨fld220_0⟩
instance:FldC prog 220 1 1:=⟨fld220_1⟩
instance:FldC prog 223 0 0:=⟨fld223_0⟩
instance:FldC prog 223 1 1:=⟨fld223_1⟩
instance:FldC prog 248 0 0:=⟨fld248_0⟩
instance:FldC prog 248 1 1:=⟨fld248_1⟩
instance:FldC prog 248 2 33:=⟨fld248_2⟩
instance:FldC prog 24 0 0:=⟨fld24_0⟩
instance:FldC prog 24 1 1:=⟨fld24_1⟩
instance:FldC prog 28 0 0:=⟨fld28_0⟩
instance:FldC prog 28 1 1:=⟨fld28_1⟩
instance:FldC prog 33 0 0:=⟨fld33_0⟩
instance:FldC prog 33 1 1:=⟨fld33_1⟩
instance:FldC prog 33 2 2:=⟨fld33_2⟩
instance:FldC prog 33 3 35:=⟨fld33_3⟩
instance:FldC prog 33 4 36:=⟨fld33_4⟩
instance:FldC prog 33 5 37:=⟨fld33_5⟩
instance:FldC prog 33 6 38:=⟨fld33_6⟩
instance:FldC prog 33 7 39:=⟨fld33_7⟩
instance:FldC prog 33 8 40:=⟨fld33_8⟩
instance:FldC prog 33 9 41:=⟨fld33_9⟩
instance:FldC prog 35 0 0:=⟨fld35_0⟩
instance:FldC prog 35 1 1:=⟨fld35_1⟩
instance:FldC prog 35 2 2:=⟨fld35_2⟩
instance:FldC prog 35 3 3:=⟨fld35_3⟩
instance:FldC prog 35 4 4:=⟨fld35_4⟩
instance:FldC prog 35 5 5:=⟨fld35_5⟩
instance:FldC prog 38 0 0:=⟨fld38_0⟩
instance:FldC prog 38 1 1:=⟨fld38_1⟩
instance:FldC prog 38 2 2:=⟨fld38_2⟩
instance:FldC prog 38 3 4:=⟨fld38_3⟩
instance:FldC prog 38 4 46:=⟨fld38_4⟩
instance:FldC prog 38 5 47:=⟨fld38_5⟩
instance:FldC prog 38 6 53:=⟨fld38_6⟩
instance:FldC prog 45 0 0:=⟨fld45_0⟩
instance:FldC prog 45 1 1:=⟨fld45_1⟩
instance:FldC prog 45 2 2:=⟨fld45_2⟩
instance:FldC prog 45 3 35:=⟨fld45_3⟩
instance:FldC prog 45 4 36:=⟨fld45_4⟩
instance:FldC prog 45 5 37:=⟨fld45_5⟩
instance:FldC prog 45 6 38:=⟨fld45_6⟩
instance:FldC prog 45 7 39:=⟨fld45_7⟩
instance:FldC prog 45 8 40:=⟨fld45_8⟩
instance:FldC prog 45 9 41:=⟨fld45_9⟩
instance:FldC prog 47 0 0:=⟨fld47_0⟩
instance:FldC prog 47 1 1:=⟨fld47_1⟩
instance:FldC prog 47 2 2:=⟨fld47_2⟩
instance:FldC prog 47 3 4:=⟨fld47_3⟩
instance:FldC prog 47 4 46:=⟨fld47_4⟩
instance:FldC prog 47 5 47:=⟨fld47_5⟩
instance:FldC prog 47 6 53:=⟨fld47_6⟩
instance:FldC prog 86 0 0:=⟨fld86_0⟩
instance:FldC prog 86 1 32:=⟨fld86_1⟩
instance:FldC prog 89 0 0:=⟨fld89_0⟩
instance:FldC prog 89 1 32:=⟨fld89_1⟩
instance:MtC prog 130 "bastide/note.digest" 243:=⟨mt243⟩
instance:MtC prog 130 "bastide/note.many" 244:=⟨mt244⟩
instance:MtC prog 130 "bastide/note.num" 245:=⟨mt245⟩
instance:MtC prog 221 "bastide/note.batch" 247:=⟨mt247⟩
instance:MtC prog 221 "bastide/note.digest" 248:=⟨mt248⟩
instance:MtC prog 221 "bastide/note.many" 249:=⟨mt249⟩
instance:MtC prog 221 "bastide/note.num" 250:=⟨mt250⟩
instance:MtC prog 221 "bastide/note.str" 251:=⟨mt251⟩
instance:ScC prog 153:=⟨sc153⟩
instance:ScC prog 154:=⟨sc154⟩
instance:ScC prog 155:=⟨sc155⟩
instance:ScC prog 173:=⟨sc173⟩
instance:ScC prog 179:=⟨sc179⟩
instance:ScC prog 181:=⟨sc181⟩
instance:ScC prog 22:=⟨sc22⟩
instance:ScC prog 229:=⟨sc229⟩
instance:ScC prog 29:=⟨sc29⟩
instance:ScC prog 3:=⟨sc3⟩
instance:ScC prog 30:=⟨sc30⟩
instance:ScC prog 31:=⟨sc31⟩
instance:ScC prog 36:=⟨sc36⟩
instance:ScC prog 39:=⟨sc39⟩
instance:ScC prog 4:=⟨sc4⟩
instance:ScC prog 43:=⟨sc43⟩
instance:ScC prog 5:=⟨sc5⟩
instance:ScC prog 68:=⟨sc68⟩
instance:ScC prog 84:=⟨sc84⟩
instance:ScC prog 93:=⟨sc93⟩
instance:SlC prog 153 35 6 96:=⟨sl153⟩
instance:SlC prog 154 248 34 64:=⟨sl154⟩
instance:SlC prog 173 36 1 24:=⟨sl173⟩
instance:SlC prog 22 3 1 8:=⟨sl22⟩
instance:SlC prog 237 181 1 8:=⟨sl237⟩
instance:SlC prog 29 28 33 40:=⟨sl29⟩
instance:SlC prog 30 110 34 48:=⟨sl30⟩
instance:SlC prog 31 89 33 56:=⟨sl31⟩
instance:SlC prog 36 5 1 1:=⟨sl36⟩
instance:SlC prog 43 86 33 56:=⟨sl43⟩
instance:SlC prog 84 112 10 112:=⟨sl84⟩
instance:SzC prog 110 34:=⟨sz110⟩
instance:SzC prog 112 10:=⟨sz112⟩
instance:SzC prog 157 58:=⟨sz157⟩
instance:SzC prog 173 1:=⟨sz173⟩
instance:SzC prog 210 8:=⟨sz210⟩
instance:SzC prog 22 1:=⟨sz22⟩
instance:SzC prog 229 1:=⟨sz229⟩
instance:SzC prog 230 8:=⟨sz230⟩
instance:SzC prog 248 34:=⟨sz248⟩
instance:SzC prog 26 32:=⟨sz26⟩
instance:SzC prog 262 64:=⟨sz262⟩
instance:SzC prog 28 33:=⟨sz28⟩
instance:SzC prog 29 1:=⟨sz29⟩
instance:SzC prog 3 1:=⟨sz3⟩
instance:SzC prog 30 1:=⟨sz30⟩
instance:SzC prog 31 1:=⟨sz31⟩
instance:SzC prog 33 42:=⟨sz33⟩
instance:SzC prog 35 6:=⟨sz35⟩
instance:SzC prog 36 1:=⟨sz36⟩
instance:SzC prog 38 54:=⟨sz38⟩
instance:SzC prog 39 1:=⟨sz39⟩
instance:SzC prog 4 1:=⟨sz4⟩
instance:SzC prog 43 1:=⟨sz43⟩
instance:SzC prog 45 42:=⟨sz45⟩
instance:SzC prog 47 54:=⟨sz47⟩
instance:SzC prog 5 1:=⟨sz5⟩
instance:SzC prog 68 1:=⟨sz68⟩
instance:SzC prog 89 33:=⟨sz89⟩
instance:SzC prog 93 1:=⟨sz93⟩
instance:UlC prog 153 35:=⟨underlying153⟩
instance:UlC prog 154 248:=⟨underlying154⟩
instance:UlC prog 155 26:=⟨underlying155⟩
instance:UlC prog 173 36:=⟨underlying173⟩
instance:UlC prog 22 3:=⟨underlying22⟩
instance:UlC prog 237 181:=⟨underlying237⟩
instance:UlC prog 29 28:=⟨underlying29⟩
instance:UlC prog 30 110:=⟨underlying30⟩
instance:UlC prog 31 89:=⟨underlying31⟩
instance:UlC prog 36 5:=⟨underlying36⟩
instance:UlC prog 43 86:=⟨underlying43⟩
instance:UlC prog 84 112:=⟨underlying84⟩
instance:ZrC prog 3 (iv 0):=⟨by kernel_rfl⟩
instance:ZrC prog 26 (.agg (.int .u8 0::.int .u8 0::.int .u8 0::.int .u8 0::.int .u8 0::.int .u8 0::.int .u8 0::.int .u8 0::.int .u8 0::.int .u8 0::.int .u8 0::.int .u8 0::.int .u8 0::.int .u8 0::.int .u8 0::.int .u8 0::.int .u8 0::.int .u8 0::.int .u8 0::.int .u8 0::.int .u8 0::.int .u8 0::.int .u8 0::.int .u8 0::.int .u8 0::.int .u8 0::.int .u8 0::.int .u8 0::.int .u8 0::.int .u8 0::.int .u8 0::.int .u8 0::[]).toArray):=⟨by kernel_rfl⟩
instance:ZrC prog 28 (.agg (iv 0::.int .u8 0::.int .u8 0::.int .u8 0::.int .u8 0::.int .u8 0::.int .u8 0::.int .u8 0::.int .u8 0::.int .u8 0::.int .u8 0::.int .u8 0::.int .u8 0::.int .u8 0::.int .u8 0::.int .u8 0::.int .u8 0::.int .u8 0::.int .u8 0::.int .u8 0::.int .u8 0::.int .u8 0::.int .u8 0::.int .u8 0::.int .u8 0::.int .u8 0::.int .u8 0::.int .u8 0::.int .u8 0::.int .u8 0::.int .u8 0::.int .u8 0::.int .u8 0::[]).toArray):=⟨by kernel_rfl⟩
instance:ZrC prog 35 (.agg (iv 0::iv 0::iv 0::s0::s0::s0::[]).toArray):=⟨by kernel_rfl⟩
instance:ZrC prog 36 (s0):=⟨by kernel_rfl⟩
instance:ZrC prog 110 (.agg (iv 0::.int .u8 0::.int .u8 0::.int .u8 0::.int .u8 0::.int .u8 0::.int .u8 0::.int .u8 0::.int .u8 0::.int .u8 0::.int .u8 0::.int .u8 0::.int .u8 0::.int .u8 0::.int .u8 0::.int .u8 0::.int .u8 0::.int .u8 0::.int .u8 0::.int .u8 0::.int .u8 0::.int .u8 0::.int .u8 0::.int .u8 0::.int .u8 0::.int .u8 0::.int .u8 0::.int .u8 0::.int .u8 0::.int .u8 0::.int .u8 0::.int .u8 0::.int .u8 0::iv 0::[]).toArray):=⟨by kernel_rfl⟩
instance:ZrC prog 112 (.agg (iv 0::iv 0::iv 0::iv 0::iv 0::iv 0::s0::iv 0::iv 0::s0::[]).toArray):=⟨by kernel_rfl⟩
instance:ZrC prog 157 (.agg (iv 0::iv 0::iv 0::iv 0::iv 0::iv 0::.int .u8 0::.int .u8 0::.int .u8 0::.int .u8 0::.int .u8 0::.int .u8 0::.int .u8 0::.int .u8 0::.int .u8 0::.int .u8 0::.int .u8 0::.int .u8 0::.int .u8 0::.int .u8 0::.int .u8 0::.int .u8 0::.int .u8 0::.int .u8 0::.int .u8 0::.int .u8 0::.int .u8 0::.int .u8 0::.int .u8 0::.int .u8 0::.int .u8 0::.int .u8 0::.int .u8 0::.int .u8 0::.int .u8 0::.int .u8 0::.int .u8 0::.int .u8 0::s0::iv 0::s0::iv 0::s0::iv 0::iv 0::iv 0::iv 0::iv 0::s0::s0::s0::s0::s0::iv 0::iv 0::s0::s0::s0::[]).toArray):=⟨by kernel_rfl⟩
instance:ZrC prog 210 (.agg (iv 0::iv 0::iv 0::iv 0::iv 0::iv 0::iv 0::iv 0::[]).toArray):=⟨by kernel_rfl⟩
instance:ZrC prog 248 (.agg (iv 0::.int .u8 0::.int .u8 0::.int .u8 0::.int .u8 0::.int .u8 0::.int .u8 0::.int .u8 0::.int .u8 0::.int .u8 0::.int .u8 0::.int .u8 0::.int .u8 0::.int .u8 0::.int .u8 0::.int .u8 0::.int .u8 0::.int .u8 0::.int .u8 0::.int .u8 0::.int .u8 0::.int .u8 0::.int .u8 0::.int .u8 0::.int .u8 0::.int .u8 0::.int .u8 0::.int .u8 0::.int .u8 0::.int .u8 0::.int .u8 0::.int .u8 0::.int .u8 0::s0::[]).toArray):=⟨by kernel_rfl⟩
instance:ClC prog 11:=⟨cl11⟩
instance:ClC prog 15:=⟨cl15⟩
instance:ZrC prog 38 (.agg (iv 0::iv 0::iv 0::s0::iv 0::.bool false::iv 0::.int .u8 0::.int .u8 0::.int .u8 0::.int .u8 0::.int .u8 0::.int .u8 0::.int .u8 0::.int .u8 0::.int .u8 0::.int .u8 0::.int .u8 0::.int .u8 0::.int .u8 0::.int .u8 0::.int .u8 0::.int .u8 0::.int .u8 0::.int .u8 0::.int .u8 0::.int .u8 0::.int .u8 0::.int .u8 0::.int .u8 0::.int .u8 0::.int .u8 0::.int .u8 0::.int .u8 0::.int .u8 0::.int .u8 0::.int .u8 0::.int .u8 0::.int .u8 0::s0::s0::s0::iv 0::s0::.bool false::s0::.bool false::iv 0::iv 0::iv 0::s0::s0::s0::s0::[]).toArray):=⟨by kernel_rfl⟩
instance:ClC prog 19:=⟨cl19⟩
instance:ZrC prog 47 (.agg (iv 0::iv 0::iv 0::s0::iv 0::.bool false::iv 0::.int .u8 0::.int .u8 0::.int .u8 0::.int .u8 0::.int .u8 0::.int .u8 0::.int .u8 0::.int .u8 0::.int .u8 0::.int .u8 0::.int .u8 0::.int .u8 0::.int .u8 0::.int .u8 0::.int .u8 0::.int .u8 0::.int .u8 0::.int .u8 0::.int .u8 0::.int .u8 0::.int .u8 0::.int .u8 0::.int .u8 0::.int .u8 0::.int .u8 0::.int .u8 0::.int .u8 0::.int .u8 0::.int .u8 0::.int .u8 0::.int .u8 0::.int .u8 0::s0::s0::s0::iv 0::s0::.bool false::s0::.bool false::iv 0::iv 0::iv 0::s0::s0::s0::s0::[]).toArray):=⟨by kernel_rfl⟩
instance:ClC prog 22:=⟨cl22⟩
instance:ClC prog 24:=⟨cl24⟩
instance:ClC prog 3:=⟨cl3⟩
instance:ClC prog 6:=⟨cl6⟩
instance:ClC prog 5:=⟨cl5⟩
instance:SlC prog 67 47 54 368:=⟨sl67⟩
instance:UlC prog 67 47:=⟨underlying67⟩
instance:ClC prog 4:=⟨cl4⟩
instance:ZrC prog 68 (.pointer none):=⟨by kernel_rfl⟩
instance:ClC prog 31:=⟨cl31⟩
instance:FldC prog 72 1 1:=⟨fld72_1⟩
instance:FldC prog 72 0 0:=⟨fld72_0⟩
instance:ClC prog 36:=⟨cl36⟩
instance:ZrC prog 45 (.agg (iv 0::.bool false::iv 0::.int .u8 0::.int .u8 0::.int .u8 0::.int .u8 0::.int .u8 0::.int .u8 0::.int .u8 0::.int .u8 0::.int .u8 0::.int .u8 0::.int .u8 0::.int .u8 0::.int .u8 0::.int .u8 0::.int .u8 0::.int .u8 0::.int .u8 0::.int .u8 0::.int .u8 0::.int .u8 0::.int .u8 0::.int .u8 0::.int .u8 0::.int .u8 0::.int .u8 0::.int .u8 0::.int .u8 0::.int .u8 0::.int .u8 0::.int .u8 0::.int .u8 0::.int .u8 0::s0::s0::s0::iv 0::s0::.bool false::s0::[]).toArray):=⟨by kernel_rfl⟩
instance:ClC prog 37:=⟨cl37⟩
instance:ClC prog 38:=⟨cl38⟩
instance:ClC prog 39:=⟨cl39⟩
instance:ClC prog 41:=⟨cl41⟩
instance:ClC prog 42:=⟨cl42⟩
instance:ZrC prog 33 (.agg (iv 0::.bool false::iv 0::.int .u8 0::.int .u8 0::.int .u8 0::.int .u8 0::.int .u8 0::.int .u8 0::.int .u8 0::.int .u8 0::.int .u8 0::.int .u8 0::.int .u8 0::.int .u8 0::.int .u8 0::.int .u8 0::.int .u8 0::.int .u8 0::.int .u8 0::.int .u8 0::.int .u8 0::.int .u8 0::.int .u8 0::.int .u8 0::.int .u8 0::.int .u8 0::.int .u8 0::.int .u8 0::.int .u8 0::.int .u8 0::.int .u8 0::.int .u8 0::.int .u8 0::.int .u8 0::s0::s0::s0::iv 0::s0::.bool false::s0::[]).toArray):=⟨by kernel_rfl⟩
instance:ClC prog 43:=⟨cl43⟩
instance:ClC prog 44:=⟨cl44⟩
instance:ClC prog 45:=⟨cl45⟩
instance:ClC prog 46:=⟨cl46⟩
instance:ClC prog 47:=⟨cl47⟩
instance:ZrC prog 93 (.pointer none):=⟨by kernel_rfl⟩
instance:ClC prog 50:=⟨cl50⟩
instance:FldC prog 94 1 1:=⟨fld94_1⟩
instance:FldC prog 94 0 0:=⟨fld94_0⟩
instance:ClC prog 55:=⟨cl55⟩
instance:ClC prog 56:=⟨cl56⟩
instance:ClC prog 57:=⟨cl57⟩
instance:ClC prog 58:=⟨cl58⟩
instance:FldC prog 103 1 1:=⟨fld103_1⟩
instance:FldC prog 103 0 0:=⟨fld103_0⟩
instance:ClC prog 59:=⟨cl59⟩
instance:ClC prog 60:=⟨cl60⟩
instance:ClC prog 62:=⟨cl62⟩
instance:ClC prog 69:=⟨cl69⟩
instance:ClC prog 70:=⟨cl70⟩
instance:ClC prog 76:=⟨cl76⟩
instance:ClC prog 78:=⟨cl78⟩
instance:ClC prog 83:=⟨cl83⟩
instance:ClC prog 87:=⟨cl87⟩
instance:ClC prog 89:=⟨cl89⟩
instance:ClC prog 90:=⟨cl90⟩
instance:ClC prog 91:=⟨cl91⟩
instance:ClC prog 92:=⟨cl92⟩
instance:ClC prog 103:=⟨cl103⟩
instance:ClC prog 105:=⟨cl105⟩
instance:ClC prog 108:=⟨cl108⟩
instance:ClC prog 109:=⟨cl109⟩
instance:ClC prog 110:=⟨cl110⟩
instance:ClC prog 111:=⟨cl111⟩
instance:ZrC prog 86 (.agg (.int .u8 0::.int .u8 0::.int .u8 0::.int .u8 0::.int .u8 0::.int .u8 0::.int .u8 0::.int .u8 0::.int .u8 0::.int .u8 0::.int .u8 0::.int .u8 0::.int .u8 0::.int .u8 0::.int .u8 0::.int .u8 0::.int .u8 0::.int .u8 0::.int .u8 0::.int .u8 0::.int .u8 0::.int .u8 0::.int .u8 0::.int .u8 0::.int .u8 0::.int .u8 0::.int .u8 0::.int .u8 0::.int .u8 0::.int .u8 0::.int .u8 0::.int .u8 0::s0::[]).toArray):=⟨by kernel_rfl⟩
instance:SzC prog 86 33:=⟨sz86⟩
instance:ClC prog 112:=⟨cl112⟩
instance:SzC prog 84 1:=⟨sz84⟩
instance:AgC prog 86 33:=⟨ag86⟩
instance:ClC prog 113:=⟨cl113⟩
instance:ClC prog 114:=⟨cl114⟩
instance:ClC prog 116:=⟨cl116⟩
instance:ClC prog 117:=⟨cl117⟩
instance:ClC prog 118:=⟨cl118⟩
instance:ClC prog 119:=⟨cl119⟩
instance:ClC prog 122:=⟨cl122⟩
instance:ZrC prog 89 (.agg (.int .u8 0::.int .u8 0::.int .u8 0::.int .u8 0::.int .u8 0::.int .u8 0::.int .u8 0::.int .u8 0::.int .u8 0::.int .u8 0::.int .u8 0::.int .u8 0::.int .u8 0::.int .u8 0::.int .u8 0::.int .u8 0::.int .u8 0::.int .u8 0::.int .u8 0::.int .u8 0::.int .u8 0::.int .u8 0::.int .u8 0::.int .u8 0::.int .u8 0::.int .u8 0::.int .u8 0::.int .u8 0::.int .u8 0::.int .u8 0::.int .u8 0::.int .u8 0::s0::[]).toArray):=⟨by kernel_rfl⟩
instance:ClC prog 147:=⟨cl147⟩
instance:ClC prog 120:=⟨cl120⟩
instance:ClC prog 121:=⟨cl121⟩
instance:FldC prog 175 1 1:=⟨fld175_1⟩
instance:FldC prog 175 0 0:=⟨fld175_0⟩
instance:ZrC prog 230 (.agg (.int .u32 0::.int .u32 0::.int .u32 0::.int .u32 0::.int .u32 0::.int .u32 0::.int .u32 0::.int .u32 0::[]).toArray):=⟨by kernel_rfl⟩
instance:ZrC prog 232 (.agg (.int .u8 0::.int .u8 0::.int .u8 0::.int .u8 0::.int .u8 0::.int .u8 0::.int .u8 0::.int .u8 0::.int .u8 0::.int .u8 0::.int .u8 0::.int .u8 0::.int .u8 0::.int .u8 0::.int .u8 0::.int .u8 0::.int .u8 0::.int .u8 0::.int .u8 0::.int .u8 0::.int .u8 0::.int .u8 0::.int .u8 0::.int .u8 0::.int .u8 0::.int .u8 0::.int .u8 0::.int .u8 0::.int .u8 0::.int .u8 0::.int .u8 0::.int .u8 0::.int .u8 0::.int .u8 0::.int .u8 0::.int .u8 0::.int .u8 0::.int .u8 0::.int .u8 0::.int .u8 0::.int .u8 0::.int .u8 0::.int .u8 0::.int .u8 0::.int .u8 0::.int .u8 0::.int .u8 0::.int .u8 0::.int .u8 0::.int .u8 0::.int .u8 0::.int .u8 0::.int .u8 0::.int .u8 0::.int .u8 0::.int .u8 0::.int .u8 0::.int .u8 0::.int .u8 0::.int .u8 0::.int .u8 0::.int .u8 0::.int .u8 0::.int .u8 0::[]).toArray):=⟨by kernel_rfl⟩
instance:ZrC prog 262 (.agg (.int .u32 0::.int .u32 0::.int .u32 0::.int .u32 0::.int .u32 0::.int .u32 0::.int .u32 0::.int .u32 0::.int .u32 0::.int .u32 0::.int .u32 0::.int .u32 0::.int .u32 0::.int .u32 0::.int .u32 0::.int .u32 0::.int .u32 0::.int .u32 0::.int .u32 0::.int .u32 0::.int .u32 0::.int .u32 0::.int .u32 0::.int .u32 0::.int .u32 0::.int .u32 0::.int .u32 0::.int .u32 0::.int .u32 0::.int .u32 0::.int .u32 0::.int .u32 0::.int .u32 0::.int .u32 0::.int .u32 0::.int .u32 0::.int .u32 0::.int .u32 0::.int .u32 0::.int .u32 0::.int .u32 0::.int .u32 0::.int .u32 0::.int .u32 0::.int .u32 0::.int .u32 0::.int .u32 0::.int .u32 0::.int .u32 0::.int .u32 0::.int .u32 0::.int .u32 0::.int .u32 0::.int .u32 0::.int .u32 0::.int .u32 0::.int .u32 0::.int .u32 0::.int .u32 0::.int .u32 0::.int .u32 0::.int .u32 0::.int .u32 0::.int .u32 0::[]).toArray):=⟨by kernel_rfl⟩
instance:ClC prog 223:=⟨cl223⟩
instance:ClC prog 224:=⟨cl224⟩
end Go.Proofs.Tryz
namespace Go.Eng
theorem many_num:manyP 9007199254740991=numP:=by
 funext b
 unfold manyP bindP
 cases h:numP b with
 |none=>rfl
 | some v =>
  obtain ⟨n,t⟩:=v
  have:=(num_cod.back _ _ _ h).2
  unfold isNum at this
  show (if (9007199254740991:Int)<n then failP else pureP n) t=some (n,t)
  rw [if_neg (by omega)]
  rfl
def yesP:PR Bool:=bindP (manyP 1) fun n=>pureP (decide (n=1))
def yesE (x:Bool):List UInt8:=numE (if x then 1 else 0)
theorem yes_cod:Cod yesP yesE (fun _=>True):=by
 refine ⟨fun x t _=> ?_,fun b x t hb=> ?_⟩
 ·unfold yesP yesE
  rw [(many_cod 1).bindRd (by cases x<;>(unfold isNum;decide))]
  cases x<;>rfl
 ·unfold yesP at hb
  obtain ⟨n,u,h1,h2⟩:=bindP_some.1 hb
  simp only [pureP,Option.some.injEq,Prod.mk.injEq] at h2
  obtain ⟨rfl,rfl⟩:=h2
  obtain ⟨rfl,o1,o2⟩:=(many_cod 1).back _ _ _ h1
  unfold isNum at o1
  refine ⟨?_,trivial⟩
  unfold yesE
  by_cases h:n=1
  ·rw [h];rfl
  ·obtain rfl : n = 0 := by omega
   rfl
def istandP:PR Stn:=bindP numP fun seq=>bindP digP fun dig=>bindP (manyP 1048576) fun view=>pureP ⟨seq,dig,view⟩
def istandE (x:Stn):List UInt8:=standE x
def istandOk (x:Stn):Prop:=isNum x.seq∧True∧isNum x.view∧x.view≤1048576
theorem istand_cod:Cod istandP istandE istandOk:=by
 refine ⟨fun x t hx=> ?_,fun b x t hb=> ?_⟩
 ·obtain ⟨h0, h1, h2⟩ := hx
  unfold istandP istandE standE
  simp only [List.append_assoc]
  rw [(num_cod).bindRd h0,(dig_cod).bindRd h1,(many_cod 1048576).bindRd h2]
  rfl
 ·unfold istandP at hb
  obtain ⟨a0,u0,e0,hb⟩:=bindP_some.1 hb
  obtain ⟨a1,u1,e1,hb⟩:=bindP_some.1 hb
  obtain ⟨a2,u2,e2,hb⟩:=bindP_some.1 hb
  simp only [pureP,Option.some.injEq,Prod.mk.injEq] at hb
  obtain ⟨rfl,rfl⟩:=hb
  obtain ⟨rfl,o0⟩:=(num_cod).back _ _ _ e0
  obtain ⟨rfl,o1⟩:=(dig_cod).back _ _ _ e1
  obtain ⟨rfl,o2⟩:=(many_cod 1048576).back _ _ _ e2
  exact ⟨by simp only [istandE,standE,List.append_assoc],o0,o1,o2⟩
def inodeP:PR Int:=manyP 28
def inodeE (x:Int):List UInt8:=numE x
def inodeOk (x:Int):Prop:=isNum x∧x≤28
theorem inode_cod:Cod inodeP inodeE inodeOk:=many_cod 28
def headC (node:Int) (s:List UInt8):List UInt8:=numE 7++(numE node++(numE 0++(numE 0++s)))
def chgT (s : List UInt8) : Option Chn := match numP s with
 |none=>none
 |some (node,_)=>if (unpackS (headC node s)).2=0 then some (unpackS (headC node s)).1.change else none
def chgNote (c:Chn):Nte:={note0 with kind:=7,from_:=c.node,change:=c}
theorem chgNote_may {c:Chn} (h:ChangeMay c):PackMay (chgNote c):=by
 refine ⟨⟨(by decide:(1:Int)≤7),(by decide:(7:Int)≤16),(by decide:(0:Int)≤0),(by decide:(0:Int)≤2),(by decide:(0:Int)≤0),(by decide:(0:Int)≤1048576), .inr (.inr ⟨h.1,h.2.1⟩), ?_⟩,rfl⟩
 unfold FitsN chgNote
 simp only
 repeat (first|rw [if_neg (by decide)]|rw [if_pos (by decide)])
 first|exact ⟨h,rfl⟩|exact ⟨rfl,h⟩|exact h|(refine ⟨?_, ?_⟩<;>first|exact h|trivial)
theorem chgNote_E (c:Chn):noteE (chgNote c)=headC c.node (changeE c):=by
 unfold noteE bodyE chgNote headC
 simp only
 repeat (first|rw [if_neg (by decide)]|rw [if_pos (by decide)])
 rfl
theorem kind7 {n:Nte} (hk:n.kind=7) (h:PackMay n):ChangeMay n.change∧bodyE n=changeE n.change:=by
 constructor
 ·have h2 := h.1.2.2.2.2.2.2.2
  unfold FitsN at h2
  repeat (first|rw [if_neg (by omega)] at h2|rw [if_pos (by omega)] at h2)
  first|exact h2|exact h2.1|exact h2.2
 ·unfold bodyE
  repeat (first|rw [if_neg (by omega)]|rw [if_pos (by omega)])
theorem chgT_iff {s:List UInt8} {c:Chn}:chgT s=some c↔ChangeMay c∧s=changeE c:=by
 constructor
 ·intro h
  unfold chgT at h
  cases hn:numP s with
  |none=>rw [hn] at h;cases h
  | some v =>
   obtain ⟨node,t⟩:=v
   rw [hn] at h
   simp only at h
   split at h
   ·rename_i h0
    cases h
    obtain ⟨n,h1,h2,h3⟩:=unpack_some h0
    rw [h1]
    have o:=(num_cod.back _ _ _ hn).2
    have e1:numP (headC node s)=some (7,numE node++(numE 0++(numE 0++s))):=num_cod.rd 7 _ (by unfold isNum;decide)
    obtain ⟨j1,j2,j3,j4,_⟩:=(may_fine h2.1).1
    have e2:numP (noteE n)=some (n.kind,numE n.from_++(numE n.group++(numE n.epoch++bodyE n))):=num_cod.rd _ _ j1
    rw [←h3,e1] at e2
    simp only [Option.some.injEq,Prod.mk.injEq] at e2
    obtain ⟨k1,e2⟩:=e2
    have e3:=congrArg numP e2
    rw [num_cod.rd _ _ o,num_cod.rd _ _ j2] at e3
    simp only [Option.some.injEq,Prod.mk.injEq] at e3
    obtain ⟨_,e3⟩:=e3
    have e4:=congrArg numP e3
    rw [num_cod.rd _ _ (by unfold isNum;decide),num_cod.rd _ _ j3] at e4
    simp only [Option.some.injEq,Prod.mk.injEq] at e4
    obtain ⟨_,e4⟩:=e4
    have e5:=congrArg numP e4
    rw [num_cod.rd _ _ (by unfold isNum;decide),num_cod.rd _ _ j4] at e5
    simp only [Option.some.injEq,Prod.mk.injEq] at e5
    have k7:=kind7 k1.symm h2
    exact ⟨k7.1,by rw [e5.2,k7.2]⟩
   ·cases h
 ·rintro ⟨h, rfl⟩
  have o:=change_fine h
  unfold chgT
  have e1:numP (changeE c)=some (c.node,numE c.view++(numE c.low++(listE markE c.marks++(listE standE c.p++listE standE c.q)))):=num_cod.rd _ _ o.1
  rw [e1]
  simp only
  rw [←chgNote_E,unpack_pack (chgNote_may h)]
  rfl
def chgTP : PR Chn := fun b => match strP 65536 b with
 | some (s, t) => match chgT s with
  |some c=>some (c,t)
  |none=>none
 |none=>none
def chgTE (c:Chn):List UInt8:=strE (changeE c)
theorem chg_cod:Cod chgTP chgTE ChangeMay:=by
 refine ⟨fun x t hx=> ?_,fun b x t hb=> ?_⟩
 ·unfold chgTP chgTE
  rw [(str_cod 65536 (by decide) (by decide)).rd _ t (by have:=changeE_len (change_fine hx);omega)]
  simp only
  rw [chgT_iff.2 ⟨hx,rfl⟩]
 ·unfold chgTP at hb
  cases hs:strP 65536 b with
  |none=>rw [hs] at hb;cases hb
  | some v =>
   obtain ⟨s,t'⟩:=v
   rw [hs] at hb
   simp only at hb
   cases hc:chgT s with
   |none=>rw [hc] at hb;cases hb
   | some c =>
    rw [hc] at hb
    cases hb
    obtain ⟨h1,rfl⟩:=chgT_iff.1 hc
    exact ⟨((str_cod 65536 (by decide) (by decide)).back _ _ _ hs).1,h1⟩
def optP (l:Bool):PR Chn:=if l then chgTP else pureP change0
def optE (l:Bool) (c:Chn):List UInt8:=if l then chgTE c else []
def optOk (l:Bool) (c:Chn):Prop:=if l then ChangeMay c else c=change0
instance (l:Bool) (c:Chn):Decidable (optOk l c):=by unfold optOk;infer_instance
theorem opt_cod (l:Bool):Cod (optP l) (optE l) (optOk l):=by
 cases l with
 |true=>exact chg_cod
 | false => exact ⟨fun x t hx => by cases (show x = change0 from hx); rfl, fun b x t hb => by
   simp only [optP,Bool.false_eq_true,if_false,pureP,Option.some.injEq,Prod.mk.injEq] at hb
   obtain ⟨rfl,rfl⟩:=hb
   exact ⟨rfl,rfl⟩⟩
structure Bat where
 dig:Dig
 wishes:List Wsh
deriving DecidableEq
theorem Bat_eq {x y:Bat}:x=y↔x.dig=y.dig∧x.wishes=y.wishes:=by
 cases x;cases y;simp only [Bat.mk.injEq]
def batP:PR Bat:=bindP digP fun dig=>bindP batchP fun wishes=>pureP ⟨dig,wishes⟩
def batE (x:Bat):List UInt8:=digE x.dig++(batchE x.wishes)
def batOk (x:Bat):Prop:=(True)∧(batchOk x.wishes)
theorem bat_cod:Cod batP batE batOk:=by
 refine ⟨fun x t hx=> ?_,fun b x t hb=> ?_⟩
 ·obtain ⟨h0, h1⟩ := hx
  unfold batP batE
  simp only [List.append_assoc]
  rw [(dig_cod).bindRd h0,(batch_cod).bindRd h1]
  rfl
 ·unfold batP at hb
  obtain ⟨a0,u0,e0,hb⟩:=bindP_some.1 hb
  obtain ⟨a1,u1,e1,hb⟩:=bindP_some.1 hb
  simp only [pureP,Option.some.injEq,Prod.mk.injEq] at hb
  obtain ⟨rfl,rfl⟩:=hb
  obtain ⟨rfl,o0⟩:=(dig_cod).back _ _ _ e0
  obtain ⟨rfl,o1⟩:=(batch_cod).back _ _ _ e1
  exact ⟨by simp only [batE,List.append_assoc],o0,o1⟩
structure Img where
 view:Int
 active:Bool
 low:Mrk
 own:List Mrk
 p:List Stn
 q:List Stn
 ran:Int
 done:List Mrk
 ended:Bool
 batches:List Bat
deriving DecidableEq
theorem Img_eq {x y:Img}:x=y↔x.view=y.view∧x.active=y.active∧x.low=y.low∧x.own=y.own∧x.p=y.p∧x.q=y.q∧x.ran=y.ran∧x.done=y.done∧x.ended=y.ended∧x.batches=y.batches:=by
 cases x;cases y;simp only [Img.mk.injEq]
def imgP:PR Img:=bindP (manyP 1048576) fun view=>bindP yesP fun active=>bindP markP fun low=>bindP (listP markP 4) fun own=>bindP (listP istandP 8) fun p=>bindP (listP istandP 32) fun q=>bindP numP fun ran=>bindP (listP markP 8) fun done=>bindP yesP fun ended=>bindP (listP batP 40) fun batches=>pureP ⟨view,active,low,own,p,q,ran,done,ended,batches⟩
def imgE (x:Img):List UInt8:=numE x.view++(yesE x.active++(markE x.low++(listE markE x.own++(listE istandE x.p++(listE istandE x.q++(numE x.ran++(listE markE x.done++(yesE x.ended++(listE batE x.batches)))))))))
def imgOk (x:Img):Prop:=(isNum x.view∧x.view≤1048576)∧(True)∧(markOk x.low)∧((x.own.length:Int)≤4∧∀y∈x.own,markOk y)∧((x.p.length:Int)≤8∧∀y∈x.p,istandOk y)∧((x.q.length:Int)≤32∧∀y∈x.q,istandOk y)∧(isNum x.ran)∧((x.done.length:Int)≤8∧∀y∈x.done,markOk y)∧(True)∧((x.batches.length:Int)≤40∧∀y∈x.batches,batOk y)
theorem img_cod:Cod imgP imgE imgOk:=by
 refine ⟨fun x t hx=> ?_,fun b x t hb=> ?_⟩
 ·obtain ⟨h0, h1, h2, h3, h4, h5, h6, h7, h8, h9⟩ := hx
  unfold imgP imgE
  simp only [List.append_assoc]
  rw [(many_cod 1048576).bindRd h0,(yes_cod).bindRd h1,(mark_cod).bindRd h2,(list_cod mark_cod 4 (by decide)).bindRd h3,(list_cod istand_cod 8 (by decide)).bindRd h4,(list_cod istand_cod 32 (by decide)).bindRd h5,(num_cod).bindRd h6,(list_cod mark_cod 8 (by decide)).bindRd h7,(yes_cod).bindRd h8,(list_cod bat_cod 40 (by decide)).bindRd h9]
  rfl
 ·unfold imgP at hb
  obtain ⟨a0,u0,e0,hb⟩:=bindP_some.1 hb
  obtain ⟨a1,u1,e1,hb⟩:=bindP_some.1 hb
  obtain ⟨a2,u2,e2,hb⟩:=bindP_some.1 hb
  obtain ⟨a3,u3,e3,hb⟩:=bindP_some.1 hb
  obtain ⟨a4,u4,e4,hb⟩:=bindP_some.1 hb
  obtain ⟨a5,u5,e5,hb⟩:=bindP_some.1 hb
  obtain ⟨a6,u6,e6,hb⟩:=bindP_some.1 hb
  obtain ⟨a7,u7,e7,hb⟩:=bindP_some.1 hb
  obtain ⟨a8,u8,e8,hb⟩:=bindP_some.1 hb
  obtain ⟨a9,u9,e9,hb⟩:=bindP_some.1 hb
  simp only [pureP,Option.some.injEq,Prod.mk.injEq] at hb
  obtain ⟨rfl,rfl⟩:=hb
  obtain ⟨rfl,o0⟩:=(many_cod 1048576).back _ _ _ e0
  obtain ⟨rfl,o1⟩:=(yes_cod).back _ _ _ e1
  obtain ⟨rfl,o2⟩:=(mark_cod).back _ _ _ e2
  obtain ⟨rfl,o3⟩:=(list_cod mark_cod 4 (by decide)).back _ _ _ e3
  obtain ⟨rfl,o4⟩:=(list_cod istand_cod 8 (by decide)).back _ _ _ e4
  obtain ⟨rfl,o5⟩:=(list_cod istand_cod 32 (by decide)).back _ _ _ e5
  obtain ⟨rfl,o6⟩:=(num_cod).back _ _ _ e6
  obtain ⟨rfl,o7⟩:=(list_cod mark_cod 8 (by decide)).back _ _ _ e7
  obtain ⟨rfl,o8⟩:=(yes_cod).back _ _ _ e8
  obtain ⟨rfl,o9⟩:=(list_cod bat_cod 40 (by decide)).back _ _ _ e9
  exact ⟨by simp only [imgE,List.append_assoc],o0,o1,o2,o3,o4,o5,o6,o7,o8,o9⟩
structure Rpl where
 group:Int
 epoch:Int
 faults:Int
 nodes:List Int
 img:Img
 left:Bool
 change:Chn
 state:List UInt8
deriving DecidableEq
theorem Rpl_eq {x y:Rpl}:x=y↔x.group=y.group∧x.epoch=y.epoch∧x.faults=y.faults∧x.nodes=y.nodes∧x.img=y.img∧x.left=y.left∧x.change=y.change∧x.state=y.state:=by
 cases x;cases y;simp only [Rpl.mk.injEq]
def rplP:PR Rpl:=bindP (manyP 2) fun group=>bindP (manyP 1048576) fun epoch=>bindP (manyP 2) fun faults=>bindP (listP inodeP 7) fun nodes=>bindP imgP fun img=>bindP yesP fun left=>bindP (optP left) fun change=>bindP (strP 4096) fun state=>pureP ⟨group,epoch,faults,nodes,img,left,change,state⟩
def rplE (x:Rpl):List UInt8:=numE x.group++(numE x.epoch++(numE x.faults++(listE inodeE x.nodes++(imgE x.img++(yesE x.left++((optE x.left) x.change++(strE x.state)))))))
def rplOk (x:Rpl):Prop:=(isNum x.group∧x.group≤2)∧(isNum x.epoch∧x.epoch≤1048576)∧(isNum x.faults∧x.faults≤2)∧((x.nodes.length:Int)≤7∧∀y∈x.nodes,inodeOk y)∧(imgOk x.img)∧(True)∧(optOk x.left x.change)∧((x.state.length:Int)≤4096)
theorem rpl_cod:Cod rplP rplE rplOk:=by
 refine ⟨fun x t hx=> ?_,fun b x t hb=> ?_⟩
 ·obtain ⟨h0, h1, h2, h3, h4, h5, h6, h7⟩ := hx
  unfold rplP rplE
  simp only [List.append_assoc]
  rw [(many_cod 2).bindRd h0,(many_cod 1048576).bindRd h1,(many_cod 2).bindRd h2,(list_cod inode_cod 7 (by decide)).bindRd h3,(img_cod).bindRd h4,(yes_cod).bindRd h5,(opt_cod _).bindRd h6,(str_cod 4096 (by decide) (by decide)).bindRd h7]
  rfl
 ·unfold rplP at hb
  obtain ⟨a0,u0,e0,hb⟩:=bindP_some.1 hb
  obtain ⟨a1,u1,e1,hb⟩:=bindP_some.1 hb
  obtain ⟨a2,u2,e2,hb⟩:=bindP_some.1 hb
  obtain ⟨a3,u3,e3,hb⟩:=bindP_some.1 hb
  obtain ⟨a4,u4,e4,hb⟩:=bindP_some.1 hb
  obtain ⟨a5,u5,e5,hb⟩:=bindP_some.1 hb
  obtain ⟨a6,u6,e6,hb⟩:=bindP_some.1 hb
  obtain ⟨a7,u7,e7,hb⟩:=bindP_some.1 hb
  simp only [pureP,Option.some.injEq,Prod.mk.injEq] at hb
  obtain ⟨rfl,rfl⟩:=hb
  obtain ⟨rfl,o0⟩:=(many_cod 2).back _ _ _ e0
  obtain ⟨rfl,o1⟩:=(many_cod 1048576).back _ _ _ e1
  obtain ⟨rfl,o2⟩:=(many_cod 2).back _ _ _ e2
  obtain ⟨rfl,o3⟩:=(list_cod inode_cod 7 (by decide)).back _ _ _ e3
  obtain ⟨rfl,o4⟩:=(img_cod).back _ _ _ e4
  obtain ⟨rfl,o5⟩:=(yes_cod).back _ _ _ e5
  obtain ⟨rfl,o6⟩:=(opt_cod _).back _ _ _ e6
  obtain ⟨rfl,o7⟩:=(str_cod 4096 (by decide) (by decide)).back _ _ _ e7
  exact ⟨by simp only [rplE,List.append_assoc],o0,o1,o2,o3,o4,o5,o6,o7⟩
structure Crw where
 faults:Int
 nodes:List Int
deriving DecidableEq
theorem Crw_eq {x y:Crw}:x=y↔x.faults=y.faults∧x.nodes=y.nodes:=by
 cases x;cases y;simp only [Crw.mk.injEq]
def Rpl.crew (r:Rpl):Crw:=⟨r.faults,r.nodes⟩
def bat0:Bat:=⟨dig0, []⟩
def img0:Img:=⟨0,false,mark0, [], [], [],0, [],false, []⟩
def rpl0:Rpl:=⟨0,0,0, [],img0,false,change0, []⟩
instance (x:Mrk):Decidable (markOk x):=by unfold markOk isNum;infer_instance
instance (x:Stn):Decidable (istandOk x):=by unfold istandOk isNum;infer_instance
instance (x:Int):Decidable (inodeOk x):=by unfold inodeOk isNum;infer_instance
instance (x:List Wsh):Decidable (batchOk x):=by unfold batchOk;infer_instance
instance (x:Bat):Decidable (batOk x):=by unfold batOk;infer_instance
instance (x:Img):Decidable (imgOk x):=by unfold imgOk isNum;infer_instance
instance (x:Rpl):Decidable (rplOk x):=by unfold rplOk isNum;infer_instance
def crewMay (f:Int) (l:List Int):Prop:=0≤f∧f≤2∧(l.length:Int)=3*f+1∧NodesRise l
instance (f:Int) (l:List Int):Decidable (crewMay f l):=by unfold crewMay;infer_instance
def RplMay (r:Rpl):Prop:=crewMay r.faults r.nodes∧rplOk r
instance (r:Rpl):Decidable (RplMay r):=by unfold RplMay;infer_instance
def bytesS (r:Rpl):List UInt8×Int:=if RplMay r then (rplE r,0) else ([],2)
def parseS (b : List UInt8) : Rpl × Int := match rplP b with
 |some (r, [])=>if RplMay r then (r,0) else (rpl0,4)
 |_=>(rpl0,4)
theorem parse_bytes {r:Rpl} (h:RplMay r):parseS (rplE r)=(r,0):=by
 have:=rpl_cod.rd r [] h.2
 rw [List.append_nil] at this
 unfold parseS
 rw [this]
 simp only
 rw [if_pos h]
theorem parse_some {b:List UInt8} (h:(parseS b).2=0):RplMay (parseS b).1∧b=rplE (parseS b).1:=by
 unfold parseS at h⊢
 cases hp:rplP b with
 |none=>rw [hp] at h;cases h
 | some v =>
  obtain ⟨r,t⟩:=v
  rw [hp] at h
  cases t with
  |cons x t=>cases h
  | nil =>
   simp only at h⊢
   by_cases hm:RplMay r
   ·rw [if_pos hm]
    have:=(rpl_cod.back _ _ _ hp).1
    rw [List.append_nil] at this
    exact ⟨hm,this⟩
   ·rw [if_neg hm] at h;cases h
theorem parse_none {b:List UInt8} (h:(parseS b).2≠0):parseS b=(rpl0,4):=by
 unfold parseS at h⊢
 cases hp:rplP b with
 |none=>rfl
 | some v =>
  obtain ⟨r,t⟩:=v
  rw [hp] at h
  cases t with
  |cons x t=>rfl
  | nil =>
   simp only at h⊢
   by_cases hm:RplMay r
   ·rw [if_pos hm] at h;exact absurd rfl h
   ·rw [if_neg hm]
theorem wish_len {w:Wsh} (h:WishMay w):(wishE w).length≤62:=by
 have h9:=(wish_fine h).1
 obtain ⟨k1,k2,k3,k4,k5,k6,k7,k8,k9,k10,k11⟩:=h9
 have hs:w.kind≤5∧w.client≤34∧w.group≤2∧w.block≤7∧w.old≤28∧w.new≤28:=by
  unfold WishMay at h
  unfold isNum at *
  omega
 have hn: ∀y∈w.next,0≤y∧y≤28:=by
  obtain ⟨_,_,h|h⟩:=h
  ·obtain ⟨_, _, _, _, _, _, _, _, _, h1, h2⟩ := h
   exact fun y hy=>⟨by have:=(h2.mem y hy).1;omega,(h2.mem y hy).2⟩
  ·obtain ⟨_, _, _, _, h, _⟩ := h
   rw [List.eq_nil_of_length_eq_zero h];simp
 unfold isNum at k1 k2 k4 k6 k8 k9
 have j1:=numE_small (n:=w.kind) k1.1 (by omega)
 have j2:=numE_small (n:=w.client) k2.1 (by omega)
 have j3:=numE_len k3
 have j4:=numE_small (n:=w.group) k4.1 (by omega)
 have j5:=numE_len k5
 have j6:=numE_small (n:=w.block) k6.1 (by omega)
 have j8:=numE_small (n:=w.old) k8.1 (by omega)
 have j9:=numE_small (n:=w.new) k9.1 (by omega)
 have j7:(strE w.data).length≤18:=by
  have:=numE_small (n:=(w.data.length:Int)) (by omega) (by omega)
  unfold strE
  simp only [List.length_append]
  simp only [numE,Int.toNat_natCast] at this
  omega
 have e2:=flatE_len numE w.next 2 (fun y hy=>numE_small (hn y hy).1 (by have:=(hn y hy).2;omega))
 have e3:=numE_small (n:=(w.next.length:Int)) (by omega) (by omega)
 simp only [wishE,listE,List.length_append]
 omega
end Go.Eng
