/- Part 1 of what the proof of ImageOnce stands on: the engine, and facts on the program's tables. -/
import Derived.WalkKit
import Derived.Laws.NewBlocks
import Derived.Orders
import Derived.Laws.CopyRow
import Derived.Laws.Tables
import Derived.Maps.Keyed
import Derived.DeepKeys3
import Derived.Laws.IdiomStrings
import Derived.Laws.Strings
import Derived.KernelRfl
import Derived.ProofKit
import Derived.SizedLaws
import Derived.Deep.Slices
import Derived.OpenShut
import Derived.Test.YtmbpneaibmldfaaGreatRows
import Derived.Lib.BytesEntry
import Derived.Lib.Bytealg
import Derived.Laws.Externs
import Derived.Lib.SlBytesConst
namespace Go.Eng
open Go.RowKit
def lk : List (Nat × Value) → Nat → Option Value
 | [],_=>none
 |(j,v)::t,k=>bif Nat.beq k j then some v else lk t k
structure Fr (n:Nat) (a:Act) (L:List (Nat×Value)):Prop where
 size:a.tmps.size=n
 defers:a.defers= []
 get: ∀k v,lk L k=some v→a.tmps[k]? =some v
def ev (L : List (Nat × Value)) : Operand → Option Value
 | .tmp t=>lk L t
 | .const v=>some v
 | .global g=>some (.pointer (some ⟨g,0,none⟩))
 | .func f=>some (.func (.func f) #[] #[])
section
variable {P:Program} {n:Nat} {a:Act} {L:List (Nat×Value)} {w w':World}
theorem Fr.eval (h:Fr n a L) {x:Operand} {v:Value} (hx:ev L x=some v):a.eval x=v:=by
 cases x with
 |tmp t=>simp [Act.eval,h.get t v hx]
 |const c=>simpa [ev,Act.eval] using hx
 |global g=>simpa [ev,Act.eval] using hx
 |func f=>simpa [ev,Act.eval] using hx
theorem Fr.put (h:Fr n a L) {d:Nat} (hd:d<n) (v:Value):Fr n (a.put (some d) v) ((d,v)::L):=by
 refine ⟨by simp [Act.put,h.size],by simp [Act.put,h.defers],fun k u hk=> ?_⟩
 have hs:=h.size
 simp only [lk] at hk
 by_cases e:k=d
 ·subst e
  have:Nat.beq k k=true:=by simp
  rw [this] at hk
  simp only [cond_true,Option.some.injEq] at hk
  subst hk
  simp only [Act.put]
  rw [Array.getElem?_setIfInBounds,if_pos rfl,if_pos (by omega)]
 ·have : Nat.beq k d = false := by
   cases hb:Nat.beq k d
   ·rfl
   ·exact absurd (Nat.eq_of_beq_eq_true hb) e
  rw [this] at hk
  simp only [cond_false] at hk
  simp only [Act.put]
  rw [Array.getElem?_setIfInBounds,if_neg (Ne.symm e)]
  exact h.get k u hk
def WK (n:Nat) (K:Act→World→Prop) (L:List (Nat×Value)) (w:World):Prop:= ∀a,Fr n a L→K a w
def WL (P:Program) (n:Nat) (ops:Array Oper) (Q:Exit→Act→World→Prop) (rest:List Oper) (L:List (Nat×Value)) (w:World):Prop:=
 ∀a,Fr n a L→wpList P ops Q rest a w
def subL : List (Nat × Value) → List (Nat × Value) → Prop
 | [],_=>True
 |(k,v)::t,L=>lk L k=some v∧subL t L
theorem subL.lk {L' L:List (Nat×Value)} (h:subL L' L): ∀k v,lk L' k=some v→Eng.lk L k=some v:=by
 induction L' with
 |nil=>intro k v hk;simp [Eng.lk] at hk
 | cons p t ih =>
  obtain ⟨j,u⟩:=p
  intro k v hk
  simp only [Eng.lk] at hk
  cases hb:Nat.beq k j with
  | true =>
   rw [hb] at hk
   simp only [cond_true,Option.some.injEq] at hk
   rw [Nat.eq_of_beq_eq_true hb,←hk]
   exact h.1
  | false =>
   rw [hb] at hk
   exact ih h.2 k v hk
theorem Fr.sub (h:Fr n a L) {L':List (Nat×Value)} (hs:subL L' L):Fr n a L':=⟨h.size,h.defers,fun k v hk=>h.get k v (hs.lk k v hk)⟩
theorem wk_drop {K:Act→World→Prop} (L':List (Nat×Value)) (hs:subL L' L) (h:WK n K L' w):WK n K L w:=fun a ha=>h a (ha.sub hs)
variable {Q:Exit→Act→World→Prop} {K:Act→World→Prop}
theorem wc_seq {x y:Code} (h:WK n (x.wp P (Exit.then (y.wp P Q) Q)) L w):WK n ((Code.seq x y).wp P Q) L w:=fun a ha=>wp_seq (h a ha)
theorem wc_seq_cut {x y : Code} (Φ : List (Nat × Value) → World → Prop)
  (h: ∀K:Act→World→Prop,(∀L' w',Φ L' w'→WK n K L' w')→WK n (x.wp P (Exit.then K Q)) L w)
  (hy: ∀L' w',Φ L' w'→WK n (y.wp P Q) L' w'):WK n ((Code.seq x y).wp P Q) L w:=
 fun a ha=>wp_seq (h _ hy a ha)
theorem wc_skip (h:WK n (Q .normal) L w):WK n (Code.skip.wp P Q) L w:=fun a ha=>wp_skip (h a ha)
theorem wc_ret (h:WK n (Q .ret) L w):WK n (Code.ret.wp P Q) L w:=fun a ha=>wp_ret (h a ha)
theorem wc_exit {id:Nat} (h:WK n (Q (.exit id)) L w):WK n ((Code.exit id).wp P Q) L w:=fun a ha=>wp_exit (h a ha)
theorem wc_block {id:Nat} {c:Code} (h:WK n (c.wp P (Exit.inBlock id Q)) L w):WK n ((Code.block id c).wp P Q) L w:=fun a ha=>wp_block (h a ha)
theorem wc_cond {c : Operand} {x y : Code} {b : Bool} (hc : ev L c = some (.bool b)) (ht : b = true → WK n (x.wp P Q) L w) (hf : b = false → WK n (y.wp P Q) L w) :
  WK n ((Code.cond c x y).wp P Q) L w:=fun a ha=>wp_cond_split (ha.eval hc) (fun e=>ht e a ha) (fun e=>hf e a ha)
theorem wc_cond_t {c : Operand} {x y : Code} (hc : ev L c = some (.bool true)) (ht : WK n (x.wp P Q) L w) :
  WK n ((Code.cond c x y).wp P Q) L w:=fun a ha=>wp_cond_true (ha.eval hc) (ht a ha)
theorem wc_cond_f {c : Operand} {x y : Code} (hc : ev L c = some (.bool false)) (hf : WK n (y.wp P Q) L w) :
  WK n ((Code.cond c x y).wp P Q) L w:=fun a ha=>wp_cond_false (ha.eval hc) (hf a ha)
theorem wc_region {id:Nat} {l:List Oper} (h:WL P n l.toArray Q l L w):WK n ((Code.region id l.toArray false).wp P Q) L w:=fun a ha=>wp_region_lit (h a ha)
theorem wk_norm (h:WK n K L w):WK n (Exit.then K Q .normal) L w:=h
theorem wk_then_ret (h:WK n (Q .ret) L w):WK n (Exit.then K Q .ret) L w:=h
theorem wk_then_exit {id:Nat} (h:WK n (Q (.exit id)) L w):WK n (Exit.then K Q (.exit id)) L w:=h
theorem wk_blk_norm {id:Nat} (h:WK n (Q .normal) L w):WK n (Exit.inBlock id Q .normal) L w:=h
theorem wk_blk_ret {id:Nat} (h:WK n (Q .ret) L w):WK n (Exit.inBlock id Q .ret) L w:=h
theorem wk_blk_exit {id:Nat} (h:WK n (Q .normal) L w):WK n (Exit.inBlock id Q (.exit id)) L w:=fun a ha=>by simpa [Exit.inBlock] using h a ha
theorem wk_blk_exit_ne {id id':Nat} (hne:id'≠id) (h:WK n (Q (.exit id')) L w):WK n (Exit.inBlock id Q (.exit id')) L w:=fun a ha=>by simpa [Exit.inBlock,hne] using h a ha
theorem wc_loop {c : Code} (Inv : List (Nat × Value) → World → Nat → Prop) (L0 : List (Nat × Value)) (m0 : Nat) (h0 : Inv L0 w m0) (hs : subL L0 L)
  (round: ∀L' w' m,Inv L' w' m→∀K:Act→World→Prop,(∀L2 w2 m2,Inv L2 w2 m2→m2<m→WK n K L2 w2)→WK n (c.wp P (Exit.then K Q)) L' w'):
  WK n ((Code.loop c).wp P Q) L w:=by
 intro a ha b k cs
 have key : ∀ m L' w' a', Inv L' w' m → Fr n a' L' →
   ∃e a₂ w₂,Q e a₂ w₂∧Arrives P (lone (b.at a' (.code c:: .inLoop c::k)) cs w') b k cs e a₂ w₂:=by
  intro m
  induction m using Nat.strongRecOn with
  | _ m ih =>
   intro L' w' a' hI hF
   obtain ⟨e, a₁, w₁, hq, harr⟩ := round L' w' m hI
    (fun a'' w''=> ∃L2 m2,Inv L2 w'' m2∧m2<m∧Fr n a'' L2) (fun L2 w2 m2 h2 hlt a'' hF2=>⟨L2,m2,h2,hlt,hF2⟩) a' hF b (.inLoop c::k) cs
   cases e with
   | normal =>
    obtain ⟨L2,m2,hI2,hlt,hF2⟩:=hq
    obtain ⟨e₂,a₂,w₂,hq₂,harr₂⟩:=ih m2 hlt L2 w₁ a₁ hI2 hF2
    exact ⟨e₂,a₂,w₂,hq₂, .of_steps (Steps.trans harr (.one step_inLoop)) harr₂⟩
   |exit id=>exact ⟨_,a₁,w₁,hq, .pass (x:= .inLoop c) rfl (fun _ _=> .inl (by simp)) harr⟩
   |goto l=>exact ⟨_,a₁,w₁,hq, .pass (x:= .inLoop c) rfl (fun _ _=> .inl (by simp)) harr⟩
   |ret=>exact ⟨_,a₁,w₁,hq, .pass (x:= .inLoop c) rfl (fun _ _=> .inl (by simp)) harr⟩
   |panic ch=>exact ⟨_,a₁,w₁,hq, .pass (x:= .inLoop c) rfl (fun _ _=> .inl (by simp)) harr⟩
   |outgrown=>exact ⟨_,a₁,w₁,hq, .pass (x:= .inLoop c) rfl (fun _ _=> .inl (by simp)) harr⟩
 obtain ⟨e,a',w',hq,harr⟩:=key m0 L0 w a h0 (ha.sub hs)
 exact ⟨e,a',w',hq, .of_steps (.one step_loop) harr⟩
variable {fn:Func} {R:Ending→World→Prop}
theorem wk_post0 {e:Exit} (he:e= .ret∨e= .normal) (hr:fn.results= #[]) (h:R (.returned (.tuple #[])) w):WK n (bodyPost P fn R e) L w:=by
 intro a ha
 rcases he with rfl|rfl<;>exact ⟨ha.defers,_,by simp [results,hr],h⟩
theorem wk_post1 {e:Exit} (he:e= .ret∨e= .normal) {t:Nat} {v:Value} (hr:fn.results= #[.tmp t]) (hv:lk L t=some v) (h:R (.returned v) w):WK n (bodyPost P fn R e) L w:=by
 intro a ha
 have:=ha.get t v hv
 rcases he with rfl|rfl<;>exact ⟨ha.defers,v,by simp [results,hr,this],h⟩
theorem wk_post2 {e:Exit} (he:e= .ret∨e= .normal) {t u:Nat} {v x:Value} (hr:fn.results= #[.tmp t, .tmp u]) (hv:lk L t=some v) (hx:lk L u=some x) (h:R (.returned (.tuple #[v,x])) w):WK n (bodyPost P fn R e) L w:=by
 intro a ha
 have h1:=ha.get t v hv
 have h2:=ha.get u x hx
 rcases he with rfl|rfl<;>exact ⟨ha.defers,_,by simp [results,hr,h1,h2],h⟩
theorem wk_post3 {e : Exit} (he : e = .ret ∨ e = .normal) {t u s : Nat} {v x y : Value} (hr : fn.results = #[.tmp t, .tmp u, .tmp s]) (hv : lk L t = some v) (hx : lk L u = some x) (hy : lk L s = some y)
  (h:R (.returned (.tuple #[v,x,y])) w):WK n (bodyPost P fn R e) L w:=by
 intro a ha
 have h1:=ha.get t v hv
 have h2:=ha.get u x hx
 have h3:=ha.get s y hy
 rcases he with rfl|rfl<;>exact ⟨ha.defers,_,by simp [results,hr,h1,h2,h3],h⟩
def Ret (P:Program) (f:FuncId) (args:Array Value) (w:World) (R:Value→World→Prop):Prop:=
 Calls P f args w fun e w'=> ∃v,e= .returned v∧R v w'
theorem Ret.mono {f:FuncId} {args:Array Value} {R R':Value→World→Prop} (h:Ret P f args w R) (hr: ∀v w',R v w'→R' v w'):Ret P f args w R':=
 Calls.mono h fun _ _ ⟨v,he,hv⟩=>⟨v,he,hr _ _ hv⟩
def slots : Nat → List Value → List (Nat × Value)
 |_, []=> []
 |k,v::t=>(k,v)::slots (k+1) t
theorem slots_lk: ∀(l:List Value) (s k:Nat) (v:Value),lk (slots s l) k=some v→∃j,k=s+j∧l[j]? =some v:=by
 intro l
 induction l with
 |nil=>intro s k v h;simp [slots,lk] at h
 | cons x t ih =>
  intro s k v h
  simp only [slots,lk] at h
  cases hb:Nat.beq k s with
  | true =>
   rw [hb] at h
   simp only [cond_true,Option.some.injEq] at h
   exact ⟨0,Nat.eq_of_beq_eq_true hb,by simp [h]⟩
  | false =>
   rw [hb] at h
   obtain ⟨j,e,hj⟩:=ih (s+1) k v h
   exact ⟨j+1,by omega,by simpa using hj⟩
theorem ret_of_wk {f : FuncId} {c : Code} {args : List Value} {R : Value → World → Prop} (hf : P.funcs[f]? = some fn) (hb : fn.body = some c) (hn : fn.ntmps = n) (hle : args.length ≤ n)
  (h:WK n (c.wp P (bodyPost P fn fun e w'=> ∃v,e= .returned v∧R v w')) (slots 0 args) w):Ret P f args.toArray w R:=by
 refine calls_of_wp hf hb (h _ ⟨?_,rfl,fun k v hk=> ?_⟩)
 ·simp only [Array.size_append, List.size_toArray, Array.size_replicate, hn]
  omega
 ·obtain ⟨j, e, hj⟩ := slots_lk args 0 k v hk
  have hlt:j<args.length:=(List.getElem?_eq_some_iff.1 hj).1
  have:k=j:=by omega
  subst this
  rw [Array.getElem?_append_left (by simpa using hlt)]
  simpa using hj
variable {ops:Array Oper} {rest:List Oper} {ty:TypeId} {pos:String} {af:Array Edge} {d:Nat}
theorem wl_nil (h:WK n (Q .normal) L w):WL P n ops Q [] L w:=h
theorem wl_run {op : Op} {v : Value} (hd : d < n)
  (hrun: ∀a,Fr n a L→(execOp a.eval {dst:=some d,op:=op,type:=ty,pos:=pos,after:=af,guard:=none}).run P w= .ok (.value v) w')
  (h:WL P n ops Q rest ((d,v)::L) w'):WL P n ops Q ({dst:=some d,op:=op,type:=ty,pos:=pos,after:=af,guard:=none}::rest) L w:=by
 intro a ha
 refine wpList_plain rfl fun K hK=> ?_
 unfold Oper.wp
 rw [hrun a ha]
 exact hK _ _ (h _ (ha.put hd v))
theorem wl_eff {op : Op} (hrun : ∀ a, Fr n a L → (execOp a.eval { dst := none, op := op, type := ty, pos := pos, after := af, guard := none }).run P w = .ok .skip w')
  (h:WL P n ops Q rest L w'):WL P n ops Q ({dst:=none,op:=op,type:=ty,pos:=pos,after:=af,guard:=none}::rest) L w:=by
 intro a ha
 refine wpList_plain rfl fun K hK=> ?_
 unfold Oper.wp
 rw [hrun a ha]
 exact hK _ _ (h _ ha)
theorem wl_gyes {op : Op} {dst : Option Nat} {j dj : Nat} {want : Bool} (hj : ((ops[j]?).bind (·.dst)) = some dj) (hv : lk L dj = some (.bool want))
  (h:WL P n ops Q ({dst:=dst,op:=op,type:=ty,pos:=pos,after:=af,guard:=none}::rest) L w):
  WL P n ops Q ({dst:=dst,op:=op,type:=ty,pos:=pos,after:=af,guard:=some (j,want)}::rest) L w:=by
 intro a ha
 have hy:yielded ops a.tmps j=some want:=by
  unfold yielded
  rw [hj]
  simp [ha.get dj _ hv]
 have h1:=h a ha
 unfold wpList at h1⊢
 rw [if_pos (by simp [Region.wanted])] at h1
 rw [if_pos (by simp [Region.wanted,hy])]
 exact h1
theorem wl_gno {op : Op} {j dj : Nat} {want : Bool} {u : Value} (hd : d < n) (hj : ((ops[j]?).bind (·.dst)) = some dj) (hv : lk L dj = some u) (hu : u = .bool (!want) ∨ u = undef)
  (h:WL P n ops Q rest ((d,undef)::L) w):WL P n ops Q ({dst:=some d,op:=op,type:=ty,pos:=pos,after:=af,guard:=some (j,want)}::rest) L w:=by
 intro a ha
 have hy:yielded ops a.tmps j≠some want:=by
  unfold yielded
  rw [hj]
  simp only [Option.bind_some,ha.get dj _ hv]
  rcases hu with rfl|rfl
  ·cases want<;>simp
  ·simp [undef]
 unfold wpList
 rw [if_neg (by simpa [Region.wanted] using hy)]
 exact h _ (ha.put hd undef)
end
end Go.Eng
namespace Go.Eng
open Go.RowKit
structure Chg (M:Nat→Prop) (w w':World):Prop where
 os:w'.os=w.os
 tape:w'.tape=w.tape
 output:w'.output=w.output
 size:w.heap.size≤w'.heap.size
 block: ∀k,k<w.heap.size→¬M k→w'.heap[k]? =w.heap[k]?
abbrev Ext (w w':World):Prop:=Chg (fun _=>False) w w'
section
variable {M M':Nat→Prop} {w w' w'':World}
theorem Chg.refl (M:Nat→Prop) (w:World):Chg M w w:=⟨rfl,rfl,rfl,Nat.le_refl _,fun _ _ _=>rfl⟩
theorem Chg.weak (h:Chg M w w') (hm: ∀b,b<w.heap.size→M b→M' b):Chg M' w w':=⟨h.os,h.tape,h.output,h.size,fun k hk hn=>h.block k hk (fun x=>hn (hm k hk x))⟩
theorem Chg.step (h:Chg M w w') (k:Chg M' w' w'') (hm: ∀b,b<w.heap.size→M' b→M b):Chg M w w'':=
 ⟨k.os.trans h.os, k.tape.trans h.tape, k.output.trans h.output, Nat.le_trans h.size k.size,
  fun i hi hn=>(k.block i (Nat.lt_of_lt_of_le hi h.size) (fun x=>hn (hm i hi x))).trans (h.block i hi hn)⟩
theorem Chg.trans (h:Ext w w') (k:Ext w' w''):Ext w w'':=h.step k (fun _ _ x=>x)
theorem Chg.ext (h:Ext w w'):Chg M w w':=h.weak (fun _ _ x=>x.elim)
theorem Ext.drew (w:World):Ext w w.drew:=⟨rfl,rfl,rfl,Nat.le_refl _,fun _ _ _=>rfl⟩
theorem Ext.alloc (w:World) (o:Obj):Ext w (w.alloc o):=⟨rfl,rfl,rfl,by simp,fun k hk _=>Below.heap_alloc w o k hk⟩
theorem Chg.setCell (w:World) (a:Addr) (u:Value):Chg (fun b=>b=a.block) w (w.setCell a u):=
 ⟨rfl,rfl,rfl,by simp [World.setCell],fun k _ hn=>Below.heap_setCell w a u k hn⟩
theorem Chg.cell (h:Chg M w w') {a:Addr} {v:Value} (hc:w.cell? a=some v) (hm: ¬M a.block):w'.cell? a=some v:=
 (World.cell?_of_block (h.block a.block (World.block_lt_of_cell? w a hc) hm)).trans hc
theorem Chg.frozen (h:Chg M w w') {a:Addr} (hb:a.block<w.heap.size) (hm: ¬M a.block):w'.frozen? a=w.frozen? a:=
 World.frozen?_of_block (h.block a.block hb hm)
theorem Chg.below (h:Ext w w'):Below w.heap.size w w':=⟨h.os,h.tape,h.output,h.size,fun k hk=>h.block k hk (fun x=>x)⟩
end
theorem block_add (a:Addr) (n:Nat):(a.add n).block=a.block:=by unfold Addr.add;split<;>rfl
theorem add_add' (a:Addr) (i j:Nat):(a.add i).add j=a.add (i+j):=by
 unfold Addr.add
 by_cases hi:i=0<;>by_cases hj:j=0<;>simp [hi,hj,Nat.add_assoc]
theorem add_zero' (a:Addr):a.add 0=a:=by simp [Addr.add]
theorem add_lit' (g o i:Nat):(⟨g,o,none⟩:Addr).add i=⟨g,o+i,none⟩:=by unfold Addr.add;split<;>simp_all
def At (w:World) (a:Addr) (cs:List Value):Prop:= ∀j v,cs[j]? =some v→w.cell? (a.add j)=some v
section
variable {w w':World} {M:Nat→Prop} {a:Addr} {cs:List Value}
theorem At.keep (h:Chg M w w') (hm:cs≠ []→¬M a.block) (hc:At w a cs):At w' a cs:=fun j v hv=>
 h.cell (hc j v hv) (by rw [block_add];exact hm (by rintro rfl;simp at hv))
theorem At.nil (w:World) (a:Addr):At w a []:=fun j v h=>by simp at h
theorem At.lt (hc:At w a cs) (hn:cs≠ []):a.block<w.heap.size:=by
 obtain ⟨x,t,rfl⟩:=List.exists_cons_of_ne_nil hn
 have:=World.block_lt_of_cell? w _ (hc 0 x rfl)
 rwa [block_add] at this
theorem At.get (hc:At w a cs) {j:Nat} {v:Value} (hv:cs[j]? =some v):w.cell? (a.add j)=some v:=hc j v hv
theorem At.head {v:Value} {t:List Value} (hc:At w a (v::t)):w.cell? a=some v:=by have:=hc 0 v rfl;rwa [add_zero'] at this
theorem At.drop (hc:At w a cs) (k:Nat):At w (a.add k) (cs.drop k):=fun j v hv=>by
 rw [add_add'];exact hc _ _ (by rw [←hv,List.getElem?_drop])
theorem At.take (hc : At w a cs) (k : Nat) : At w a (cs.take k) := fun j v hv => hc j v (by
 rw [List.getElem?_take] at hv;split at hv<;>simp_all)
theorem At.append {cs':List Value} (h1:At w a cs) (h2:At w (a.add cs.length) cs'):At w a (cs++cs'):=fun j v hv=>by
 rw [List.getElem?_append] at hv
 split at hv
 ·exact h1 j v hv
 ·have := h2 _ _ hv
  rw [add_add'] at this
  rwa [show cs.length+(j-cs.length)=j by omega] at this
end
structure Rep (α:Type) where
 size:Nat
 rd:(Nat→Prop)→World→List Value→α→Prop
 len: ∀{S w cs x},rd S w cs x→cs.length=size
 one: ∀{S w cs x},rd S w cs x→∀u∈cs,u.oneCell'=true
 keep: ∀{S M w w' cs x},Chg M w w'→(∀b,b<w.heap.size→S b→¬M b)→rd S w cs x→rd S w' cs x
 mono: ∀{S S' w cs x},(∀b,b<w.heap.size→S b→S' b)→rd S w cs x→rd S' w cs x
structure GS {α:Type} (r:Rep α) (S:Nat→Prop) (w:World) (A:Option Addr) (c:Nat) (l:List α):Prop where
 le:l.length≤c
 mx:l.length≤140737488355328
 rd: ∀i (h:i<l.length),∃a cs,A=some a∧a.block<w.heap.size∧S a.block∧At w (a.add (i*r.size)) cs∧r.rd S w cs l[i]
section
variable {α:Type} {r:Rep α} {S S' M:Nat→Prop} {w w':World} {A:Option Addr} {c:Nat} {l:List α}
theorem GS.nil (r:Rep α) (S:Nat→Prop) (w:World) (A:Option Addr) (c:Nat):GS r S w A c []:=⟨by simp,by simp,fun i h=>absurd h (by simp)⟩
theorem GS.keep (ch:Chg M w w') (hm: ∀b,b<w.heap.size→S b→¬M b) (h:GS r S w A c l):GS r S w' A c l:=
 ⟨h.le,h.mx,fun i hi=>by
  obtain ⟨a,cs,rfl,hb,hs,hat,hr⟩:=h.rd i hi
  exact ⟨a,cs,rfl,Nat.lt_of_lt_of_le hb ch.size,hs,hat.keep ch (fun _=>by rw [block_add];exact hm _ hb hs),r.keep ch hm hr⟩⟩
theorem GS.ext (h:GS r S w A c l) (ch:Ext w w'):GS r S w' A c l:=h.keep ch (fun _ _ _ x=>x)
theorem GS.mono (h:GS r S w A c l) (hs: ∀b,b<w.heap.size→S b→S' b):GS r S' w A c l:=
 ⟨h.le,h.mx,fun i hi=>by
  obtain ⟨a,cs,rfl,hb,h1,hat,hr⟩:=h.rd i hi
  exact ⟨a,cs,rfl,hb,hs _ hb h1,hat,r.mono hs hr⟩⟩
theorem GS.any (h:GS r S w A c l):GS r (fun _=>True) w A c l:=h.mono (fun _ _ _=>trivial)
theorem GS.now (h:GS r S w A c l):GS r (fun b=>b<w.heap.size) w A c l:=h.mono (fun _ hb _=>hb)
theorem GS.at_ (h:GS r S w A c l) (i:Nat) (hi:i<l.length): ∃a cs,A=some a∧a.block<w.heap.size∧S a.block∧At w (a.add (i*r.size)) cs∧r.rd S w cs l[i]:=h.rd i hi
theorem GS.drop (h:GS r S w A c l) (k:Nat) (hk:k≤l.length):GS r S w (if c=k then A else A.map (·.add (k*r.size))) (c-k) (l.drop k):=by
 refine ⟨by have:=h.le;rw [List.length_drop];omega,by have:=h.mx;rw [List.length_drop];omega,fun i hi=> ?_⟩
 rw [List.length_drop] at hi
 have hle:=h.le
 obtain ⟨a,cs,rfl,hb,h1,hat,hr⟩:=h.rd (k+i) (by omega)
 rw [if_neg (by omega)]
 refine ⟨a.add (k*r.size),cs,rfl,by rw [block_add];exact hb,by rw [block_add];exact h1, ?_, ?_⟩
 ·rw [add_add',←Nat.add_mul];exact hat
 ·rw [List.getElem_drop];exact hr
theorem GS.take (h:GS r S w A c l) (k:Nat):GS r S w A c (l.take k):=by
 refine ⟨by have:=h.le;rw [List.length_take];omega,by have:=h.mx;rw [List.length_take];omega,fun i hi=> ?_⟩
 rw [List.length_take] at hi
 obtain ⟨a,cs,rfl,hb,h1,hat,hr⟩:=h.rd i (by omega)
 exact ⟨a,cs,rfl,hb,h1,hat,by rw [List.getElem_take];exact hr⟩
theorem GS.empty (h:GS r S w A c l) (hA:A=none):l= []:=by
 cases hl:l with
 |nil=>rfl
 | cons x t =>
  obtain ⟨a,_,e,_⟩:=h.rd 0 (by rw [hl];simp)
  rw [hA] at e
  cases e
theorem flat_len : ∀ (rows : List (List Value)) (k : Nat), (∀ x ∈ rows, x.length = k) → rows.flatten.length = rows.length * k
 | [],k,_=>by simp
 | x :: t, k, h => by
  rw [List.flatten_cons,List.length_append,flat_len t k (fun y hy=>h y (by simp [hy])),h x (by simp),List.length_cons,Nat.add_mul,Nat.one_mul,Nat.add_comm]
theorem GS.cells (h : GS r S w A c l) : ∃ rows : List (List Value), rows.length = l.length ∧ (∀ x ∈ rows, x.length = r.size) ∧ (∀ x ∈ rows, ∀ u ∈ x, u.oneCell' = true) ∧
  (∀i (h1:i<l.length) (h2:i<rows.length),r.rd S w rows[i] l[i])∧(∀a,A=some a→At w a rows.flatten)∧(A=none→l= []):=by
 have key : ∀ k, k ≤ l.length → ∃ rows : List (List Value), rows.length = k ∧ (∀ x ∈ rows, x.length = r.size) ∧ (∀ x ∈ rows, ∀ u ∈ x, u.oneCell' = true) ∧
   (∀i (h1:i<l.length) (h2:i<rows.length),r.rd S w rows[i] l[i])∧(∀a,A=some a→At w a rows.flatten):=by
  intro k
  induction k with
  |zero=>exact fun _=>⟨[],rfl,by simp,by simp,by simp,fun a _=>At.nil w a⟩
  | succ k ih =>
   intro hk
   obtain ⟨rows,hl,hs,ho,hr,hat⟩:=ih (by omega)
   obtain ⟨a,cs,rfl,hb,h1,hc,hrd⟩:=h.rd k (by omega)
   have hfl:rows.flatten.length=k*r.size:=by rw [flat_len _ _ hs,hl]
   refine ⟨rows++ [cs],by simp [hl], ?_, ?_, ?_, ?_⟩
   ·intro x hx
    rcases List.mem_append.1 hx with hx|hx
    ·exact hs x hx
    ·rw [List.mem_singleton.1 hx];exact r.len hrd
   ·intro x hx
    rcases List.mem_append.1 hx with hx|hx
    ·exact ho x hx
    ·rw [List.mem_singleton.1 hx];exact r.one hrd
   ·intro i h1 h2
    rcases Nat.lt_or_ge i rows.length with hlt|hge
    ·rw [List.getElem_append_left hlt];exact hr i h1 hlt
    ·have : i = k := by simp at h2; omega
     subst this
     rw [List.getElem_append_right (by omega)]
     simpa [hl] using hrd
   ·intro a' ha'
    have e:a=a':=Option.some.inj ha'
    subst e
    rw [List.flatten_append]
    refine (hat a rfl).append ?_
    rw [hfl]
    simpa using hc
 obtain ⟨rows,hl,hs,ho,hr,hat⟩:=key l.length (Nat.le_refl _)
 refine ⟨rows,hl,hs,ho,hr,hat,fun hA=> ?_⟩
 cases hl2:l with
 |nil=>rfl
 | cons x t =>
  obtain ⟨a,_,e,_⟩:=h.rd 0 (by rw [hl2];simp)
  rw [hA] at e
  cases e
end
def oneR {α:Type} (enc:α→Value) (h: ∀x,(enc x).oneCell'=true):Rep α where
 size:=1
 rd:=fun _ _ cs x=>cs= [enc x]
 len:=by rintro _ _ _ _ rfl;rfl
 one:=by rintro _ _ _ x rfl u hu;rw [List.mem_singleton.1 hu];exact h x
 keep:=fun _ _ h=>h
 mono:=fun _ h=>h
abbrev bv (b:UInt8):Value:= .int .u8 (b.toNat:Int)
def byteR:Rep UInt8:=oneR (fun b=>bv b) (fun _=>rfl)
def intR:Rep Int:=oneR (fun n=> .int .i64 n) (fun _=>rfl)
def sliceR {α:Type} (r:Rep α):Rep (List α) where
 size:=1
 rd:=fun S w cs l=> ∃A c,cs= [.slice A l.length c]∧GS r S w A c l
 len:=by rintro _ _ _ _ ⟨_,_,rfl,_⟩;rfl
 one:=by rintro _ _ _ _ ⟨_,_,rfl,_⟩ u hu;rw [List.mem_singleton.1 hu];rfl
 keep:=by rintro _ _ _ _ _ _ ch hm ⟨A,c,rfl,h⟩;exact ⟨A,c,rfl,h.keep ch hm⟩
 mono:=by rintro _ _ _ _ _ hs ⟨A,c,rfl,h⟩;exact ⟨A,c,rfl,h.mono hs⟩
theorem sliceR_mk {α:Type} {r:Rep α} {S:Nat→Prop} {w:World} {A:Option Addr} {c:Nat} {l:List α} (h:GS r S w A c l):(sliceR r).rd S w [.slice A l.length c] l:=⟨A,c,rfl,h⟩
abbrev BS (S:Nat→Prop) (w:World) (A:Option Addr) (c:Nat) (l:List UInt8):Prop:=GS byteR S w A c l
structure OwnRow (e size lo:Nat) (w:World) (A:Option Addr) (n c:Nat) (xs:List Value):Prop where
 len:xs.length=n*size
 le:n≤c
 mx:n≤140737488355328
 row:((c=0∧n=0)∨∃g cur,A=some ⟨g,0,none⟩∧lo≤g∧w.heap[g]? =some (.cells cur e (0,0))∧cur.size=c*size∧cur.toList.take (n*size)=xs)
def blk (A:Option Addr) (b:Nat):Prop:= ∃a,A=some a∧a.block=b
section
variable {e size lo lo' n c:Nat} {w w':World} {M:Nat→Prop} {A:Option Addr} {xs:List Value}
theorem OwnRow.nil (e size lo:Nat) (w:World) (A:Option Addr):OwnRow e size lo w A 0 0 []:=⟨by simp,Nat.le_refl _,by omega, .inl ⟨rfl,rfl⟩⟩
theorem OwnRow.keep (ch:Chg M w w') (hm: ∀b,b<w.heap.size→lo≤b→blk A b→¬M b) (h:OwnRow e size lo w A n c xs):OwnRow e size lo w' A n c xs:=by
 refine ⟨h.len,h.le,h.mx, ?_⟩
 rcases h.row with h0|⟨g,cur,rfl,hb,hg,r⟩
 ·exact .inl h0
 ·have hlt : g < w.heap.size := (Array.getElem?_eq_some_iff.1 hg).1
  exact .inr ⟨g,cur,rfl,hb,(ch.block g hlt (hm g hlt hb ⟨_,rfl,rfl⟩)).trans hg,r⟩
theorem OwnRow.ext (h:OwnRow e size lo w A n c xs) (ch:Ext w w'):OwnRow e size lo w' A n c xs:=h.keep ch (fun _ _ _ _ x=>x)
theorem OwnRow.lower (h:OwnRow e size lo w A n c xs) (hl:lo'≤lo):OwnRow e size lo' w A n c xs:=by
 refine ⟨h.len,h.le,h.mx, ?_⟩
 rcases h.row with h0|⟨g,cur,rfl,hb,r⟩
 ·exact .inl h0
 ·exact .inr ⟨g,cur,rfl,by omega,r⟩
theorem OwnRow.at_ (h:OwnRow e size lo w A n c xs) {a:Addr} (ha:A=some a):At w a xs:=by
 intro j v hv
 rcases h.row with ⟨_,h0⟩|⟨g,cur,hA,hb,hg,_,ht⟩
 ·have := h.len
  subst h0
  have:xs= []:=List.eq_nil_of_length_eq_zero (by simpa using this)
  subst this
  simp at hv
 ·have ea : a = ⟨g, 0, none⟩ := by rw [hA] at ha; exact (Option.some.inj ha).symm
  subst ea
  rw [add_lit',cell_of_row w g _ cur e (0,0) hg]
  rw [←ht,List.getElem?_take] at hv
  split at hv
  ·simpa using hv
  ·cases hv
theorem OwnRow.lt (h:OwnRow e size lo w A n c xs) (hc:c≠0): ∀b,blk A b→lo≤b∧b<w.heap.size:=by
 rintro b ⟨a,ha,rfl⟩
 rcases h.row with ⟨h0,_⟩|⟨g,cur,hA,hb,hg,_⟩
 ·exact absurd h0 hc
 ·have ea : a = ⟨g, 0, none⟩ := by rw [hA] at ha; exact (Option.some.inj ha).symm
  subst ea
  exact ⟨hb,(Array.getElem?_eq_some_iff.1 hg).1⟩
end
theorem OwnRow.at0 {e size lo n c g o:Nat} {w:World} {xs:List Value} (h:OwnRow e size lo w (some ⟨g,o,none⟩) n c xs):At w ⟨g,o,none⟩ xs:=h.at_ rfl
theorem OwnRow.lt0 {e size lo n c g o:Nat} {w:World} {xs:List Value} (h:OwnRow e size lo w (some ⟨g,o,none⟩) n c xs) (hc:c≠0:=by decide):g<w.heap.size:=(h.lt hc g ⟨_,rfl,rfl⟩).2
theorem GS.of_rows {α : Type} {r : Rep α} {S : Nat → Prop} {w : World} {a : Addr} {c : Nat} {l : List α} (rows : List (List Value)) (hat : At w a rows.flatten) (hb : a.block < w.heap.size) (hS : S a.block) (hc : l.length ≤ c)
  (hmx:l.length≤140737488355328) (hr: ∀i (h:i<l.length),∃cs,rows[i]? =some cs∧r.rd S w cs l[i]):GS r S w (some a) c l:=by
 refine ⟨hc,hmx,fun i hi=> ?_⟩
 obtain ⟨cs,hcs,hrd⟩:=hr i hi
 refine ⟨a,cs,rfl,hb,hS, ?_,hrd⟩
 have hlen: ∀k,k≤i→(rows.take k).flatten.length=k*r.size:=by
  intro k hk
  have hrk:k≤rows.length:=by have:=(List.getElem?_eq_some_iff.1 hcs).1;omega
  rw [flat_len _ r.size (fun x hx=>by
   obtain ⟨j,hj,rfl⟩:=List.mem_iff_getElem.1 hx
   have hj':j<l.length:=by rw [List.length_take] at hj;omega
   obtain ⟨cs',h1,h2⟩:=hr j hj'
   rw [List.getElem_take]
   rw [(List.getElem?_eq_some_iff.1 h1).2]
   exact r.len h2)]
  rw [List.length_take,Nat.min_eq_left hrk]
 have hlt:=(List.getElem?_eq_some_iff.1 hcs).1
 have e:rows.flatten=(rows.take i).flatten++(cs++(rows.drop (i+1)).flatten):=by
  conv=>lhs;rw [←List.take_append_drop i rows]
  rw [List.flatten_append,List.drop_eq_getElem_cons hlt,(List.getElem?_eq_some_iff.1 hcs).2,List.flatten_cons]
 rw [e] at hat
 intro j v hv
 rw [add_add']
 refine hat _ v ?_
 rw [List.getElem?_append_right (by rw [hlen i (Nat.le_refl _)];omega),hlen i (Nat.le_refl _)]
 rw [show i*r.size+j-i*r.size=j by omega,List.getElem?_append_left (List.getElem?_eq_some_iff.1 hv).1]
 exact hv
theorem GS.two {α : Type} {r : Rep α} {S : Nat → Prop} {w : World} {g o c : Nat} {x y : α} {u v : Value} (hat : At w ⟨g, o, none⟩ [u, v]) (hb : g < w.heap.size) (hc : 2 ≤ c) (hS : S g) (hx : r.rd S w [u] x) (hy : r.rd S w [v] y) :
  GS r S w (some ⟨g,o,none⟩) c [x,y]:=by
 refine GS.of_rows [[u], [v]] hat hb hS hc (by simp) (fun i hi=> ?_)
 match i,hi with
 |0,_=>exact ⟨_,rfl,hx⟩
 |1,_=>exact ⟨_,rfl,hy⟩
theorem GS.one {α : Type} {r : Rep α} {S : Nat → Prop} {w : World} {g o c : Nat} {x : α} {u : List Value} (hat : At w ⟨g, o, none⟩ u) (hb : g < w.heap.size) (hc : 1 ≤ c) (hS : S g) (hx : r.rd S w u x) :
  GS r S w (some ⟨g,o,none⟩) c [x]:=by
 refine GS.of_rows [u] (by simpa using hat) hb hS hc (by simp) (fun i hi=> ?_)
 match i,hi with
 |0,_=>exact ⟨_,rfl,hx⟩
abbrev OwnB (e lo:Nat) (w:World) (A:Option Addr) (c:Nat) (l:List UInt8):Prop:=OwnRow e 1 lo w A l.length c (l.map bv)
theorem OwnRow.gs1 {α : Type} {enc : α → Value} {he : ∀ x, (enc x).oneCell' = true} {e lo : Nat} {w : World} {A : Option Addr} {c : Nat} {l : List α}
  (h:OwnRow e 1 lo w A l.length c (l.map enc)):GS (oneR enc he) (fun b=>lo≤b) w A c l:=by
 refine ⟨h.le,h.mx,fun i hi=> ?_⟩
 rcases h.row with ⟨_,h0⟩|⟨g,cur,hA,hb,hg,_⟩
 ·omega
 ·have hat := h.at_ hA
  refine ⟨⟨g,0,none⟩, [enc l[i]],hA,(Array.getElem?_eq_some_iff.1 hg).1,hb, ?_,rfl⟩
  intro j v hv
  have hj:j=0:=by
   have:=(List.getElem?_eq_some_iff.1 hv).1
   simpa using this
  subst hj
  simp only [List.getElem?_cons_zero,Option.some.injEq] at hv
  subst hv
  rw [add_add']
  exact hat _ _ (by simp [oneR,hi])
theorem OwnB.bs {e lo:Nat} {w:World} {A:Option Addr} {c:Nat} {l:List UInt8} (h:OwnB e lo w A c l):BS (fun b=>lo≤b) w A c l:=OwnRow.gs1 h
theorem OwnRow.bs {e lo:Nat} {w:World} {A:Option Addr} {c:Nat} {l:List UInt8} (h:OwnRow e 1 lo w A l.length c (l.map bv)):BS (fun b=>lo≤b) w A c l:=OwnRow.gs1 h
def slB (P:Program) (t e size bytes:Nat):Bool:=
 match P.underlying t,P.info? e with
 |some (.slice e'),some i=>e'==e&&i.size==size&&i.bytes==bytes&&decide (0<size)&&decide (0<bytes)&&(match i.zero with|some z=>z.cells.size==size|none=>false)
 |_,_=>false
theorem slB_out {P : Program} {t e size bytes : Nat} (h : slB P t e size bytes = true) :
  ∃i z,P.underlying t=some (.slice e)∧P.info? e=some i∧i.zero=some z∧i.size=size∧i.bytes=bytes∧z.cells.size=size∧0<size∧0<bytes:=by
 unfold slB at h
 split at h
 ·rename_i e' i h1 h2
  simp only [Bool.and_eq_true,beq_iff_eq,decide_eq_true_eq] at h
  obtain ⟨⟨⟨⟨⟨rfl,h3⟩,h4⟩,h6⟩,h7⟩,h5⟩:=h
  split at h5
  ·rename_i z hz
   exact ⟨i,z,h1,h2,hz,h3,h4,by simpa using h5,h6,h7⟩
  ·cases h5
 ·cases h
theorem run_append {P : Program} {t e size bytes lo n m c c2 ty : Nat} {w : World} {A B : Option Addr} {xs news : List Value} (hT : slB P t e size bytes = true)
  (hown:OwnRow e size lo w A n c xs) (hl:news.length=m*size) (hat: ∀b,B=some b→At w b news) (hB:B=none→m=0) (h1: ∀u∈news,u.oneCell'=true)
  (hb:(n+m)*bytes≤140737488355328) (hlo:lo≤w.heap.size):
  ∃ A' c' w', (Builtin.append_ #[t, t] ty #[.slice A n c, .slice B m c2]).run P w = .ok (.slice A' (n + m) c') w' ∧ OwnRow e size lo w' A' (n + m) c' (xs ++ news) ∧
   Chg (fun b=>c≠0∧lo≤b∧blk A b) w w'∧(A'=A∧c'=c∨A'=some ⟨w.heap.size,0,none⟩):=by
 obtain ⟨i,z,ht,hi,hz,rfl,rfl,hzs,hsz,hbz⟩:=slB_out hT
 have hmx:n+m≤140737488355328:=Nat.le_trans (Nat.le_mul_of_pos_right _ hbz) hb
 by_cases hm:m=0
 ·subst hm
  have hn:news= []:=List.eq_nil_of_length_eq_zero (by simpa using hl)
  subst hn
  refine ⟨A,c,w, ?_,by simpa using hown,Chg.refl _ _, .inl ⟨rfl,rfl⟩⟩
  have hnc:=hown.le
  rcases A with _ | a <;> rcases B with _ | b <;>
   simp [Builtin.append_,run_underlying ht,sizeOf,typeInfo,hi,Builtin.lenOf,hnc,Builtin.firstCells,loadCells,loadCellsFrom,storeCells]
 ·rcases B with _ | b
  ·exact absurd (hB rfl) hm
  ·have hat' : ∀ j v, news[j]? = some v → w.cell? (b.add j) = some v := hat b rfl
   have hlen:(xs++news).length=(n+m)*i.size:=by rw [List.length_append,hown.len,hl,Nat.add_mul]
   have grown : ∀ (old : Nat), old < n + m →
     OwnRow e i.size lo (w.drew.alloc (.cells (xs.toArray ++ news.toArray ++ Builtin.zeroCells z.cells (grownCap w (n + m) old e - (n + m))) e))
      (some ⟨w.heap.size,0,none⟩) (n+m) (grownCap w (n+m) old e) (xs++news)∧
     Chg (fun b=>c≠0∧lo≤b∧blk A b) w (w.drew.alloc (.cells (xs.toArray++news.toArray++Builtin.zeroCells z.cells (grownCap w (n+m) old e-(n+m))) e)):=by
    intro old ho
    have hge:=grownCap_ge w (n+m) old e
    refine ⟨⟨hlen,hge,hmx, .inr ⟨w.heap.size,_,rfl,hlo,heap_alloc_new w.drew _, ?_, ?_⟩⟩,((Ext.drew w).trans (Ext.alloc _ _)).ext⟩
    ·simp only [Array.size_append, List.size_toArray, size_zeroCells, hzs, hown.len, hl, ← Nat.add_mul]
     congr 1
     omega
    ·simp only [Array.toList_append, List.append_assoc]
     rw [←List.append_assoc,←hlen]
     exact List.take_left
   have h63:((n+m:Nat):Int)≤9223372036854775807:=by omega
   rcases hown.row with ⟨rfl,rfl⟩|⟨g,cur,rfl,hbg,hg,hcs,htake⟩
   ·have hx : xs = [] := List.eq_nil_of_length_eq_zero (by simpa using hown.len)
    subst hx
    have hgr:=grown 0 (by omega)
    rcases A with _|a
    ·have hr := run_append_nil (P := P) w t ty e i z ht hi hz b m c2 news hl hat' (by omega) (by omega) (by have := hb; simp only [Nat.zero_add] at this; omega)
     simp only [Nat.zero_add,List.nil_append,Array.empty_append] at hgr⊢
     exact ⟨_,_,_,hr,hgr.1,hgr.2, .inr rfl⟩
    ·have hr := run_append_grow (P := P) w t ty e i z ht hi hz a 0 0 [] (by simp) (by simp) b m c2 news hl hat' (by omega) h63 (growslice_fits (by omega) hb)
     exact ⟨_,_,_,hr,hgr.1,hgr.2, .inr rfl⟩
   ·by_cases hroom : n + m ≤ c
    ·have hfit : n * i.size + news.length ≤ cur.size := by rw [hl, hcs, ← Nat.add_mul]; exact Nat.mul_le_mul_right _ hroom
     have hr:=run_append_room (P:=P) w t ty e i ht hi g n c cur hg b m c2 news hl hat' h1 hroom hfit
     refine ⟨_, _, _, hr, ⟨hlen, hroom, hmx, .inr ⟨g, _, rfl, hbg, setRow_heap w g cur _ e _ hg, ?_, ?_⟩⟩,
      ⟨rfl,rfl,rfl,by simp,fun k _ hk=>setRow_other w g k _ (fun e=>hk ⟨by omega,by omega,_,rfl,e.symm⟩)⟩, .inl ⟨rfl,rfl⟩⟩
     ·simp only [List.size_toArray, List.length_append, List.length_take, List.length_drop, Array.length_toList]
      omega
     ·rw [htake, ← hlen]
      exact List.take_left
    ·have hgr := grown c (by omega)
     have hr:=run_append_grow (P:=P) w t ty e i z ht hi hz ⟨g,0,none⟩ n c xs hown.len (hown.at_ rfl) b m c2 news hl hat' (by omega) h63 (growslice_fits (by omega) hb)
     exact ⟨_,_,_,hr,hgr.1,hgr.2, .inr rfl⟩
end Go.Eng
namespace Go.Eng
def Wr (lo:Nat) (w:World) (A:Option Addr) (n:Nat):Prop:=
 ∀i,i<n→∃a,A=some a∧lo≤a.block∧(∃b:UInt8,w.cell? (a.add i)=some (bv b))∧w.frozen? (a.add i)=false
theorem OwnRow.wr {e lo c:Nat} {w:World} {A:Option Addr} {l:List UInt8} (h:OwnRow e 1 lo w A l.length c (l.map bv)):Wr lo w A l.length:=by
 intro i hi
 rcases h.row with ⟨_,h0⟩|⟨g,cur,hA,hb,hg,_⟩
 ·omega
 ·refine ⟨⟨g, 0, none⟩, hA, hb, ⟨l[i], h.at_ hA _ _ (by simp [hi])⟩, ?_⟩
  rw [add_lit']
  simp [World.frozen?,hg]
structure Spl (lo:Nat) (w w':World):Prop where
 chg:Chg (fun b=>lo≤b) w w'
 wr: ∀A n,Wr lo w A n→Wr lo w' A n
theorem Spl.refl (lo:Nat) (w:World):Spl lo w w:=⟨Chg.refl _ _,fun _ _ h=>h⟩
theorem Spl.setCell {lo:Nat} {w0 w:World} (h:Spl lo w0 w) {p:Addr} {b:UInt8} {u:Value} (hlo:lo≤p.block) (hc:w.cell? p=some u):Spl lo w0 (w.setCell p (bv b)):=by
 refine ⟨h.chg.step (Chg.setCell w p (bv b)) (fun k _ e=>by rw [e];exact hlo),fun A n hw i hi=> ?_⟩
 obtain ⟨a,hA,hla,⟨x,hx⟩,hf⟩:=h.wr A n hw i hi
 refine ⟨a,hA,hla, ?_, ?_⟩
 ·by_cases e : a.add i = p
  ·rw [e]
   exact ⟨b,World.cell?_setCell_same w p (bv b) hc⟩
  ·exact ⟨x,(World.cell?_setCell_other w p (a.add i) (bv b) (fun x=>e x.symm)).trans hx⟩
 ·rw [World.frozen?_setCell];exact hf
end Go.Eng
namespace Go.Eng
open Go.RowKit
def evs (L : List (Nat × Value)) : List Operand → Option (List Value)
 | []=>some []
 | x :: t => match ev L x, evs L t with
  |some v,some vs=>some (v::vs)
  |_,_=>none
def u8Of (n:Int):UInt8:=UInt8.ofNat (n%256).toNat
theorem wrap_u8 (n:Int):IntKind.u8.wrap n=((u8Of n).toNat:Int):=by
 have h:IntKind.u8.wrap n=n%256:=by simp [IntKind.wrap,IntKind.bits,IntKind.signed]
 rw [h,u8Of]
 simp only [UInt8.toNat_ofNat']
 omega
theorem w64 {n:Int} (h1: -9223372036854775808≤n) (h2:n≤9223372036854775807):IntKind.i64.wrap n=n:=by
 rw [IntKind.wrap_i64];omega
def scB (P:Program) (t:TypeId):Bool:=
 match P.underlying t with
 |some (.struct _)|some (.array _ _)|none=>false
 |_=>true
def agB (P:Program) (t:TypeId) (k:Nat):Bool:=
 (match P.underlying t with
 |some (.struct _)|some (.array _ _)=>true
 |_=>false)&&((P.info? t).map (·.size))==some k
def fldB (P:Program) (s:TypeId) (f off:Nat):Bool:=
 match P.underlying s with
 |some (.struct fs)=>(match fs[f]? with|some fd=>fd.offset==off&&(match P.info? fd.type with|some i=>i.size !=0|none=>false)|none=>false)
 |_=>false
def callable (P:Program) (f:FuncId):Bool:=
 match P.funcs[f]? with
 |some fn=>fn.name != "runtime.NumGoroutine" &&fn.body.isSome
 |none=>false
section
variable {P:Program} {n:Nat} {L:List (Nat×Value)} {w w':World} {Q:Exit→Act→World→Prop} {ops:Array Oper} {rest:List Oper} {ty:TypeId} {pos:String} {af:Array Edge} {d:Nat}
theorem enter_of {f:FuncId} (h:callable P f=true) (args:Array Value) (w:World):(callFunc f args).run P w= .ok (.enter f args) w:=by
 unfold callable at h
 split at h
 ·rename_i fn hf
  simp only [Bool.and_eq_true,bne_iff_ne,ne_eq] at h
  obtain ⟨h1,h2⟩:=h
  obtain ⟨c,hc⟩:=Option.isSome_iff_exists.1 h2
  simp [callFunc,program,Sem.run_bind,Sem.run,hf,h1,hc]
 ·cases h
theorem evs_map {a:Act} (ha:Fr n a L): ∀{xs:List Operand} {vs:List Value},evs L xs=some vs→xs.map a.eval=vs:=by
 intro xs
 induction xs with
 |nil=>intro vs h;simp [evs] at h;simp [h]
 | cons x t ih =>
  intro vs h
  simp only [evs] at h
  split at h
  ·rename_i v us hv hus
   simp only [Option.some.injEq] at h
   subst h
   simp [ha.eval hv,ih hus]
  ·cases h
theorem wl_move {x : Operand} {v : Value} (hd : d < n) (hx : ev L x = some v) (h : WL P n ops Q rest ((d, v) :: L) w) :
  WL P n ops Q ({dst:=some d,op:= .move x,type:=ty,pos:=pos,after:=af,guard:=none}::rest) L w:=
 wl_run hd (fun a ha=>by simp [execOp,ha.eval hx]) h
theorem wl_assign {x : Operand} {v : Value} (hd : d < n) (hx : ev L x = some v) (h : WL P n ops Q rest ((d, v) :: L) w) :
  WL P n ops Q ({dst:=some d,op:= .assign x,type:=ty,pos:=pos,after:=af,guard:=none}::rest) L w:=
 wl_run hd (fun a ha=>by simp [execOp,ha.eval hx]) h
theorem wl_pick {c x y : Operand} {b : Bool} {v : Value} (hd : d < n) (hc : ev L c = some (.bool b)) (hv : ev L (if b then x else y) = some v) (h : WL P n ops Q rest ((d, v) :: L) w) :
  WL P n ops Q ({dst:=some d,op:= .pick c x y,type:=ty,pos:=pos,after:=af,guard:=none}::rest) L w:=
 wl_run hd (fun a ha=>by
  have e1:=ha.eval hc
  have e2:=ha.eval hv
  cases b<;>simp [execOp,e1,asBool] at e2⊢ <;>simp [e2]) h
theorem wl_lss {k : IntKind} {x y : Operand} {a b : Int} {t u : TypeId} (hd : d < n) (hx : ev L x = some (.int k a)) (hy : ev L y = some (.int k b)) (h : WL P n ops Q rest ((d, .bool (decide (a < b))) :: L) w) :
  WL P n ops Q ({dst:=some d,op:= .binOp .lss t x y u,type:=ty,pos:=pos,after:=af,guard:=none}::rest) L w:=
 wl_run hd (fun c hc=>by simp [execOp,hc.eval hx,hc.eval hy,eqGuard,binOp,Op.intCmp]) h
theorem wl_leq {k : IntKind} {x y : Operand} {a b : Int} {t u : TypeId} (hd : d < n) (hx : ev L x = some (.int k a)) (hy : ev L y = some (.int k b)) (h : WL P n ops Q rest ((d, .bool (decide (a ≤ b))) :: L) w) :
  WL P n ops Q ({dst:=some d,op:= .binOp .leq t x y u,type:=ty,pos:=pos,after:=af,guard:=none}::rest) L w:=
 wl_run hd (fun c hc=>by simp [execOp,hc.eval hx,hc.eval hy,eqGuard,binOp,Op.intCmp]) h
theorem wl_gtr {k : IntKind} {x y : Operand} {a b : Int} {t u : TypeId} (hd : d < n) (hx : ev L x = some (.int k a)) (hy : ev L y = some (.int k b)) (h : WL P n ops Q rest ((d, .bool (decide (b < a))) :: L) w) :
  WL P n ops Q ({dst:=some d,op:= .binOp .gtr t x y u,type:=ty,pos:=pos,after:=af,guard:=none}::rest) L w:=
 wl_run hd (fun c hc=>by simp [execOp,hc.eval hx,hc.eval hy,eqGuard,binOp,Op.intCmp]) h
theorem wl_geq {k : IntKind} {x y : Operand} {a b : Int} {t u : TypeId} (hd : d < n) (hx : ev L x = some (.int k a)) (hy : ev L y = some (.int k b)) (h : WL P n ops Q rest ((d, .bool (decide (b ≤ a))) :: L) w) :
  WL P n ops Q ({dst:=some d,op:= .binOp .geq t x y u,type:=ty,pos:=pos,after:=af,guard:=none}::rest) L w:=
 wl_run hd (fun c hc=>by simp [execOp,hc.eval hx,hc.eval hy,eqGuard,binOp,Op.intCmp]) h
theorem wl_eql {k : IntKind} {x y : Operand} {a b : Int} {t u : TypeId} (hd : d < n) (hx : ev L x = some (.int k a)) (hy : ev L y = some (.int k b)) (h : WL P n ops Q rest ((d, .bool (decide (a = b))) :: L) w) :
  WL P n ops Q ({dst:=some d,op:= .binOp .eql t x y u,type:=ty,pos:=pos,after:=af,guard:=none}::rest) L w:=
 wl_run hd (fun c hc=>by
  have e:(a==b)=decide (a=b):=by by_cases h:a=b<;>simp [h]
  simp [execOp,hc.eval hx,hc.eval hy,eqGuard,binOp,Op.intCmp,e]) h
theorem wl_neq {k : IntKind} {x y : Operand} {a b : Int} {t u : TypeId} (hd : d < n) (hx : ev L x = some (.int k a)) (hy : ev L y = some (.int k b)) (h : WL P n ops Q rest ((d, .bool (decide (a ≠ b))) :: L) w) :
  WL P n ops Q ({dst:=some d,op:= .binOp .neq t x y u,type:=ty,pos:=pos,after:=af,guard:=none}::rest) L w:=
 wl_run hd (fun c hc=>by
  have e:(a !=b)=decide (a≠b):=by by_cases h:a=b<;>simp [h]
  simp [execOp,hc.eval hx,hc.eval hy,eqGuard,binOp,Op.intCmp,e]) h
theorem wl_add {k : IntKind} {x y : Operand} {a b z : Int} {t u : TypeId} (hd : d < n) (hx : ev L x = some (.int k a)) (hy : ev L y = some (.int k b)) (hz : k.wrap (a + b) = z) (h : WL P n ops Q rest ((d, .int k z) :: L) w) :
  WL P n ops Q ({dst:=some d,op:= .binOp .add t x y u,type:=ty,pos:=pos,after:=af,guard:=none}::rest) L w:=
 wl_run hd (fun c hc=>by simp [execOp,hc.eval hx,hc.eval hy,eqGuard,binOp,Op.intArith,hz]) h
theorem wl_sub {k : IntKind} {x y : Operand} {a b z : Int} {t u : TypeId} (hd : d < n) (hx : ev L x = some (.int k a)) (hy : ev L y = some (.int k b)) (hz : k.wrap (a - b) = z) (h : WL P n ops Q rest ((d, .int k z) :: L) w) :
  WL P n ops Q ({dst:=some d,op:= .binOp .sub t x y u,type:=ty,pos:=pos,after:=af,guard:=none}::rest) L w:=
 wl_run hd (fun c hc=>by simp [execOp,hc.eval hx,hc.eval hy,eqGuard,binOp,Op.intArith,hz]) h
theorem wl_mul {k : IntKind} {x y : Operand} {a b z : Int} {t u : TypeId} (hd : d < n) (hx : ev L x = some (.int k a)) (hy : ev L y = some (.int k b)) (hz : k.wrap (a * b) = z) (h : WL P n ops Q rest ((d, .int k z) :: L) w) :
  WL P n ops Q ({dst:=some d,op:= .binOp .mul t x y u,type:=ty,pos:=pos,after:=af,guard:=none}::rest) L w:=
 wl_run hd (fun c hc=>by simp [execOp,hc.eval hx,hc.eval hy,eqGuard,binOp,Op.intArith,hz]) h
theorem wl_quo {k : IntKind} {x y : Operand} {a b z : Int} {t u : TypeId} (hd : d < n) (hx : ev L x = some (.int k a)) (hy : ev L y = some (.int k b)) (h0 : b ≠ 0) (hz : k.wrap (a.tdiv b) = z) (h : WL P n ops Q rest ((d, .int k z) :: L) w) :
  WL P n ops Q ({dst:=some d,op:= .binOp .quo t x y u,type:=ty,pos:=pos,after:=af,guard:=none}::rest) L w:=
 wl_run hd (fun c hc=>by simp [execOp,hc.eval hx,hc.eval hy,eqGuard,binOp,Op.intDiv,h0,hz]) h
theorem wl_rem {k : IntKind} {x y : Operand} {a b z : Int} {t u : TypeId} (hd : d < n) (hx : ev L x = some (.int k a)) (hy : ev L y = some (.int k b)) (h0 : b ≠ 0) (hz : a.tmod b = z) (h : WL P n ops Q rest ((d, .int k z) :: L) w) :
  WL P n ops Q ({dst:=some d,op:= .binOp .rem t x y u,type:=ty,pos:=pos,after:=af,guard:=none}::rest) L w:=
 wl_run hd (fun c hc=>by simp [execOp,hc.eval hx,hc.eval hy,eqGuard,binOp,Op.intDiv,h0,hz]) h
theorem wl_shr {k k' : IntKind} {x y : Operand} {a b z : Int} {t u : TypeId} (hd : d < n) (hx : ev L x = some (.int k a)) (hy : ev L y = some (.int k' b)) (h0 : 0 ≤ b) (hz : a.fdiv (2 ^ min b.toNat k.bits) = z) (h : WL P n ops Q rest ((d, .int k z) :: L) w) :
  WL P n ops Q ({dst:=some d,op:= .binOp .shr t x y u,type:=ty,pos:=pos,after:=af,guard:=none}::rest) L w:=
 wl_run hd (fun c hc=>by
  have h1: ¬b<0:=by omega
  simp [execOp,hc.eval hx,hc.eval hy,eqGuard,binOp,Op.shift,h1,hz]) h
theorem wl_shl {k k' : IntKind} {x y : Operand} {a b z : Int} {t u : TypeId} (hd : d < n) (hx : ev L x = some (.int k a)) (hy : ev L y = some (.int k' b)) (h0 : 0 ≤ b) (hz : k.wrap (a * 2 ^ min b.toNat k.bits) = z) (h : WL P n ops Q rest ((d, .int k z) :: L) w) :
  WL P n ops Q ({dst:=some d,op:= .binOp .shl t x y u,type:=ty,pos:=pos,after:=af,guard:=none}::rest) L w:=
 wl_run hd (fun c hc=>by
  have h1: ¬b<0:=by omega
  simp [execOp,hc.eval hx,hc.eval hy,eqGuard,binOp,Op.shift,h1,hz]) h
def bitsV (op:BinOp) (k:IntKind) (a b:Int):Int:=
 match op with
 | .and=>k.wrap ((BitVec.ofInt k.bits a&&&BitVec.ofInt k.bits b).toNat:Int)
 | .or=>k.wrap ((BitVec.ofInt k.bits a|||BitVec.ofInt k.bits b).toNat:Int)
 | .xor=>k.wrap ((BitVec.ofInt k.bits a^^^BitVec.ofInt k.bits b).toNat:Int)
 |_=>k.wrap ((BitVec.ofInt k.bits a&&& ~~~BitVec.ofInt k.bits b).toNat:Int)
theorem wl_and {k : IntKind} {x y : Operand} {a b z : Int} {t u : TypeId} (hd : d < n) (hx : ev L x = some (.int k a)) (hy : ev L y = some (.int k b)) (hz : bitsV .and k a b = z) (h : WL P n ops Q rest ((d, .int k z) :: L) w) :
  WL P n ops Q ({dst:=some d,op:= .binOp .and t x y u,type:=ty,pos:=pos,after:=af,guard:=none}::rest) L w:=
 wl_run hd (fun c hc=>by subst hz;simp [execOp,hc.eval hx,hc.eval hy,eqGuard,binOp,Op.intBits,bitsV]) h
theorem wl_or {k : IntKind} {x y : Operand} {a b z : Int} {t u : TypeId} (hd : d < n) (hx : ev L x = some (.int k a)) (hy : ev L y = some (.int k b)) (hz : bitsV .or k a b = z) (h : WL P n ops Q rest ((d, .int k z) :: L) w) :
  WL P n ops Q ({dst:=some d,op:= .binOp .or t x y u,type:=ty,pos:=pos,after:=af,guard:=none}::rest) L w:=
 wl_run hd (fun c hc=>by subst hz;simp [execOp,hc.eval hx,hc.eval hy,eqGuard,binOp,Op.intBits,bitsV]) h
theorem wl_xor {k : IntKind} {x y : Operand} {a b z : Int} {t u : TypeId} (hd : d < n) (hx : ev L x = some (.int k a)) (hy : ev L y = some (.int k b)) (hz : bitsV .xor k a b = z) (h : WL P n ops Q rest ((d, .int k z) :: L) w) :
  WL P n ops Q ({dst:=some d,op:= .binOp .xor t x y u,type:=ty,pos:=pos,after:=af,guard:=none}::rest) L w:=
 wl_run hd (fun c hc=>by subst hz;simp [execOp,hc.eval hx,hc.eval hy,eqGuard,binOp,Op.intBits,bitsV]) h
theorem wl_not {x : Operand} {b : Bool} {t : TypeId} (hd : d < n) (hx : ev L x = some (.bool b)) (h : WL P n ops Q rest ((d, .bool (!b)) :: L) w) :
  WL P n ops Q ({dst:=some d,op:= .unOp .not t x,type:=ty,pos:=pos,after:=af,guard:=none}::rest) L w:=
 wl_run hd (fun c hc=>by simp [execOp,hc.eval hx,Op.unary]) h
theorem wl_notd {x : Operand} {p : Prop} [Decidable p] {t : TypeId} (hd : d < n) (hx : ev L x = some (.bool (decide p))) (h : WL P n ops Q rest ((d, .bool (decide (¬ p))) :: L) w) :
  WL P n ops Q ({dst:=some d,op:= .unOp .not t x,type:=ty,pos:=pos,after:=af,guard:=none}::rest) L w:=
 wl_run hd (fun c hc=>by simp [execOp,hc.eval hx,Op.unary]) h
def intB (P:Program) (t:TypeId) (k:IntKind):Bool:=match P.underlying t with|some (.int k')=>k'==k|_=>false
theorem intB_out {t:TypeId} {k:IntKind} (h:intB P t k=true):P.underlying t=some (.int k):=by
 unfold intB at h
 split at h
 ·rename_i k' hk
  rw [hk,beq_iff_eq.1 h]
 ·cases h
theorem wl_conv {k k1 k2 : IntKind} {x : Operand} {a z : Int} {t u : TypeId} (hd : d < n) (ht : intB P t k1 = true) (hu : intB P u k2 = true) (hx : ev L x = some (.int k a)) (hz : k2.wrap a = z) (h : WL P n ops Q rest ((d, .int k2 z) :: L) w) :
  WL P n ops Q ({dst:=some d,op:= .convert t u x,type:=ty,pos:=pos,after:=af,guard:=none}::rest) L w:=
 wl_run hd (fun c hc=>by simp [execOp,hc.eval hx,convert,run_underlying (intB_out ht),run_underlying (intB_out hu),Conv.intToInt,hz]) h
theorem wl_call {f : FuncId} {xs : List Operand} {vs : List Value} {ts : Array TypeId} {R : Value → World → Prop} (hd : d < n) (hf : callable P f = true) (hx : evs L xs = some vs)
  (hc:Ret P f vs.toArray w R) (h: ∀v w',R v w'→WL P n ops Q rest ((d,v)::L) w'):
  WL P n ops Q ({dst:=some d,op:= .call {callee:= .value (.func f),args:=xs.toArray,argTypes:=ts},type:=ty,pos:=pos,after:=af,guard:=none}::rest) L w:=by
 intro a ha
 refine wpList_plain rfl fun K hK=> ?_
 have hm:=evs_map ha hx
 unfold Oper.wp
 have hrun:(execOp a.eval {dst:=some d,op:= .call {callee:= .value (.func f),args:=xs.toArray,argTypes:=ts},type:=ty,pos:=pos,after:=af,guard:=none}).run P w= .ok (.enter f vs.toArray) w:=by
  simp [execOp,resolve,Act.eval,Deferred.ofValue,invoke,hm,enter_of hf]
 rw [hrun]
 exact Calls.mono hc fun e w' ⟨v,he,hv⟩=>by subst he;exact hK _ _ (h v w' hv _ (ha.put hd v))
theorem wl_callv {f : FuncId} {fo : Operand} {first cap : List Value} {xs : List Operand} {vs : List Value} {ts : Array TypeId} {R : Value → World → Prop} (hd : d < n) (hf : callable P f = true)
  (hfo:ev L fo=some (.func (.func f) first.toArray cap.toArray)) (hx:evs L xs=some vs)
  (hc:Ret P f (first++vs++cap).toArray w R) (h: ∀v w',R v w'→WL P n ops Q rest ((d,v)::L) w'):
  WL P n ops Q ({dst:=some d,op:= .call {callee:= .value fo,args:=xs.toArray,argTypes:=ts},type:=ty,pos:=pos,after:=af,guard:=none}::rest) L w:=by
 intro a ha
 refine wpList_plain rfl fun K hK=> ?_
 have hm:=evs_map ha hx
 unfold Oper.wp
 have hrun:(execOp a.eval {dst:=some d,op:= .call {callee:= .value fo,args:=xs.toArray,argTypes:=ts},type:=ty,pos:=pos,after:=af,guard:=none}).run P w= .ok (.enter f (first++vs++cap).toArray) w:=by
  simp [execOp,resolve,ha.eval hfo,Deferred.ofValue,invoke,hm,enter_of hf]
 rw [hrun]
 exact Calls.mono hc fun e w' ⟨v,he,hv⟩=>by subst he;exact hK _ _ (h v w' hv _ (ha.put hd v))
theorem wl_extract {x : Operand} {vs : List Value} {i : Nat} {v : Value} (hd : d < n) (hx : ev L x = some (.tuple vs.toArray)) (hv : vs[i]? = some v) (h : WL P n ops Q rest ((d, v) :: L) w) :
  WL P n ops Q ({dst:=some d,op:= .extract x i,type:=ty,pos:=pos,after:=af,guard:=none}::rest) L w:=
 wl_run hd (fun c hc=>by simp [execOp,hc.eval hx,Instr.extract,hv]) h
theorem wl_len {x : Operand} {A : Option Addr} {k c t : Nat} {e : TypeId} (hd : d < n) (ht : P.underlying t = some (.slice e)) (hx : ev L x = some (.slice A k c)) (h : WL P n ops Q rest ((d, .int .i64 (k : Int)) :: L) w) :
  WL P n ops Q ({dst:=some d,op:= .call {callee:= .builtin .len,args:= #[x],argTypes:= #[t]},type:=ty,pos:=pos,after:=af,guard:=none}::rest) L w:=
 wl_run hd (fun a ha=>by simp [execOp,resolve,invoke,builtin,Builtin.len_,ha.eval hx,run_underlying ht,goInt]) h
theorem wl_min {k : IntKind} {x y : Operand} {a b : Int} {ts : Array TypeId} (hd : d < n) (hx : ev L x = some (.int k a)) (hy : ev L y = some (.int k b)) (h : WL P n ops Q rest ((d, .int k (min a b)) :: L) w) :
  WL P n ops Q ({dst:=some d,op:= .call {callee:= .builtin .min,args:= #[x,y],argTypes:=ts},type:=ty,pos:=pos,after:=af,guard:=none}::rest) L w:=
 wl_run hd (fun c hc=>by
  have e:(if b<a then b else a)=min a b:=by rw [Int.min_def];split<;>split<;>omega
  simp [execOp,resolve,invoke,builtin,Builtin.min_,Builtin.min2,hc.eval hx,hc.eval hy,e]) h
theorem wl_nilq {x y : Operand} {A : Option Addr} {k c t : Nat} {e : TypeId} {u : TypeId} (hd : d < n) (ht : P.underlying t = some (.slice e)) (hx : ev L x = some (.slice A k c)) (hy : ev L y = some (.slice none 0 0)) (h : WL P n ops Q rest ((d, .bool A.isNone) :: L) w) :
  WL P n ops Q ({dst:=some d,op:= .binOp .eql t x y u,type:=ty,pos:=pos,after:=af,guard:=none}::rest) L w:=
 wl_run hd (fun a ha=>by
  have hq: ∀d:Nat,(Op.equalIn (d+1) t (.slice A k c) (.slice none 0 0)).run P w= .ok A.isNone w:=fun d=>by
   cases A<;>simp [Op.equalIn,run_underlying ht]
  have hb:(binOp .eql t (.slice A k c) (.slice none 0 0)).run P w= .ok (.bool A.isNone) w:=by
   simp only [binOp,Op.equal,Sem.run_bind]
   rw [show Op.maxDepth=9999+1 from rfl,hq 9999]
   simp
  have hg:(eqGuard .eql t x y (.slice A k c) (.slice none 0 0)).run P w= .ok () w:=by simp [eqGuard]
  simp only [execOp,ha.eval hx,ha.eval hy,Sem.run_bind,hg,Result.andThen_ok,hb,Sem.run_pure]) h
theorem wl_idx {α : Type} {r : Rep α} {S : Nat → Prop} {A : Option Addr} {c t e bytes : Nat} {l : List α} {x ix : Operand} {k : IntKind} {i : Int} (hd : d < n) (hT : slB P t e r.size bytes = true)
  (hx:ev L x=some (.slice A l.length c)) (hi:ev L ix=some (.int k i)) (g:GS r S w A c l) (j:Nat) (hj:i=(j:Int)) (hlt:j<l.length)
  (h: ∀a cs,a.block<w.heap.size→S a.block→At w a cs→r.rd S w cs l[j]→WL P n ops Q rest ((d, .pointer (some a))::L) w):
  WL P n ops Q ({dst:=some d,op:= .indexAddr t x ix,type:=ty,pos:=pos,after:=af,guard:=none}::rest) L w:=by
 obtain ⟨i0,z,ht,hi0,_,hs,_,_,_,_⟩:=slB_out hT
 obtain ⟨a,cs,rfl,hb,hS,hat,hr⟩:=g.rd j hlt
 refine wl_run (v:= .pointer (some (a.add (j*r.size)))) hd (fun ac ha=> ?_) (h _ cs (by rw [block_add];exact hb) (by rw [block_add];exact hS) hat hr)
 subst hj
 have h1:(0:Int)≤(j:Int)∧(j:Int)<(l.length:Int):=by omega
 simp [execOp,ha.eval hx,ha.eval hi,Instr.indexAt,asIntOf,run_underlying ht,sizeOf,typeInfo,hi0,hs,hlt]
theorem wl_idx0 {A : Option Addr} {a : Addr} {c t e size bytes m : Nat} {x ix : Operand} {k : IntKind} {i : Int} (hd : d < n) (hT : slB P t e size bytes = true)
  (hx:ev L x=some (.slice A m c)) (hi:ev L ix=some (.int k i)) (hA:A=some a) (j:Nat) (hj:i=(j:Int)) (hlt:j<m)
  (h:WL P n ops Q rest ((d, .pointer (some (a.add (j*size))))::L) w):
  WL P n ops Q ({dst:=some d,op:= .indexAddr t x ix,type:=ty,pos:=pos,after:=af,guard:=none}::rest) L w:=by
 obtain ⟨i0,z,ht,hi0,_,hs,_,_,_,_⟩:=slB_out hT
 refine wl_run (v:= .pointer (some (a.add (j*size)))) hd (fun ac ha=> ?_) h
 subst hj
 subst hA
 simp [execOp,ha.eval hx,ha.eval hi,Instr.indexAt,asIntOf,run_underlying ht,sizeOf,typeInfo,hi0,hs,hlt]
theorem wl_load {x : Operand} {t : TypeId} {p : Addr} {v : Value} (hd : d < n) (hs : scB P t = true) (hx : ev L x = some (.pointer (some p))) (hc : w.cell? p = some v) (h : WL P n ops Q rest ((d, v) :: L) w) :
  WL P n ops Q ({dst:=some d,op:= .load t x,type:=ty,pos:=pos,after:=af,guard:=none}::rest) L w:=by
 refine wl_run hd (fun a ha=> ?_) h
 unfold scB at hs
 split at hs
 ·cases hs
 ·cases hs
 ·cases hs
 ·rename_i hu h1 h2 h3
  cases hd:P.underlying t with
  |none=>exact absurd hd h3
  | some dd =>
   have hna:(isAgg t).run P w= .ok false w:=by
    unfold isAgg
    rw [Sem.run_bind,run_underlying hd]
    cases dd<;>simp_all
   simp [execOp,ha.eval hx,Instr.loadAt,Instr.sureAddr,loadVar,hna,load,Sem.run,hc]
theorem run_isAgg {t:TypeId} {k:Nat} (h:agB P t k=true) (w:World):(isAgg t).run P w= .ok true w∧(sizeOf t).run P w= .ok k w:=by
 unfold agB at h
 simp only [Bool.and_eq_true,beq_iff_eq] at h
 obtain ⟨h1,h2⟩:=h
 constructor
 ·split at h1
  ·rename_i fs hu;simp [isAgg,run_underlying hu]
  ·rename_i m e hu;simp [isAgg,run_underlying hu]
  ·cases h1
 ·cases hi : P.info? t with
  |none=>rw [hi] at h2;cases h2
  |some i=>rw [hi] at h2;simp at h2;simp [sizeOf,typeInfo,hi,h2]
theorem wl_loadA {x : Operand} {t : TypeId} {k : Nat} {p : Addr} {cs : List Value} (hd : d < n) (hs : agB P t k = true) (hx : ev L x = some (.pointer (some p))) (hat : At w p cs) (hl : cs.length = k)
  (h:WL P n ops Q rest ((d, .agg cs.toArray)::L) w):
  WL P n ops Q ({dst:=some d,op:= .load t x,type:=ty,pos:=pos,after:=af,guard:=none}::rest) L w:=by
 subst hl
 refine wl_run hd (fun a ha=> ?_) h
 have hl:=run_loadCells_list (P:=P) w p cs hat
 simp [execOp,ha.eval hx,Instr.loadAt,Instr.sureAddr,loadVar,(run_isAgg hs w).1,(run_isAgg hs w).2,hl]
theorem wl_append {t e size bytes lo k m c c2 : Nat} {A B : Option Addr} {xs news : List Value} {s x : Operand} (hd : d < n) (hT : slB P t e size bytes = true)
  (hs:ev L s=some (.slice A k c)) (hx:ev L x=some (.slice B m c2)) (hown:OwnRow e size lo w A k c xs) (hl:news.length=m*size) (hat: ∀b,B=some b→At w b news) (hB:B=none→m=0)
  (h1: ∀u∈news,u.oneCell'=true) (hb:(k+m)*bytes≤140737488355328) (hlo:lo≤w.heap.size)
  (h: ∀A' c' w',OwnRow e size lo w' A' (k+m) c' (xs++news)→Chg (fun b=>c≠0∧lo≤b∧blk A b) w w'→(A'=A∧c'=c∨A'=some ⟨w.heap.size,0,none⟩)→WL P n ops Q rest ((d, .slice A' (k+m) c')::L) w'):
  WL P n ops Q ({dst:=some d,op:= .call {callee:= .builtin .append,args:= #[s,x],argTypes:= #[t,t]},type:=ty,pos:=pos,after:=af,guard:=none}::rest) L w:=by
 obtain ⟨A',c',w',hr,h2,h3,h4⟩:=run_append (P:=P) (ty:=ty) (c2:=c2) hT hown hl hat hB h1 hb hlo
 refine wl_run hd (fun a ha=> ?_) (h A' c' w' h2 h3 h4)
 simp [execOp,resolve,invoke,builtin,ha.eval hs,ha.eval hx,hr]
theorem flat_ones {α : Type} (f : α → Value) : ∀ l : List α, (l.map fun b => [f b]).flatten = l.map f
 | []=>rfl
 |b::t=>by simp [flat_ones f t]
theorem wl_appendB {t e lo c c2 : Nat} {S : Nat → Prop} {A B : Option Addr} {l l2 : List UInt8} {s x : Operand} (hd : d < n) (hT : slB P t e 1 1 = true)
  (hs:ev L s=some (.slice A l.length c)) (hx:ev L x=some (.slice B l2.length c2)) (hown:OwnB e lo w A c l) (g:BS S w B c2 l2) (hb:l.length+l2.length≤140737488355328) (hlo:lo≤w.heap.size)
  (h: ∀A' c' w',OwnB e lo w' A' c' (l++l2)→Chg (fun b=>c≠0∧lo≤b∧blk A b) w w'→(A'=A∧c'=c∨A'=some ⟨w.heap.size,0,none⟩)→WL P n ops Q rest ((d, .slice A' (l++l2).length c')::L) w'):
  WL P n ops Q ({dst:=some d,op:= .call {callee:= .builtin .append,args:= #[s,x],argTypes:= #[t,t]},type:=ty,pos:=pos,after:=af,guard:=none}::rest) L w:=by
 obtain ⟨rows,hl,hs1,ho,hr,hat,hnil⟩:=g.cells
 have hfl:rows.flatten=l2.map bv:=by
  apply List.ext_getElem?
  intro i
  have : rows = l2.map (fun b => [bv b]) := by
   apply List.ext_getElem (by simp [hl])
   intro j h1 h2
   have:=hr j (by simpa using h2) h1
   simpa [byteR,oneR] using this
  rw [this,flat_ones]
 refine wl_append (news:=l2.map bv) hd hT hs hx hown (by simp) (fun b hb=>by rw [←hfl];exact hat b hb) (fun hB=>by simp [hnil hB]) (by simp [Value.oneCell']) (by omega) hlo ?_
 intro A' c' w' h2 h3 h4
 have:=h A' c' w' (by rw [OwnB,List.map_append,List.length_append];exact h2) h3 h4
 rwa [List.length_append] at this
end
end Go.Eng
namespace Go.Eng
open Go.RowKit
def dstOf (ops:Array Oper) (j:Nat):Option Nat:=(ops[j]?).bind (·.dst)
def edgesOf (ops:Array Oper) (j:Nat):List Nat:=
 match ops[j]? with
 |some o=>(o.after.toList.filter (Region.binds .any)).map (·.on)
 |none=> []
def anc (ops : Array Oper) : Nat → Nat → Nat → Bool
 |0,_,_=>false
 |f+1,i,p=>(edgesOf ops i).any fun e=>Nat.beq e p||anc ops f e p
def okInit (ops:Array Oper) (i x:Nat):Bool:=
 (List.range ops.size).all fun j=>(match dstOf ops j with|some d=> !Nat.beq d x|none=>true)||Nat.beq j i||anc ops ops.size j i
def fwd (ops:Array Oper):Bool:=(List.range ops.size).all fun i=>(edgesOf ops i).all fun e=>decide (e<i)
def oneEach (ops:Array Oper):Bool:=
 (List.range ops.size).all fun i=>(List.range ops.size).all fun j=>Nat.beq i j||(match dstOf ops i,dstOf ops j with|some d,some e=> !Nat.beq d e|_,_=>true)
def unwritten (ops:Array Oper) (x:Nat):Bool:=(List.range ops.size).all fun j=>match dstOf ops j with|some d=> !Nat.beq d x|none=>true
def QR (n:Nat) (F:List (Nat×Value)) (dst:Option Nat) (R:Value→World→Prop):Exit→Act→World→Prop:=
 fun e a w => e = .normal ∧ match dst with
  |some d=> ∃v,Fr n a ((d,v)::F)∧R v w
  |none=>Fr n a F∧R undef w
theorem qr_some {n d:Nat} {F:List (Nat×Value)} {R:Value→World→Prop} {v:Value} {w:World} (h:R v w):WK n (QR n F (some d) R .normal) ((d,v)::F) w:=fun _ ha=>⟨rfl,v,ha,h⟩
def fullL (a:Act):List (Nat×Value):=slots 0 a.tmps.toList
theorem lk_slots: ∀(l:List Value) (s k:Nat),lk (slots s l) (s+k)=l[k]? :=by
 intro l
 induction l with
 |nil=>intro s k;simp [slots,lk]
 | cons x t ih =>
  intro s k
  simp only [slots,lk]
  cases k with
  | zero =>
   have:Nat.beq (s+0) s=true:=by simp
   rw [this]
   simp
  | succ k =>
   have:Nat.beq (s+(k+1)) s=false:=by
    cases hb:Nat.beq (s+(k+1)) s
    ·rfl
    ·have := Nat.eq_of_beq_eq_true hb
     omega
   rw [this]
   have:=ih (s+1) k
   simp only [cond_false,List.getElem?_cons_succ]
   rw [←this]
   congr 1
   omega
theorem lk_full (a:Act) (k:Nat):lk (fullL a) k=a.tmps[k]? :=by
 have:=lk_slots a.tmps.toList 0 k
 rw [Nat.zero_add] at this
 rw [fullL,this]
 simp
theorem fr_full (a:Act) (h:a.defers= []):Fr a.tmps.size a (fullL a):=⟨rfl,h,fun k v hk=>by rwa [lk_full] at hk⟩
theorem Oper.wp_mono2 {P : Program} {o : Oper} {a : Act} {w : World} {K K' : Act → World → Prop} {Q Q' : Exit → Act → World → Prop} (h : ∀ a w, K a w → K' a w) (hq : ∀ e a w, e ≠ .normal → Q e a w → Q' e a w)
  (hh:o.wp P a w K Q):o.wp P a w K' Q':=by
 unfold Oper.wp at *
 generalize (execOp a.eval o).run P w=r at *
 have hl:LetsOut Q→LetsOut Q':=fun ⟨a,w,x⟩=>⟨a,w,hq _ _ _ (by simp) x⟩
 cases r with
 | ok n w' =>
  cases n <;> simp only [Oper.upon] at hh ⊢ <;>
   first
    |exact h _ _ hh
    |exact Calls.mono hh (fun e w'' he=>by cases e<;>first|exact h _ _ he|exact hq _ _ _ (by simp) he|exact hl he)
    |exact Rows.mono hh (fun _ _ he=>h _ _ he)
 |halt x w'=>cases x<;>simp only [Oper.upon] at hh⊢ <;>exact hq _ _ _ (by simp) hh
section
variable {P:Program} {n:Nat} {ops:Array Oper} {L0:List (Nat×Value)} {w0:World} {Φ:Nat→Value→World→Prop}
structure DI (n:Nat) (ops:Array Oper) (L0:List (Nat×Value)) (w0:World) (Φ:Nat→Value→World→Prop) (listed:Array Bool) (a:Act) (w:World):Prop where
 lsz:listed.size=ops.size
 size:a.tmps.size=n
 defers:a.defers= []
 ext:Ext w0 w
 closed: ∀j,j<ops.size→listed.getD j true=true→∀e∈edgesOf ops j,listed.getD e false=true
 init: ∀x v,lk L0 x=some v→(∀j,j<ops.size→dstOf ops j=some x→listed.getD j true=false)→a.tmps[x]? =some v
 done: ∀j,j<ops.size→listed.getD j true=true→∀d,dstOf ops j=some d→∃v,a.tmps[d]? =some v∧Φ j v w
structure Kn (ops:Array Oper) (L0:List (Nat×Value)) (Φ:Nat→Value→World→Prop) (i:Nat) (F:List (Nat×Value)) (w:World):Prop where
 init: ∀x v,lk L0 x=some v→okInit ops i x=true→lk F x=some v
 pred: ∀p,anc ops ops.size i p=true→∀d,dstOf ops p=some d→∃v,lk F d=some v∧Φ p v w
theorem edges_listed {listed:Array Bool} {i:Nat} (h:i∈Region.ready .any ops listed):listed.getD i true=false∧∃o,ops[i]? =some o∧∀e∈edgesOf ops i,listed.getD e false=true:=by
 obtain ⟨h0,o,ho,hall⟩:=mem_ready.1 h
 refine ⟨h0,o,ho,fun e he=> ?_⟩
 unfold edgesOf at he
 rw [ho] at he
 simp only [List.mem_map,List.mem_filter] at he
 obtain ⟨g,⟨hg,hb⟩,rfl⟩:=he
 exact hall g (by simpa using hg) hb
theorem anc_listed {listed:Array Bool} {a:Act} {w:World} (h:DI n ops L0 w0 Φ listed a w): ∀(f i p:Nat),(∀e∈edgesOf ops i,listed.getD e false=true)→anc ops f i p=true→listed.getD p false=true:=by
 intro f
 induction f with
 |zero=>intro i p _ hh;simp [anc] at hh
 | succ f ih =>
  intro i p he hh
  simp only [anc,List.any_eq_true,Bool.or_eq_true] at hh
  obtain ⟨e,hm,hor⟩:=hh
  rcases hor with hb|hb
  ·rw [←Nat.eq_of_beq_eq_true hb];exact he e hm
  ·have h1 := he e hm
   have hlt:e<listed.size:=by
    rcases Nat.lt_or_ge e listed.size with hl|hl
    ·exact hl
    ·rw [Array.getD_eq_getD_getElem?,Array.getElem?_eq_none hl] at h1;cases h1
   have h2:listed.getD e true=true:=by
    rw [Array.getD_eq_getD_getElem?,Array.getElem?_eq_getElem hlt] at h1⊢;exact h1
   exact ih e p (h.closed e (by rw [←h.lsz];exact hlt) h2) hb
theorem getD_true_of_false {listed:Array Bool} {p:Nat} (h:listed.getD p false=true):listed.getD p true=true:=by
 rw [Array.getD_eq_getD_getElem?] at h⊢
 cases hp:listed[p]? <;>simp_all
theorem lt_of_getD {listed:Array Bool} {p:Nat} (h:listed.getD p false=true):p<listed.size:=by
 rcases Nat.lt_or_ge p listed.size with hl|hl
 ·exact hl
 ·rw [Array.getD_eq_getD_getElem?,Array.getElem?_eq_none hl] at h;cases h
theorem DI.kn {listed:Array Bool} {a:Act} {w:World} (h:DI n ops L0 w0 Φ listed a w) {i:Nat} (hi:i∈Region.ready .any ops listed):Kn ops L0 Φ i (fullL a) w:=by
 obtain ⟨h0,o,ho,he⟩:=edges_listed hi
 refine ⟨fun x v hx hok=> ?_,fun p hp d hd=> ?_⟩
 ·rw [lk_full]
  refine h.init x v hx fun j hj hd=> ?_
  simp only [okInit,List.all_eq_true,List.mem_range] at hok
  have:=hok j hj
  rw [hd] at this
  have hxx:Nat.beq x x=true:=by simp
  simp only [hxx,Bool.not_true,Bool.false_or,Bool.or_eq_true] at this
  rcases this with hb|hb
  ·rw [Nat.eq_of_beq_eq_true hb];exact h0
  ·cases hl : listed.getD j true with
   |false=>rfl
   | true =>
    have:=getD_true_of_false (anc_listed h ops.size j i (h.closed j hj hl) hb)
    rw [h0] at this
    cases this
 ·rw [lk_full]
  have hl:=anc_listed h ops.size i p he hp
  exact h.done p (by rw [←h.lsz];exact lt_of_getD hl) (getD_true_of_false hl) d hd
theorem getD_set (listed:Array Bool) (i j:Nat) (b:Bool) (hi:i<listed.size):(listed.setIfInBounds i true).getD j b=if j=i then true else listed.getD j b:=by
 rw [Array.getD_eq_getD_getElem?,Array.getElem?_setIfInBounds,Array.getD_eq_getD_getElem?]
 by_cases e:j=i
 ·subst e;simp [hi]
 ·rw [if_neg (Ne.symm e),if_neg e]
theorem DI.next {listed : Array Bool} {a a' : Act} {w w' : World} (h : DI n ops L0 w0 Φ listed a w) (hst : ∀ i v w w', Ext w w' → Φ i v w → Φ i v w') (h1 : oneEach ops = true)
  {i:Nat} (hi:i∈Region.ready .any ops listed) (hq:QR n (fullL a) (dstOf ops i) (fun v w'=>Ext w w'∧Φ i v w') .normal a' w'):
  DI n ops L0 w0 Φ (listed.setIfInBounds i true) a' w':=by
 obtain ⟨h0,o,ho,he⟩:=edges_listed hi
 have hlt:i<ops.size:=(Array.getElem?_eq_some_iff.1 ho).1
 have hlt':i<listed.size:=by rw [h.lsz];exact hlt
 obtain ⟨_,hq⟩:=hq
 have key:a'.tmps.size=n∧a'.defers= []∧Ext w w'∧(∀x,dstOf ops i≠some x→∀v,a.tmps[x]? =some v→a'.tmps[x]? =some v)∧(∀d,dstOf ops i=some d→∃v,a'.tmps[d]? =some v∧Φ i v w'):=by
  cases hd:dstOf ops i with
  | none =>
   rw [hd] at hq
   obtain ⟨hf,hE,_⟩:=hq
   exact ⟨hf.size,hf.defers,hE,fun x _ v hv=>hf.get x v (by rw [lk_full];exact hv),fun d hd=>by cases hd⟩
  | some d =>
   rw [hd] at hq
   obtain ⟨v,hf,hE,hv⟩:=hq
   refine ⟨hf.size,hf.defers,hE,fun x hx u hu=>hf.get x u ?_,fun d' hd'=>⟨v, ?_,hv⟩⟩
   ·simp only [lk]
    have:Nat.beq x d=false:=by
     cases hb:Nat.beq x d
     ·rfl
     ·exact absurd (by rw [Nat.eq_of_beq_eq_true hb]) hx
    rw [this,cond_false,lk_full]
    exact hu
   ·cases hd'
    refine hf.get d v ?_
    have:Nat.beq d d=true:=by simp
    simp only [lk,this,cond_true]
 obtain ⟨k1,k2,k3,k4,k5⟩:=key
 have hne: ∀j,j<ops.size→j≠i→∀d,dstOf ops j=some d→dstOf ops i≠some d:=by
  intro j hj hji d hd hd'
  simp only [oneEach,List.all_eq_true,List.mem_range,Bool.or_eq_true] at h1
  rcases h1 i hlt j hj with hb|hb
  ·exact hji (Nat.eq_of_beq_eq_true hb).symm
  ·rw [hd, hd'] at hb
   have:Nat.beq d d=true:=by simp
   simp at hb
 refine ⟨by simpa using h.lsz,k1,k2,h.ext.trans k3, ?_, ?_, ?_⟩
 ·intro j hj hl e hm
  rw [getD_set _ _ _ _ hlt'] at hl⊢
  split
  ·rfl
  ·by_cases e' : j = i
   ·subst e';exact he e hm
   ·rw [if_neg e'] at hl;exact h.closed j hj hl e hm
 ·intro x v hx hn
  refine k4 x (fun hd=> ?_) v (h.init x v hx fun j hj hd=> ?_)
  ·have := hn i hlt hd
   rw [getD_set _ _ _ _ hlt',if_pos rfl] at this
   cases this
  ·have := hn j hj hd
   rw [getD_set _ _ _ _ hlt'] at this
   split at this
   ·cases this
   ·exact this
 ·intro j hj hl d hd
  rw [getD_set _ _ _ _ hlt'] at hl
  by_cases e:j=i
  ·subst e;exact k5 d hd
  ·rw [if_neg e] at hl
   obtain ⟨v,hv,hp⟩:=h.done j hj hl d hd
   exact ⟨v,k4 d (hne j hj e d hd) v hv,hst j v w w' k3 hp⟩
theorem count_step {listed:Array Bool} {i:Nat} (hi:listed.getD i true=false):(listed.setIfInBounds i true).toList.count false+1=listed.toList.count false:=by
 have hlt:i<listed.size:=by
  rcases Nat.lt_or_ge i listed.size with hl|hl
  ·exact hl
  ·rw [Array.getD_eq_getD_getElem?,Array.getElem?_eq_none hl] at hi;cases hi
 have hv : listed.toList[i]'(by simpa using hlt) = false := by
  rw [Array.getD_eq_getD_getElem?,Array.getElem?_eq_getElem hlt] at hi
  simpa using hi
 have hpos:0<listed.toList.count false:=List.count_pos_iff.2 (by rw [←hv];exact List.getElem_mem _)
 rw [Array.toList_setIfInBounds,List.count_set (by simpa using hlt),hv]
 have e1:(if (false==false)=true then 1 else 0)=1:=rfl
 have e2:(if (true==false)=true then 1 else 0)=0:=rfl
 rw [e1,e2]
 omega
theorem all_listed {listed:Array Bool} (hsz:listed.size=ops.size) (hf:fwd ops=true) (hr:Region.ready .any ops listed= []): ∀j,j<ops.size→listed.getD j true=true:=by
 intro j
 induction j using Nat.strongRecOn with
 | _ j ih =>
  intro hj
  cases hl:listed.getD j true with
  |true=>rfl
  | false =>
   have hmem:j∈Region.ready .any ops listed:=by
    refine mem_ready.2 ⟨hl,ops[j],Array.getElem?_eq_getElem hj,fun e he hb=> ?_⟩
    simp only [fwd,List.all_eq_true,List.mem_range,decide_eq_true_eq] at hf
    have hin:e.on∈edgesOf ops j:=by
     unfold edgesOf
     rw [Array.getElem?_eq_getElem hj]
     exact List.mem_map.2 ⟨e,List.mem_filter.2 ⟨by simpa using he,hb⟩,rfl⟩
    have hlt:=hf j hj e.on hin
    have:=ih e.on hlt (by omega)
    have hls:e.on<listed.size:=by omega
    rw [Array.getD_eq_getD_getElem?,Array.getElem?_eq_getElem hls] at this⊢
    exact this
   rw [hr] at hmem
   cases hmem
theorem ready_of_count {listed:Array Bool} (_hsz:listed.size=ops.size) (h:listed.toList.count false=0):Region.ready .any ops listed= []:=by
 cases hr:Region.ready .any ops listed with
 |nil=>rfl
 | cons i t =>
  have hi:i∈Region.ready .any ops listed:=by rw [hr];simp
  obtain ⟨h0,_⟩:=edges_listed hi
  have:=count_step h0
  omega
theorem wc_draw {id : Nat} {l : List Oper} {Q : Exit → Act → World → Prop} {L : List (Nat × Value)} {w : World} (Φ : Nat → Value → World → Prop) (hm : P.follows .mixedOrders = true)
  (hB:(fwd l.toArray&&oneEach l.toArray)=true) (hst: ∀i v w w',Ext w w'→Φ i v w→Φ i v w')
  (H: ∀i o,l[i]? =some o→∀F w',Ext w w'→Kn l.toArray L Φ i F w'→WL P n l.toArray (QR n F (dstOf l.toArray i) fun v w''=>Ext w' w''∧Φ i v w'') [o] F w')
  (hQ: ∀F w',Ext w w'→(∀x v,lk L x=some v→unwritten l.toArray x=true→lk F x=some v)→(∀j d,dstOf l.toArray j=some d→∃v,lk F d=some v∧Φ j v w')→WK n (Q .normal) F w'):
  WK n ((Code.region id l.toArray true).wp P Q) L w:=by
 rw [Bool.and_eq_true] at hB
 obtain ⟨hf,h1⟩:=hB
 intro a ha
 have key: ∀(fuel:Nat) (listed:Array Bool) (a:Act) (w':World),listed.toList.count false≤fuel→DI n l.toArray L w Φ listed a w'→wpAny P .any l.toArray Q fuel listed a w':=by
  intro fuel
  have fin: ∀(listed:Array Bool) (a:Act) (w':World),DI n l.toArray L w Φ listed a w'→Region.ready .any l.toArray listed= []→Q .normal a w':=by
   intro listed a w' hD hr
   have hall:=all_listed hD.lsz hf hr
   refine hQ (fullL a) w' hD.ext (fun x v hx hu=> ?_) (fun j d hd=> ?_) a (by have:=fr_full a hD.defers;rwa [hD.size] at this)
   ·rw [lk_full]
    refine hD.init x v hx fun j hj hd=> ?_
    simp only [unwritten,List.all_eq_true,List.mem_range] at hu
    have:=hu j hj
    rw [hd] at this
    have hxx:Nat.beq x x=true:=by simp
    simp at this
   ·rw [lk_full]
    have hj:j<l.toArray.size:=by
     rcases Nat.lt_or_ge j l.toArray.size with hl|hl
     ·exact hl
     ·unfold dstOf at hd;rw [Array.getElem?_eq_none hl] at hd;cases hd
    exact hD.done j hj (hall j hj) d hd
  induction fuel with
  | zero =>
   intro listed a w' hc hD
   have hr:=ready_of_count hD.lsz (by omega)
   exact ⟨hr,fin listed a w' hD hr⟩
  | succ fuel ih =>
   intro listed a w' hc hD
   refine ⟨fin listed a w' hD,fun i hi=> ?_⟩
   obtain ⟨h0,o,ho,he⟩:=edges_listed hi
   have hol:l[i]? =some o:=by simpa using ho
   have hfr:=fr_full a hD.defers
   rw [hD.size] at hfr
   have hw:=H i o hol (fullL a) w' hD.ext (hD.kn hi) a hfr
   have hnext : ∀ a' w'', QR n (fullL a) (dstOf l.toArray i) (fun v w'' => Ext w' w'' ∧ Φ i v w'') .normal a' w'' → wpAny P .any l.toArray Q fuel (listed.setIfInBounds i true) a' w'' := fun a' w'' hq =>
    ih _ _ _ (by have:=count_step h0;omega) (hD.next hst h1 hi hq)
   unfold wpOp
   rw [ho]
   unfold wpList at hw
   simp only
   split
   ·rename_i hwn
    rw [if_pos hwn] at hw
    rcases hw with hw|⟨_,a1,w1,hx,_⟩
    ·exact .inl (Oper.wp_mono2 (fun a' w'' h=>hnext a' w'' h) (fun e a w hne h=>absurd h.1 hne) hw)
    ·cases hx
   ·rename_i hwn
    rw [if_neg hwn] at hw
    exact hnext _ _ hw
 have hdi:DI n l.toArray L w Φ (Array.replicate l.toArray.size false) a {w with drawn:=w.drawn+1}:=by
  refine ⟨by simp,ha.size,ha.defers,Ext.drew w,fun j hj hl=> ?_,fun x v hx _=>ha.get x v hx,fun j hj hl=> ?_⟩
  ·rw [Array.getD_eq_getD_getElem?,Array.getElem?_replicate,if_pos hj] at hl;cases hl
  ·rw [Array.getD_eq_getD_getElem?,Array.getElem?_replicate,if_pos hj] at hl;cases hl
 exact wp_region_any hm (key _ _ _ _ (by simp) hdi)
end
end Go.Eng
namespace Go.Eng
def pathB (ops : Array Oper) : Nat → List Nat → Nat → Bool
 |i, [],p=>(edgesOf ops i).any fun e=>Nat.beq e p
 |i,e::t,p=>(edgesOf ops i).any (fun x=>Nat.beq x e)&&pathB ops e t p
theorem anc_of_path {ops : Array Oper} : ∀ (es : List Nat) (f i p : Nat), pathB ops i es p = true → es.length < f → anc ops f i p = true
 | [],0,_,_,_,h=>absurd h (by simp)
 | [], f + 1, i, p, h, _ => by
  unfold pathB at h
  unfold anc
  rw [List.any_eq_true] at h⊢
  obtain ⟨e,he,h2⟩:=h
  exact ⟨e,he,by rw [h2];rfl⟩
 |e::t,0,_,_,_,h=>absurd h (by simp)
 | e :: t, f + 1, i, p, h, hl => by
  unfold pathB at h
  rw [Bool.and_eq_true] at h
  have ih:=anc_of_path t f e p h.2 (by simp at hl;omega)
  unfold anc
  rw [List.any_eq_true]
  obtain ⟨x,hx,h2⟩:=List.any_eq_true.1 h.1
  obtain rfl:=Nat.eq_of_beq_eq_true h2
  exact ⟨x,hx,by rw [ih];simp⟩
def pathOk (ops:Array Oper) (i:Nat) (es:List Nat) (p:Nat):Bool:=pathB ops i es p&&Nat.blt es.length ops.size
theorem anc_ok {ops:Array Oper} {i p:Nat} {es:List Nat} (h:pathOk ops i es p=true):anc ops ops.size i p=true:=by
 unfold pathOk at h
 rw [Bool.and_eq_true] at h
 exact anc_of_path es _ i p h.1 (Nat.le_of_ble_eq_true h.2)
def initOk (ops:Array Oper) (i x:Nat) (ps:List (Nat×List Nat)):Bool:=
 (List.range ops.size).all fun j=>(match dstOf ops j with|some d=> !Nat.beq d x|none=>true)||Nat.beq j i||ps.any fun q=>Nat.beq q.1 j&&pathOk ops j q.2 i
variable {ops:Array Oper} {L0:List (Nat×Value)} {Φ:Nat→Value→World→Prop} {i:Nat} {F:List (Nat×Value)} {w:World}
theorem Kn.predP (h:Kn ops L0 Φ i F w) (es:List Nat) (p:Nat) (hp:pathOk ops i es p=true) (d:Nat) (hd:dstOf ops p=some d): ∃v,lk F d=some v∧Φ p v w:=h.pred p (anc_ok hp) d hd
theorem Kn.initP (h:Kn ops L0 Φ i F w) (ps:List (Nat×List Nat)) (x:Nat) (v:Value) (hx:lk L0 x=some v) (hp:initOk ops i x ps=true):lk F x=some v:=by
 refine h.init x v hx ?_
 unfold initOk at hp
 unfold okInit
 rw [List.all_eq_true] at hp⊢
 intro j hj
 have:=hp j hj
 rw [Bool.or_eq_true,Bool.or_eq_true] at this⊢
 rcases this with h1|h1
 ·exact .inl h1
 ·obtain ⟨q, _, hq⟩ := List.any_eq_true.1 h1
  rw [Bool.and_eq_true] at hq
  obtain rfl:=Nat.eq_of_beq_eq_true hq.1
  exact .inr (anc_ok hq.2)
end Go.Eng
namespace Go.Eng
open Go.RowKit
section
variable {P:Program} {n:Nat} {L:List (Nat×Value)} {w w':World} {Q:Exit→Act→World→Prop} {ops:Array Oper} {rest:List Oper} {ty:TypeId} {pos:String} {af:Array Edge} {d:Nat}
theorem wl_gsplit {dj:Nat} {b:Bool} (hv:lk L dj=some (.bool b)) (ht:b=true→WL P n ops Q rest ((dj, .bool true)::L) w) (hf:b=false→WL P n ops Q rest ((dj, .bool false)::L) w):WL P n ops Q rest L w:=by
 intro a ha
 have key: ∀u,Value.bool b=u→Fr n a ((dj,u)::L):=by
  rintro u rfl
  refine ⟨ha.size,ha.defers,fun k v hk=> ?_⟩
  simp only [lk] at hk
  cases hb:Nat.beq k dj with
  | true =>
   rw [hb] at hk
   simp only [cond_true,Option.some.injEq] at hk
   subst hk
   rw [Nat.eq_of_beq_eq_true hb]
   exact ha.get _ _ hv
  |false=>rw [hb] at hk;exact ha.get _ _ hk
 cases b with
 |true=>exact ht rfl a (key _ rfl)
 |false=>exact hf rfl a (key _ rfl)
theorem qr_re {F:List (Nat×Value)} {R:Value→World→Prop} {v u:Value} (h:R v w):WK n (QR n F (some d) R .normal) ((d,v)::(d,u)::F) w:=by
 intro a ha
 refine ⟨rfl,v,⟨ha.size,ha.defers,fun k x hk=>ha.get k x ?_⟩,h⟩
 simp only [lk] at hk⊢
 cases hb:Nat.beq k d with
 |true=>rw [hb] at hk;exact hk
 |false=>rw [hb] at hk;exact hk
theorem wl_re {k:Nat} {u v:Value} (hv:lk L k=some u) (e:u=v) (h:WL P n ops Q rest ((k,v)::L) w):WL P n ops Q rest L w:=by
 subst e
 intro a ha
 refine h a ⟨ha.size,ha.defers,fun k' v' hk=> ?_⟩
 simp only [lk] at hk
 cases hb:Nat.beq k' k with
 | true =>
  rw [hb] at hk
  simp only [cond_true,Option.some.injEq] at hk
  subst hk
  rw [Nat.eq_of_beq_eq_true hb]
  exact ha.get _ _ hv
 |false=>rw [hb] at hk;exact ha.get _ _ hk
def szB (P:Program) (t k:Nat):Bool:=(P.info? t).map (·.size)==some k
def boB (P:Program) (t:TypeId):Bool:=match P.underlying t with|some .bool=>true|_=>false
theorem boB_out {t:TypeId} (h:boB P t=true):P.underlying t=some .bool:=by
 unfold boB at h
 split at h
 ·assumption
 ·cases h
theorem wl_eqlb {x y : Operand} {a b : Bool} {t u : TypeId} (hd : d < n) (ht : boB P t = true) (hx : ev L x = some (.bool a)) (hy : ev L y = some (.bool b)) (h : WL P n ops Q rest ((d, .bool (decide (a = b))) :: L) w) :
  WL P n ops Q ({dst:=some d,op:= .binOp .eql t x y u,type:=ty,pos:=pos,after:=af,guard:=none}::rest) L w:=
 wl_run hd (fun c hc=>by
  have hq: ∀k:Nat,(Op.equalIn (k+1) t (.bool a) (.bool b)).run P w= .ok (a==b) w:=fun k=>by simp [Op.equalIn,run_underlying (boB_out ht)]
  have hb:(binOp .eql t (.bool a) (.bool b)).run P w= .ok (.bool (decide (a=b))) w:=by
   simp only [binOp,Op.equal,Sem.run_bind]
   rw [show Op.maxDepth=9999+1 from rfl,hq 9999]
   cases a<;>cases b<;>simp
  have hg:(eqGuard .eql t x y (.bool a) (.bool b)).run P w= .ok () w:=by simp [eqGuard]
  simp only [execOp,hc.eval hx,hc.eval hy,Sem.run_bind,hg,Result.andThen_ok,hb,Sem.run_pure]) h
theorem wl_neqb {x y : Operand} {a b : Bool} {t u : TypeId} (hd : d < n) (ht : boB P t = true) (hx : ev L x = some (.bool a)) (hy : ev L y = some (.bool b)) (h : WL P n ops Q rest ((d, .bool (decide (a ≠ b))) :: L) w) :
  WL P n ops Q ({dst:=some d,op:= .binOp .neq t x y u,type:=ty,pos:=pos,after:=af,guard:=none}::rest) L w:=
 wl_run hd (fun c hc=>by
  have hq: ∀k:Nat,(Op.equalIn (k+1) t (.bool a) (.bool b)).run P w= .ok (a==b) w:=fun k=>by simp [Op.equalIn,run_underlying (boB_out ht)]
  have hb:(binOp .neq t (.bool a) (.bool b)).run P w= .ok (.bool (decide (a≠b))) w:=by
   simp only [binOp,Op.equal,Sem.run_bind]
   rw [show Op.maxDepth=9999+1 from rfl,hq 9999]
   cases a<;>cases b<;>simp
  have hg:(eqGuard .neq t x y (.bool a) (.bool b)).run P w= .ok () w:=by simp [eqGuard]
  simp only [execOp,hc.eval hx,hc.eval hy,Sem.run_bind,hg,Result.andThen_ok,hb,Sem.run_pure]) h
theorem run_cut_lo {P : Program} (w : World) {t e size bytes k c : Nat} {A : Option Addr} (hT : slB P t e size bytes = true) (lo : Nat) (kl : IntKind) (h1 : lo ≤ k) :
  (Instr.sliceAt t (.slice A k c) (some (.int kl (lo:Int))) none none).run P w= .ok (.slice (if c=lo then A else A.map (·.add (lo*size))) (k-lo) (c-lo)) w:=by
 obtain ⟨i0,z,ht,hi0,_,hs,_,_,_,_⟩:=slB_out hT
 simp [Instr.sliceAt,run_underlying ht,Instr.slice,Instr.sliceBounds,Instr.sliceBound,asIntOf,sizeOf,typeInfo,hi0,hs,h1]
theorem run_cut_hi {P : Program} (w : World) {t e size bytes k c : Nat} {A : Option Addr} (hT : slB P t e size bytes = true) (hi : Nat) (kh : IntKind) (h2 : hi ≤ c) :
  (Instr.sliceAt t (.slice A k c) none (some (.int kh (hi:Int))) none).run P w= .ok (.slice A hi c) w:=by
 obtain ⟨i0,z,ht,hi0,_,hs,_,_,_,_⟩:=slB_out hT
 have e:Option.map (fun x:Addr=>x.add 0) A=A:=by cases A<;>simp [Addr.add]
 simp [Instr.sliceAt,run_underlying ht,Instr.slice,Instr.sliceBounds,Instr.sliceBound,asIntOf,sizeOf,typeInfo,hi0,h2,e]
theorem wl_from {α : Type} {r : Rep α} {S : Nat → Prop} {A : Option Addr} {c t e bytes : Nat} {l : List α} {x lo : Operand} {k : IntKind} {i : Int} (hd : d < n) (hT : slB P t e r.size bytes = true)
  (hx:ev L x=some (.slice A l.length c)) (hi:ev L lo=some (.int k i)) (g:GS r S w A c l) (j:Nat) (hj:i=(j:Int)) (hle:j≤l.length)
  (h: ∀A' c',GS r S w A' c' (l.drop j)→WL P n ops Q rest ((d, .slice A' (l.drop j).length c')::L) w):
  WL P n ops Q ({dst:=some d,op:= .slice t x (some lo) none none,type:=ty,pos:=pos,after:=af,guard:=none}::rest) L w:=by
 subst hj
 refine wl_run (w':=w) (v:= .slice (if c=j then A else A.map (·.add (j*r.size))) (l.length-j) (c-j)) hd (fun a ha=> ?_) ?_
 ·simp [execOp,ha.eval hx,ha.eval hi,run_cut_lo w hT j k hle]
 ·have := h _ _ (g.drop j hle)
  rwa [List.length_drop] at this
theorem wl_to {α : Type} {r : Rep α} {S : Nat → Prop} {A : Option Addr} {c t e bytes : Nat} {l : List α} {x up : Operand} {k : IntKind} {i : Int} (hd : d < n) (hT : slB P t e r.size bytes = true)
  (hx:ev L x=some (.slice A l.length c)) (hi:ev L up=some (.int k i)) (g:GS r S w A c l) (j:Nat) (hj:i=(j:Int)) (hle:j≤l.length)
  (h:GS r S w A c (l.take j)→WL P n ops Q rest ((d, .slice A (l.take j).length c)::L) w):
  WL P n ops Q ({dst:=some d,op:= .slice t x none (some up) none,type:=ty,pos:=pos,after:=af,guard:=none}::rest) L w:=by
 subst hj
 refine wl_run (w':=w) (v:= .slice A j c) hd (fun a ha=> ?_) ?_
 ·have := g.le
  have hr:=run_cut_hi (A:=A) (k:=l.length) (c:=c) w hT j k (by omega)
  simp [execOp,ha.eval hx,ha.eval hi,hr]
 ·have := h (g.take j)
  rwa [List.length_take,Nat.min_eq_left hle] at this
def partsOf : Nat → List Operand → List (Nat × Operand)
 |_, []=> []
 |k,x::t=>(k,x)::partsOf (k+1) t
theorem partsOf_map {a : Act} : ∀ (xs : List Operand) (k : Nat), (partsOf k xs).map (fun p => (p.1, a.eval p.2)) = ((xs.map a.eval).zipIdx k).map (fun p => (p.2, p.1))
 | [],_=>rfl
 |x::t,k=>by simp [partsOf,partsOf_map t (k+1),List.zipIdx_cons]
theorem foldl_put : ∀ (cs : List Value) (off : Nat) (pre post : List Value), pre.length = off → cs.length ≤ post.length →
  ((cs.zipIdx).foldl (fun (acc:Array Value) (p:Value×Nat)=>acc.setIfInBounds (off+p.2) p.1) (pre++post).toArray)=(pre++cs++post.drop cs.length).toArray:=by
 intro cs
 have key : ∀ (cs : List Value) (j off : Nat) (pre post : List Value), pre.length = off + j → cs.length ≤ post.length →
   ((cs.zipIdx j).foldl (fun (acc:Array Value) (p:Value×Nat)=>acc.setIfInBounds (off+p.2) p.1) (pre++post).toArray)=(pre++cs++post.drop cs.length).toArray:=by
  intro cs
  induction cs with
  |nil=>intro j off pre post _ _;simp
  | cons c t ih =>
   intro j off pre post hp hl
   obtain ⟨y,ys,rfl⟩: ∃y ys,post=y::ys:=by
    cases post with
    |nil=>simp at hl
    |cons y ys=>exact ⟨y,ys,rfl⟩
   rw [List.zipIdx_cons,List.foldl_cons]
   have e:(pre++y::ys).toArray.setIfInBounds (off+j) c=((pre++ [c])++ys).toArray:=by
    rw [List.setIfInBounds_toArray,←hp,List.set_append_right _ _ (Nat.le_refl _)]
    simp
   rw [e,ih (j+1) off (pre++ [c]) ys (by simp;omega) (by simpa using hl)]
   simp
 intro off pre post hp hl
 exact key cs 0 off pre post (by simpa using hp) hl
theorem fill_seq {size : Nat} : ∀ (vs : List Value) (k : Nat) (pre post : List Value), (∀ v ∈ vs, v.cells.size = size) → pre.length = k * size → post.length = vs.length * size →
  Instr.fill (fun i=>some (i*size,size)) (pre++post).toArray ((vs.zipIdx k).map (fun p=>(p.2,p.1)))=some (pre++(vs.map (fun v=>v.cells.toList)).flatten).toArray:=by
 intro vs
 induction vs with
 | nil =>
  intro k pre post _ _ hl
  have:post= []:=List.eq_nil_of_length_eq_zero (by simpa using hl)
  subst this
  simp [Instr.fill]
 | cons v t ih =>
  intro k pre post hs hp hl
  have hv:=hs v (by simp)
  have hl':post.length=size+t.length*size:=by rw [hl,List.length_cons,Nat.add_mul,Nat.one_mul,Nat.add_comm]
  rw [List.zipIdx_cons,List.map_cons]
  simp only [Instr.fill]
  have h1 : ¬ ((decide (v.cells.size ≠ size) || decide (k * size + v.cells.size > (pre ++ post).toArray.size)) = true) := by
   simp [hv,hp,hl']
  simp only [hv,ne_eq,not_true_eq_false,decide_false,Bool.false_or,decide_eq_true_eq,List.size_toArray,List.length_append,hp,hl'] at h1⊢
  rw [if_neg (by omega)]
  have h2:=foldl_put v.cells.toList (k*size) pre post hp (by simp [hv,hl'])
  have h3 : v.cells.zipIdx.foldl (fun cs x => cs.setIfInBounds (k * size + x.2) x.1) (pre ++ post).toArray = (pre ++ v.cells.toList ++ post.drop size).toArray := by
   rw [←Array.foldl_toList,Array.toList_zipIdx]
   have:v.cells.toList.length=size:=by simpa using hv
   rw [this] at h2
   exact h2
  have h4:(v.cells.zipIdx.foldl (fun cs (c,j)=>cs.setIfInBounds (k*size+j) c) (pre++post).toArray)=(pre++v.cells.toList++post.drop size).toArray:=h3
  rw [h4,ih (k+1) (pre++v.cells.toList) (post.drop size) (fun u hu=>hs u (by simp [hu])) (by simp [hp,hv,Nat.add_mul]) (by simp [hl'])]
  simp
theorem run_buildSlice {P : Program} (w : World) {t e size bytes : Nat} (hT : slB P t e size bytes = true) (vs : List Value) (hs : ∀ v ∈ vs, v.cells.size = size) (hm : vs.length * size ≤ 16777216) :
  (Instr.buildSlice t vs.length ((vs.zipIdx.map (fun p => (p.2, p.1))).toArray)).run P w =
   .ok (.slice (some ⟨w.heap.size,0,none⟩) vs.length vs.length) (w.alloc (.cells (vs.map (fun v=>v.cells.toList)).flatten.toArray e)):=by
 obtain ⟨i0,z,ht,hi0,hz,hsz,_,hzs,_,_⟩:=slB_out hT
 have hm': ¬16777216<vs.length*size:=by omega
 by_cases h0:vs.length*size=0
 ·have hf := fill_seq (size := size) vs 0 [] [] hs (by simp) (by simpa using h0.symm)
  simp only [List.append_nil,List.nil_append] at hf
  have hr0:Array.range 0= #[]:=rfl
  simp [Instr.buildSlice,run_underlying ht,sizeOf,typeInfo,hi0,hsz,h0,hf,newRow,hr0]
 ·have hf := fill_seq (size := size) vs 0 [] ((Array.range (vs.length * size)).map (fun x => z.cells[x % z.cells.size]!)).toList hs (by simp) (by simp)
  simp only [List.nil_append,Array.toArray_toList] at hf
  simp [Instr.buildSlice,run_underlying ht,sizeOf,typeInfo,hi0,hsz,h0,hm',zeroValue,hz,newRow]
  rw [hf]
  simp
theorem wl_bslice {t e size bytes : Nat} {xs : List Operand} {vs : List Value} {k : Nat} {ps : Array (Nat × Operand)} (hd : d < n) (hT : slB P t e size bytes = true) (hp : ps = (partsOf 0 xs).toArray) (hv : evs L xs = some vs) (hk : k = vs.length)
  (hs: ∀v∈vs,v.cells.size=size) (hm:vs.length*size≤16777216) (lo:Nat) (hlo:lo≤w.heap.size)
  (h: ∀g w',g=w.heap.size→OwnRow e size lo w' (some ⟨g,0,none⟩) k k (vs.map (fun v=>v.cells.toList)).flatten→Ext w w'→WL P n ops Q rest ((d, .slice (some ⟨g,0,none⟩) k k)::L) w'):
  WL P n ops Q ({dst:=some d,op:= .buildSlice t k ps,type:=ty,pos:=pos,after:=af,guard:=none}::rest) L w:=by
 subst hp
 subst hk
 obtain ⟨_,_,_,_,_,_,_,_,hpos,_⟩:=slB_out hT
 refine wl_run (w':=w.alloc (.cells (vs.map (fun v=>v.cells.toList)).flatten.toArray e)) hd (fun a ha=> ?_) (h w.heap.size _ rfl ⟨?_,Nat.le_refl _, ?_, .inr ⟨_,_,rfl,hlo,heap_alloc_new w _, ?_, ?_⟩⟩ (Ext.alloc w _))
 ·have hm' := evs_map ha hv
  have e : ((partsOf 0 xs).toArray.map fun p => (p.1, a.eval p.2)) = (vs.zipIdx.map (fun p => (p.2, p.1))).toArray := by
   rw [List.map_toArray,partsOf_map,hm']
  have hr:=run_buildSlice (P:=P) w hT vs hs hm
  simp only [execOp]
  have e2:(Array.map (fun x=>match x with|(i,x)=>(i,a.eval x)) (partsOf 0 xs).toArray)=(vs.zipIdx.map (fun p=>(p.2,p.1))).toArray:=e
  rw [e2]
  simp [hr]
 ·rw [flat_len _ size (fun x hx => by obtain ⟨v, hv, rfl⟩ := List.mem_map.1 hx; simpa using hs v hv)]
  simp
 ·have := Nat.le_mul_of_pos_right vs.length hpos
  omega
 ·simp only [List.size_toArray]
  rw [flat_len _ size (fun x hx=>by obtain ⟨v,hv,rfl⟩:=List.mem_map.1 hx;simpa using hs v hv)]
  simp
 ·simp only []
  refine List.take_of_length_le ?_
  rw [flat_len _ size (fun x hx=>by obtain ⟨v,hv,rfl⟩:=List.mem_map.1 hx;simpa using hs v hv)]
  simp
theorem flat_cells1: ∀(vs:List Value),(∀v∈vs,v.oneCell'=true)→(vs.map (fun v=>v.cells.toList)).flatten=vs:=by
 intro vs
 induction vs with
 |nil=>intro _;rfl
 | cons v t ih =>
  intro h
  have h1:v.cells.toList= [v]:=by
   have:=h v (by simp)
   cases v<;>simp_all [Value.cells,Value.oneCell']
  rw [List.map_cons,List.flatten_cons,h1,ih (fun u hu=>h u (by simp [hu]))]
  rfl
theorem wl_bsliceB {t e : Nat} {xs : List Operand} {bs : List UInt8} {k : Nat} {ps : Array (Nat × Operand)} (hd : d < n) (hT : slB P t e 1 1 = true) (hp : ps = (partsOf 0 xs).toArray) (hv : evs L xs = some (bs.map bv)) (hk : k = bs.length)
  (hm:bs.length≤16777216) (lo:Nat) (hlo:lo≤w.heap.size)
  (h: ∀g w',g=w.heap.size→OwnB e lo w' (some ⟨g,0,none⟩) k bs→Ext w w'→WL P n ops Q rest ((d, .slice (some ⟨g,0,none⟩) k k)::L) w'):
  WL P n ops Q ({dst:=some d,op:= .buildSlice t k ps,type:=ty,pos:=pos,after:=af,guard:=none}::rest) L w:=by
 refine wl_bslice (vs:=bs.map bv) hd hT hp hv (by simp [hk]) ?_ (by simpa using hm) lo hlo ?_
 ·intro v hv
  obtain ⟨b,_,rfl⟩:=List.mem_map.1 hv
  rfl
 ·intro g w' hg ho hE
  rw [flat_cells1 _ (by intro v hv;obtain ⟨b,_,rfl⟩:=List.mem_map.1 hv;rfl)] at ho
  refine h g w' hg ?_ hE
  subst hk
  exact ho
structure SP where
 p:Value→World→Prop
 st: ∀v w w',Ext w w'→p v w→p v w'
def SP.eq (e:Value):SP:=⟨fun v _=>v=e,fun _ _ _ _ h=>h⟩
def SP.any:SP:=⟨fun _ _=>True,fun _ _ _ _ h=>h⟩
def SP.ptr (S : Nat → Prop) (cs : List Value) : SP := ⟨fun v w => ∃ a : Addr, v = .pointer (some a) ∧ a.block < w.heap.size ∧ S a.block ∧ At w a cs, by
 rintro _ w w' ch ⟨a,rfl,hb,hs,h⟩
 exact ⟨a,rfl,Nat.lt_of_lt_of_le hb ch.size,hs,h.keep ch (fun _ x=>x)⟩⟩
def SP.gs {α : Type} (r : Rep α) (S : Nat → Prop) (l : List α) : SP := ⟨fun v w => ∃ A c, v = .slice A l.length c ∧ GS r S w A c l, by
 rintro _ w w' ch ⟨A,c,rfl,h⟩
 exact ⟨A,c,rfl,h.ext ch⟩⟩
def SP.own (e size lo n : Nat) (xs : List Value) : SP := ⟨fun v w => ∃ A c, v = .slice A n c ∧ OwnRow e size lo w A n c xs, by
 rintro _ w w' ch ⟨A,c,rfl,h⟩
 exact ⟨A,c,rfl,h.ext ch⟩⟩
def AllOps (p : Nat → Oper → Prop) : Nat → List Oper → Prop
 |_, []=>True
 |k,o::t=>p k o∧AllOps p (k+1) t
theorem AllOps.at_ {p:Nat→Oper→Prop}: ∀{l:List Oper} {k:Nat},AllOps p k l→∀i o,l[i]? =some o→p (k+i) o:=by
 intro l
 induction l with
 |nil=>intro k _ i o h;simp at h
 | cons x t ih =>
  intro k h i o ho
  cases i with
  |zero=>simp only [List.getElem?_cons_zero,Option.some.injEq] at ho;subst ho;exact h.1
  | succ i =>
   have:=ih h.2 i o (by simpa using ho)
   rwa [show k+(i+1)=k+1+i by omega]
def spAt (Φ:List SP) (i:Nat):SP:=Φ[i]?.getD SP.any
theorem wc_drawL {id : Nat} {l : List Oper} (Φ : List SP) (hm : P.follows .mixedOrders = true)
  (hB:(fwd l.toArray&&oneEach l.toArray)=true)
  (H:AllOps (fun i o=> ∀F w',Ext w w'→Kn l.toArray L (fun i=>(spAt Φ i).p) i F w'→WL P n l.toArray (QR n F (dstOf l.toArray i) fun v w''=>Ext w' w''∧(spAt Φ i).p v w'') [o] F w') 0 l)
  (hQ: ∀F w',Ext w w'→(∀x v,lk L x=some v→unwritten l.toArray x=true→lk F x=some v)→(∀j d,dstOf l.toArray j=some d→∃v,lk F d=some v∧(spAt Φ j).p v w')→WK n (Q .normal) F w'):
  WK n ((Code.region id l.toArray true).wp P Q) L w:=
 wc_draw (fun i=>(spAt Φ i).p) hm hB (fun i v w w' ch h=>(spAt Φ i).st v w w' ch h) (fun i o ho=>by have:=H.at_ i o ho;rwa [Nat.zero_add] at this) hQ
end
end Go.Eng
namespace Go.Eng
theorem bool_f {p:Prop} [Decidable p] (h: ¬p):Value.bool false=Value.bool (decide p):=by simp [h]
theorem bool_t {p:Prop} [Decidable p] (h:p):Value.bool true=Value.bool (decide p):=by simp [h]
theorem Chg.off {M:Nat→Prop} {w w':World} (h:Chg M w w') (hn: ∀b,b<w.heap.size→¬M b):Ext w w':=h.weak (fun b hb x=>hn b hb x)
theorem Ext.own {w0 w w':World} {c lo:Nat} {A:Option Addr} (h:Ext w0 w) (k:Chg (fun b=>c≠0∧lo≤b∧blk A b) w w') (hlo:w0.heap.size≤lo):Ext w0 w':=
 h.step k (fun b hb x=>by have:=x.2.1;omega)
end Go.Eng
namespace Go.Eng
open Go.RowKit
def SlicesOf {α : Type} (r : Rep α) (S : Nat → Prop) (w : World) : List Value → List (List α) → Prop
 | [], []=>True
 |v::vs,l::ls=>(∃A c,v= .slice A l.length c∧GS r S w A c l)∧SlicesOf r S w vs ls
 |_,_=>False
theorem SlicesOf.nil {α:Type} {r:Rep α} {S:Nat→Prop} {w:World}:SlicesOf r S w [] []:=trivial
theorem SlicesOf.cons {α:Type} {r:Rep α} {S:Nat→Prop} {w:World} {A:Option Addr} {c:Nat} {l:List α} {vs:List Value} {ls:List (List α)} (h:GS r S w A c l) (t:SlicesOf r S w vs ls):SlicesOf r S w (.slice A l.length c::vs) (l::ls):=
 ⟨⟨A,c,rfl,h⟩,t⟩
theorem SlicesOf.len {α : Type} {r : Rep α} {S : Nat → Prop} {w : World} : ∀ {vs : List Value} {ls : List (List α)}, SlicesOf r S w vs ls → vs.length = ls.length ∧ (∀ v ∈ vs, v.oneCell' = true)
 | [], [],_=>⟨rfl,by simp⟩
 | v :: vs, l :: ls, h => by
  obtain ⟨⟨A,c,rfl,_⟩,h2⟩:=h
  obtain ⟨h3,h4⟩:=SlicesOf.len h2
  refine ⟨by simp [h3],fun u hu=> ?_⟩
  rcases List.mem_cons.1 hu with rfl|hu
  ·rfl
  ·exact h4 u hu
 | [],_::_,h=>h.elim
 |_::_, [],h=>h.elim
theorem SlicesOf.at_ {α : Type} {r : Rep α} {S : Nat → Prop} {w : World} : ∀ {vs : List Value} {ls : List (List α)}, SlicesOf r S w vs ls → ∀ i (h : i < ls.length), ∃ v, vs[i]? = some v ∧ (sliceR r).rd S w [v] ls[i]
 | v :: vs, l :: ls, h, i, hi => by
  obtain ⟨⟨A,c,rfl,hg⟩,h2⟩:=h
  cases i with
  |zero=>exact ⟨_,rfl,A,c,rfl,hg⟩
  |succ i=>simpa using SlicesOf.at_ h2 i (by simpa using hi)
 | [], [],_,i,hi=>by simp at hi
 | [],_::_,h,_,_=>h.elim
 |_::_, [],h,_,_=>h.elim
section
variable {P:Program} {n:Nat} {L:List (Nat×Value)} {w:World} {Q:Exit→Act→World→Prop} {ops:Array Oper} {rest:List Oper} {ty:TypeId} {pos:String} {af:Array Edge} {d:Nat}
theorem wl_bsliceS {α : Type} {r : Rep α} {t e bytes : Nat} {xs : List Operand} {vs : List Value} {ls : List (List α)} {k : Nat} {ps : Array (Nat × Operand)} (hd : d < n) (hT : slB P t e 1 bytes = true) (hp : ps = (partsOf 0 xs).toArray) (hv : evs L xs = some vs)
  (hk:k=ls.length) (hm:k≤16777216) (hls:SlicesOf r (fun _=>True) w vs ls)
  (h: ∀g w',GS (sliceR r) (fun _=>True) w' (some ⟨g,0,none⟩) k ls→Ext w w'→WL P n ops Q rest ((d, .slice (some ⟨g,0,none⟩) ls.length k)::L) w'):
  WL P n ops Q ({dst:=some d,op:= .buildSlice t k ps,type:=ty,pos:=pos,after:=af,guard:=none}::rest) L w:=by
 obtain ⟨h1,h2⟩:=hls.len
 have h0: ∀v∈vs,v.cells.size=1:=fun v hv=>by have:=h2 v hv;cases v<;>simp_all [Value.cells,Value.oneCell']
 subst hk
 refine wl_bslice (vs:=vs) hd hT hp hv h1.symm h0 (by omega) w.heap.size (Nat.le_refl _) ?_
 intro g w' hg ho hE
 rw [flat_cells1 vs h2] at ho
 have hr : GS (sliceR r) (fun _ => True) w' (some ⟨g, 0, none⟩) ls.length ls := by
  by_cases hz:ls.length=0
  ·have := List.eq_nil_of_length_eq_zero hz
   subst this
   exact GS.nil _ _ _ _ _
  ·refine GS.of_rows (vs.map fun v => [v]) ?_ (ho.lt0 hz) trivial (Nat.le_refl _) ho.mx (fun i hi => ?_)
   ·have e : (vs.map fun v => [v]).flatten = vs := (flat_ones (fun v : Value => v) vs).trans (List.map_id' vs)
    rw [e]
    exact ho.at0
   ·obtain ⟨v, hv1, hv2⟩ := hls.at_ i hi
    exact ⟨[v],by simp [hv1],(sliceR r).keep hE (fun _ _ _ x=>x) hv2⟩
 exact h g w' hr hE
end
end Go.Eng
namespace Go.Eng
open Go.RowKit
theorem range_rep (s : Nat) (f : Nat → Value) : ∀ n : Nat, (List.range (n * s)).map (fun i => f (i % s)) = (List.replicate n ((List.range s).map f)).flatten
 |0=>by simp
 | n + 1 => by
  rw [Nat.add_mul,Nat.one_mul,List.range_add,List.map_append,range_rep s f n,List.replicate_succ',List.flatten_append]
  congr 1
  rw [List.map_map]
  simp only [List.flatten_cons,List.flatten_nil,List.append_nil]
  apply List.map_congr_left
  intro j hj
  have hj':=List.mem_range.1 hj
  simp only [Function.comp]
  rw [Nat.add_comm,Nat.add_mul_mod_self_right,Nat.mod_eq_of_lt hj']
theorem made_rep (z:Array Value) (n:Nat):(madeCells z (n*z.size)).toList=(List.replicate n z.toList).flatten:=by
 unfold madeCells
 rw [Array.toList_map,Array.toList_range,range_rep z.size (fun i=>z[i]!) n]
 congr 2
 apply List.ext_getElem (by simp)
 intro i h1 h2
 simp only [List.getElem_map,List.getElem_range]
 have h3:i<z.size:=by simpa using h2
 rw [getElem!_pos z i h3]
 simp
section
variable {P:Program} {n:Nat} {L:List (Nat×Value)} {w:World} {Q:Exit→Act→World→Prop} {ops:Array Oper} {rest:List Oper} {ty:TypeId} {pos:String} {af:Array Edge} {d:Nat}
theorem wl_make {t e size bytes k : Nat} {z : Value} {x y : Operand} {kl kc : IntKind} (hd : d < n) (hT : slB P t e size bytes = true) (hz : (P.info? e).bind (·.zero) = some z) (hx : ev L x = some (.int kl (k : Int))) (hy : ev L y = some (.int kc (k : Int)))
  (hb:bytes*k≤140737488355328) (lo:Nat) (hlo:lo≤w.heap.size)
  (h: ∀g w',g=w.heap.size→OwnRow e size lo w' (some ⟨g,0,none⟩) k k (List.replicate k z.cells.toList).flatten→Ext w w'→WL P n ops Q rest ((d, .slice (some ⟨g,0,none⟩) k k)::L) w'):
  WL P n ops Q ({dst:=some d,op:= .makeSlice t x y,type:=ty,pos:=pos,after:=af,guard:=none}::rest) L w:=by
 obtain ⟨i,z',ht,hi,hz',hs,hby,hzs,hs0,hb0⟩:=slB_out hT
 have e1:z'=z:=by rw [hi] at hz;simp only [Option.bind_some,hz'] at hz;exact Option.some.inj hz
 subst e1
 subst hs
 subst hby
 have hmx:k≤140737488355328:=Nat.le_trans (Nat.le_mul_of_pos_left _ hb0) hb
 have hb':(i.bytes:Int)*(k:Int)≤281474976710656:=by
  have h:((i.bytes*k:Nat):Int)≤281474976710656:=by omega
  rwa [Int.natCast_mul] at h
 have hr:=run_make (P:=P) w t e i z' ht hi hz' kl kc (k:Int) (k:Int) (by omega) (Int.le_refl _) hb' (by omega)
 simp only [Int.toNat_natCast] at hr
 refine wl_run (w':=w.alloc (.cells (madeCells z'.cells (k*i.size)) e)) hd (fun a ha=>by simp [execOp,ha.eval hx,ha.eval hy,hr]) (h w.heap.size _ rfl ⟨?_,Nat.le_refl _,hmx, .inr ⟨_,_,rfl,hlo,heap_alloc_new w _, ?_, ?_⟩⟩ (Ext.alloc w _))
 ·rw [flat_len _ i.size (fun x hx=>by rw [(List.mem_replicate.1 hx).2];simpa using hzs),List.length_replicate]
 ·rw [size_madeCells]
 ·rw [← hzs, made_rep]
  refine List.take_of_length_le ?_
  rw [flat_len _ z'.cells.size (fun x hx=>by rw [(List.mem_replicate.1 hx).2];simp),List.length_replicate]
  exact Nat.le_refl _
end
end Go.Eng
namespace Go.Eng
theorem OwnRow.zeros {e lo k c:Nat} {w:World} {A:Option Addr} (h:OwnRow e 1 lo w A k c (List.replicate k (Value.int .u8 0).cells.toList).flatten):OwnB e lo w A c (List.replicate k 0):=by
 have e1:(List.replicate k (Value.int .u8 0).cells.toList).flatten=(List.replicate k (0:UInt8)).map bv:=by
  rw [List.map_replicate]
  show (List.replicate k [Value.int .u8 0]).flatten=_
  clear h
  induction k with
  |zero=>rfl
  |succ k ih=>rw [List.replicate_succ,List.flatten_cons,ih,List.replicate_succ];rfl
 rw [e1] at h
 show OwnRow e 1 lo w A (List.replicate k (0:UInt8)).length c _
 rw [List.length_replicate]
 exact h
end Go.Eng
namespace Go.Eng
open Go.RowKit
def Blk (w:World) (g:Nat) (e:TypeId) (cs:List Value):Prop:=w.heap[g]? =some (.cells cs.toArray e (0,0))
section
variable {w w':World} {M:Nat→Prop} {g o:Nat} {e:TypeId} {cs:List Value}
theorem Blk.lt (h:Blk w g e cs):g<w.heap.size:=(Array.getElem?_eq_some_iff.1 h).1
theorem Blk.keep (ch:Chg M w w') (hm: ¬M g) (h:Blk w g e cs):Blk w' g e cs:=(ch.block g h.lt hm).trans h
theorem Blk.ext (h:Blk w g e cs) (ch:Ext w w'):Blk w' g e cs:=h.keep ch (fun x=>x)
theorem Blk.cell (h:Blk w g e cs) {v:Value} (hv:cs[o]? =some v):w.cell? ⟨g,o,none⟩=some v:=by
 unfold Blk at h
 simp [World.cell?,h,hv]
theorem Blk.at_ (h:Blk w g e cs) (o:Nat):At w ⟨g,o,none⟩ (cs.drop o):=fun j v hv=>by
 rw [add_lit']
 refine h.cell ?_
 rw [List.getElem?_drop] at hv
 exact hv
theorem Blk.at0 (h:Blk w g e cs):At w ⟨g,0,none⟩ cs:=h.at_ 0
theorem Blk.fresh (w:World) (e:TypeId) (cs:List Value):Blk (w.alloc (.cells cs.toArray e)) w.heap.size e cs:=heap_alloc_new w _
theorem Blk.set (h:Blk w g e cs) (cs':List Value):Blk (w.setRow g cs'.toArray) g e cs':=setRow_heap w g _ _ _ _ h
theorem Chg.setRow (w:World) (g:Nat) (cs:Array Value):Chg (fun b=>b=g) w (w.setRow g cs):=
 ⟨rfl,rfl,rfl,by simp [World.setRow],fun k _ hk=>setRow_other w g k cs hk⟩
end
section
variable {P:Program} {n:Nat} {L:List (Nat×Value)} {w w':World} {Q:Exit→Act→World→Prop} {ops:Array Oper} {rest:List Oper} {ty:TypeId} {pos:String} {af:Array Edge} {d:Nat}
theorem fldB_out {s f off:Nat} (h:fldB P s f off=true): ∃fs fd i,P.underlying s=some (.struct fs)∧fs[f]? =some fd∧fd.offset=off∧P.info? fd.type=some i∧i.size≠0:=by
 unfold fldB at h
 split at h
 ·rename_i fs hu
  split at h
  ·rename_i fd hf
   simp only [Bool.and_eq_true,beq_iff_eq] at h
   obtain ⟨h1,h2⟩:=h
   split at h2
   ·rename_i i hi
    exact ⟨fs,fd,i,hu,hf,h1,hi,by simpa using h2⟩
   ·cases h2
  ·cases h
 ·cases h
theorem wl_fld {s f off : Nat} {x : Operand} {p : Addr} (hd : d < n) (hF : fldB P s f off = true) (hx : ev L x = some (.pointer (some p))) (h : WL P n ops Q rest ((d, .pointer (some (p.add off))) :: L) w) :
  WL P n ops Q ({dst:=some d,op:= .fieldAddr s x f,type:=ty,pos:=pos,after:=af,guard:=none}::rest) L w:=by
 obtain ⟨fs,fd,i,hu,hf,rfl,hi,h0⟩:=fldB_out hF
 exact wl_run hd (fun a ha=>by simp [execOp,ha.eval hx,Instr.fieldAt,run_underlying hu,hf,Instr.sureAddr,fieldPlace,sizeOf,typeInfo,hi,h0]) h
theorem wl_fld' {s f off g o o' : Nat} {x : Operand} (hd : d < n) (hF : fldB P s f off = true) (hx : ev L x = some (.pointer (some ⟨g, o, none⟩))) (ho : o + off = o') (h : WL P n ops Q rest ((d, .pointer (some ⟨g, o', none⟩)) :: L) w) :
  WL P n ops Q ({dst:=some d,op:= .fieldAddr s x f,type:=ty,pos:=pos,after:=af,guard:=none}::rest) L w:=
 wl_fld hd hF hx (by rw [add_lit',ho];exact h)
theorem wl_box {e : TypeId} {x : Operand} {v : Value} (hd : d < n) (hx : ev L x = some v)
  (h: ∀g w',g=w.heap.size→Blk w' g e v.cells.toList→Ext w w'→WL P n ops Q rest ((d, .pointer (some ⟨g,0,none⟩))::L) w'):
  WL P n ops Q ({dst:=some d,op:= .box e x,type:=ty,pos:=pos,after:=af,guard:=none}::rest) L w:=by
 refine wl_run hd (fun a ha=> ?_) (h w.heap.size (w.alloc (.cells v.cells e)) rfl ?_ (Ext.alloc _ _))
 ·simp [execOp,ha.eval hx,Instr.box,newVar,newRow,newObj,Sem.run]
 ·have := Blk.fresh w e v.cells.toList
  rwa [Array.toArray_toList] at this
theorem wl_alloc {e : TypeId} {z : Value} (hd : d < n) (hz : (P.info? e).bind (·.zero) = some z)
  (h: ∀g w',g=w.heap.size→Blk w' g e z.cells.toList→Ext w w'→WL P n ops Q rest ((d, .pointer (some ⟨g,0,none⟩))::L) w'):
  WL P n ops Q ({dst:=some d,op:= .alloc e,type:=ty,pos:=pos,after:=af,guard:=none}::rest) L w:=by
 refine wl_run hd (fun a ha=> ?_) (h w.heap.size (w.alloc (.cells z.cells e)) rfl ?_ (Ext.alloc _ _))
 ·cases hi : P.info? e with
  |none=>rw [hi] at hz;cases hz
  | some i =>
   rw [hi] at hz
   simp only [Option.bind_some] at hz
   simp [execOp,Instr.alloc,zeroValue,typeInfo,hi,hz,newVar,newRow,newObj,Sem.run]
 ·have := Blk.fresh w e z.cells.toList
  rwa [Array.toArray_toList] at this
theorem wl_loadB {t e g o : Nat} {cs : List Value} {x : Operand} {v : Value} (hd : d < n) (hs : scB P t = true) (hx : ev L x = some (.pointer (some ⟨g, o, none⟩))) (hb : Blk w g e cs) (hv : cs[o]? = some v)
  (h:WL P n ops Q rest ((d,v)::L) w):
  WL P n ops Q ({dst:=some d,op:= .load t x,type:=ty,pos:=pos,after:=af,guard:=none}::rest) L w:=wl_load hd hs hx (hb.cell hv) h
theorem wl_loadBA {t e g k : Nat} {cs : List Value} {x : Operand} (hd : d < n) (hs : agB P t k = true) (hx : ev L x = some (.pointer (some ⟨g, 0, none⟩))) (hb : Blk w g e cs) (hl : cs.length = k)
  (h:WL P n ops Q rest ((d, .agg cs.toArray)::L) w):
  WL P n ops Q ({dst:=some d,op:= .load t x,type:=ty,pos:=pos,after:=af,guard:=none}::rest) L w:=wl_loadA hd hs hx hb.at0 hl h
def putL (cs:List Value) (o:Nat) (vs:List Value):List Value:=cs.take o++vs++cs.drop (o+vs.length)
theorem run_storeAt {t : TypeId} {g o : Nat} {e : TypeId} {cur : Array Value} {v : Value} (hs : szB P t v.cells.size = true) (hb : w.heap[g]? = some (.cells cur e (0, 0))) (hl : o + v.cells.size ≤ cur.size)
  (h1: ∀u∈v.cells.toList,u.oneCell'=true):
  (Instr.storeAt t (.pointer (some ⟨g,o,none⟩)) v).run P w= .ok () (w.setRow g (putL cur.toList o v.cells.toList).toArray):=by
 have hsz:(sizeOf t).run P w= .ok v.cells.size w:=by
  unfold szB at hs
  rw [beq_iff_eq] at hs
  cases hi:P.info? t with
  |none=>rw [hi] at hs;cases hs
  |some i=>rw [hi] at hs;simp at hs;simp [sizeOf,typeInfo,hi,hs]
 have hst:=run_storeCells_at (P:=P) g o e v.cells.toList 0 cur w hb (by simpa using hl) h1
 simp only [Nat.add_zero] at hst
 simp only [Instr.storeAt,Instr.sureAddr,storeVar,Sem.run_bind,Sem.run_pure,Result.andThen_ok,hsz]
 simp only [ne_eq,not_true,if_false]
 exact hst
theorem wl_storeB {t e g o : Nat} {cs : List Value} {x y : Operand} {v : Value} (hs : szB P t v.cells.size = true) (hx : ev L x = some (.pointer (some ⟨g, o, none⟩))) (hy : ev L y = some v) (hb : Blk w g e cs)
  (hl:o+v.cells.size≤cs.length) (h1: ∀u∈v.cells.toList,u.oneCell'=true)
  (h: ∀w',Blk w' g e (putL cs o v.cells.toList)→Chg (fun b=>b=g) w w'→WL P n ops Q rest L w'):
  WL P n ops Q ({dst:=none,op:= .store t x y,type:=ty,pos:=pos,after:=af,guard:=none}::rest) L w:=by
 have hr:=run_storeAt (P:=P) (w:=w) (t:=t) (v:=v) hs hb (by simpa using hl) h1
 refine wl_eff (fun a ha=> ?_) (h _ (hb.set _) (Chg.setRow w g _))
 simp only [execOp,ha.eval hx,ha.eval hy,Sem.run_bind,hr,Result.andThen_ok,Sem.run_pure]
theorem OwnRow.put {e size lo k c : Nat} {A : Option Addr} {xs : List Value} {g : Nat} (h : OwnRow e size lo w A k c xs) (hA : A = some ⟨g, 0, none⟩) (vs : List Value) (o : Nat) (ho : o + vs.length ≤ xs.length) (hn : vs ≠ []) :
  ∃cur,w.heap[g]? =some (.cells cur e (0,0))∧o+vs.length≤cur.size∧OwnRow e size lo (w.setRow g (putL cur.toList o vs).toArray) A k c (putL xs o vs):=by
 subst hA
 rcases h.row with ⟨_,h0⟩|⟨g',cur,hA,hb,hg,hsz,ht⟩
 ·have := h.len
  subst h0
  have:=List.length_pos_iff.2 hn
  omega
 ·obtain rfl : g' = g := by injection hA with hA; injection hA with hA _; exact hA.symm
  have hkc:k*size≤c*size:=Nat.mul_le_mul_right _ h.le
  have hxl:=h.len
  have hcl:o+vs.length≤cur.size:=by omega
  refine ⟨cur,hg,hcl,⟨?_,h.le,h.mx, .inr ⟨g',_,rfl,hb,setRow_heap w g' cur _ e _ hg, ?_, ?_⟩⟩⟩
  ·simp only [putL,List.length_append,List.length_take,List.length_drop];omega
  ·simp only [putL,List.size_toArray,List.length_append,List.length_take,List.length_drop,Array.length_toList];omega
  ·rw [← ht, putL, putL]
   have hlt:cur.toList.length=cur.size:=Array.length_toList
   apply List.ext_getElem?
   intro i
   simp only [List.getElem?_take,List.getElem?_append,List.length_append,List.length_take,List.getElem?_drop,hlt]
   rw [show min o cur.size=o by omega,show min o (min (k*size) cur.size)=o by omega]
   by_cases h1:i<o
   ·have : i < k * size := by omega
    simp [h1,this,show i<o+vs.length by omega]
   ·by_cases h2 : i < o + vs.length
    ·have : i < k * size := by omega
     simp [h1,h2,this]
    ·simp only [h1, h2, if_false]
     rw [show o+vs.length+(i-(o+vs.length))=i by omega]
def evp (L : List (Nat × Value)) : List (Nat × Operand) → Option (List (Nat × Value))
 | []=>some []
 | (i, x) :: t => match ev L x, evp L t with
  |some v,some vs=>some ((i,v)::vs)
  |_,_=>none
theorem evp_map {a:Act} (ha:Fr n a L): ∀{xs:List (Nat×Operand)} {vs:List (Nat×Value)},evp L xs=some vs→xs.map (fun p=>(p.1,a.eval p.2))=vs:=by
 intro xs
 induction xs with
 |nil=>intro vs h;simp [evp] at h;simp [h]
 | cons x t ih =>
  obtain ⟨i,x⟩:=x
  intro vs h
  simp only [evp] at h
  split at h
  ·rename_i v us hv hus
   simp only [Option.some.injEq] at h
   subst h
   simp [ha.eval hv,ih hus]
  ·cases h
theorem wl_build {t : TypeId} {ps : List (Nat × Operand)} {vs : List (Nat × Value)} {cells : List Value} (hd : d < n) (hv : evp L ps = some vs) (hb : P.built t vs = some cells.toArray)
  (h:WL P n ops Q rest ((d, .agg cells.toArray)::L) w):
  WL P n ops Q ({dst:=some d,op:= .build t ps.toArray,type:=ty,pos:=pos,after:=af,guard:=none}::rest) L w:=by
 refine wl_run hd (fun a ha=> ?_) h
 have hm:=evp_map ha hv
 have hr:=run_build (P:=P) w t (ps.toArray.map fun p=>(p.1,a.eval p.2)) cells.toArray (by simp [hm,hb])
 simp only [execOp,Sem.run_bind]
 rw [hr]
 rfl
def fvB (P:Program) (s f off:Nat):Bool:=
 match P.underlying s with
 |some (.struct fs)=>(match fs[f]? with|some fd=>fd.offset==off&&scB P fd.type|none=>false)
 |_=>false
theorem run_notAgg {t:TypeId} (hs:scB P t=true) (w:World):(isAgg t).run P w= .ok false w:=by
 unfold scB at hs
 split at hs
 ·cases hs
 ·cases hs
 ·cases hs
 ·rename_i hu h1 h2 h3
  cases hd:P.underlying t with
  |none=>exact absurd hd h3
  | some dd =>
   unfold isAgg
   rw [Sem.run_bind,run_underlying hd]
   cases dd<;>simp_all
theorem wl_fieldV {s f off : Nat} {x : Operand} {cs : Array Value} {v : Value} (hd : d < n) (hF : fvB P s f off = true) (hx : ev L x = some (.agg cs)) (hv : cs[off]? = some v) (h : WL P n ops Q rest ((d, v) :: L) w) :
  WL P n ops Q ({dst:=some d,op:= .field s x f,type:=ty,pos:=pos,after:=af,guard:=none}::rest) L w:=by
 refine wl_run hd (fun a ha=> ?_) h
 unfold fvB at hF
 split at hF
 ·rename_i fs hu
  split at hF
  ·rename_i fd hf
   simp only [Bool.and_eq_true,beq_iff_eq] at hF
   obtain ⟨rfl,h2⟩:=hF
   simp [execOp,ha.eval hx,Instr.field,run_underlying hu,hf,asAgg,part,run_notAgg h2,hv]
  ·cases hF
 ·cases hF
theorem wl_makeFunc {f : Fn} {first cap : List Operand} {vs us : List Value} (hd : d < n) (hv : evs L first = some vs) (hu : evs L cap = some us) (h : WL P n ops Q rest ((d, .func f vs.toArray us.toArray) :: L) w) :
  WL P n ops Q ({dst:=some d,op:= .makeFunc f first.toArray cap.toArray,type:=ty,pos:=pos,after:=af,guard:=none}::rest) L w:=
 wl_run hd (fun a ha=>by simp [execOp,Instr.makeFunc,evs_map ha hv,evs_map ha hu]) h
theorem wl_nilCheck {x : Operand} {p : Addr} (hd : d < n) (hx : ev L x = some (.pointer (some p))) (h : WL P n ops Q rest ((d, .pointer (some p)) :: L) w) :
  WL P n ops Q ({dst:=some d,op:= .nilCheck x,type:=ty,pos:=pos,after:=af,guard:=none}::rest) L w:=
 wl_run hd (fun a ha=>by simp [execOp,ha.eval hx]) h
theorem wl_iface {t : TypeId} {x : Operand} {v : Value} (hd : d < n) (ht : P.concrete t = true) (hx : ev L x = some v) (h : WL P n ops Q rest ((d, .iface t v) :: L) w) :
  WL P n ops Q ({dst:=some d,op:= .makeInterface t x,type:=ty,pos:=pos,after:=af,guard:=none}::rest) L w:=
 wl_run hd (fun a ha=>by simp [execOp,ha.eval hx,run_makeInterface w t v ht]) h
end
end Go.Eng
namespace Go.Eng
open Go.RowKit
def fillL (places : List (Nat × Nat)) : List Value → List (Nat × Value) → Option (List Value)
 |cs, []=>some cs
 | cs, (i, v) :: rest => match places[i]? with
  |none=>none
  |some (off,size)=>bif Nat.beq v.cells.toList.length size&&Nat.ble (off+v.cells.toList.length) cs.length then fillL places (putL cs off v.cells.toList) rest else none
theorem fill_list (places : List (Nat × Nat)) (pf : Nat → Option (Nat × Nat)) (hpf : ∀ i p, places[i]? = some p → pf i = some p) : ∀ (parts : List (Nat × Value)) (cs out : List Value), fillL places cs parts = some out → Instr.fill pf cs.toArray parts = some out.toArray
 | [],cs,out,h=>by simp [fillL] at h;simp [Instr.fill,h]
 | (i, v) :: rest, cs, out, h => by
  rw [fillL] at h
  rw [Instr.fill]
  cases hp:places[i]? with
  |none=>rw [hp] at h;cases h
  | some p =>
   obtain ⟨off,size⟩:=p
   rw [hp] at h
   simp only at h
   cases hb:Nat.beq v.cells.toList.length size&&Nat.ble (off+v.cells.toList.length) cs.length with
   |false=>rw [hb] at h;cases h
   | true =>
    rw [hb,cond_true] at h
    rw [Bool.and_eq_true] at hb
    have h1:v.cells.size=size:=by rw [←Array.length_toList];exact Nat.eq_of_beq_eq_true hb.1
    have h2:off+v.cells.size≤cs.length:=by rw [←Array.length_toList];exact Nat.le_of_ble_eq_true hb.2
    have ih:=fill_list places pf hpf rest _ out h
    simp only [hpf i _ hp]
    rw [if_neg (by
     intro h
     simp only [Bool.or_eq_true,decide_eq_true_eq,List.size_toArray] at h
     omega)]
    have e : v.cells.zipIdx.foldl (fun cs (x : Value × Nat) => cs.setIfInBounds (off + x.2) x.1) cs.toArray = (putL cs off v.cells.toList).toArray := by
     have:=foldl_put v.cells.toList off (cs.take off) (cs.drop off) (by rw [List.length_take];omega) (by rw [List.length_drop,Array.length_toList];omega)
     rw [List.take_append_drop] at this
     rw [←Array.foldl_toList,Array.toList_zipIdx]
     rw [this,putL,List.drop_drop]
    rw [e]
    exact ih
def bldB (P:Program) (t:TypeId) (places:List (Nat×Nat)) (zs:Array Value→Bool):Bool:=
 match P.info? t,P.underlying t with
 | some it, some (.struct fields) => (match it.zero, fields.toList.mapM (fun f => (P.info? f.type).map fun i => (f.offset, i.size)) with
  |some z,some pl=>pl==places&&zs z.cells
  |_,_=>false)
 | some it, some (.array n e) => (match it.zero, P.info? e with
  |some z,some ie=>(List.range n).map (fun i=>(i*ie.size,ie.size))==places&&zs z.cells
  |_,_=>false)
 |_,_=>false
def isCells : List Value → List Value → Bool
 | [], []=>true
 | .bool a::s, .bool b::t=>a==b&&isCells s t
 | .int k a::s, .int k' b::t=>k==k'&&a==b&&isCells s t
 | .slice none 0 0::s, .slice none 0 0::t=>isCells s t
 | .map none::s, .map none::t=>isCells s t
 | .pointer none::s, .pointer none::t=>isCells s t
 | .nilFunc::s, .nilFunc::t=>isCells s t
 | .nilIface::s, .nilIface::t=>isCells s t
 |_,_=>false
theorem isCells_eq: ∀{a b:List Value},isCells a b=true→a=b:=by
 intro a
 induction a with
 |nil=>intro b h;cases b<;>simp [isCells] at h⊢
 | cons x s ih =>
  intro b h
  cases b with
  |nil=>cases x<;>simp [isCells] at h
  | cons y t =>
   unfold isCells at h
   split at h<;>simp_all<;>first|exact ih h|exact ih h.2
theorem built_of {P:Program} {t:TypeId} {places:List (Nat×Nat)} {zl:List Value} {vs:List (Nat×Value)} {cells:List Value} (hB:bldB P t places (fun z=>isCells z.toList zl)=true) (hf:fillL places zl vs=some cells):P.built t vs=some cells.toArray:=by
 unfold bldB at hB
 split at hB
 ·rename_i it fields hi hu
  split at hB
  ·rename_i z pl hz hpl
   rw [Bool.and_eq_true,beq_iff_eq] at hB
   obtain ⟨rfl,h2⟩:=hB
   have e:=isCells_eq h2
   unfold Program.built
   rw [hi,hu]
   simp only [hz,hpl]
   have:=fill_list pl (fun i=>pl[i]?) (fun _ _ h=>h) vs _ _ hf
   rw [←e,Array.toArray_toList] at this
   simpa using this
  ·cases hB
 ·rename_i it m e hi hu
  split at hB
  ·rename_i z ie hz hie
   rw [Bool.and_eq_true,beq_iff_eq] at hB
   obtain ⟨rfl,h2⟩:=hB
   have e1:=isCells_eq h2
   unfold Program.built
   rw [hi,hu]
   simp only [hz,hie]
   have := fill_list _ (fun i => some (i * ie.size, ie.size)) (fun i p h => by
    rw [List.getElem?_map] at h
    cases hr:(List.range m)[i]? with
    |none=>rw [hr] at h;cases h
    | some j =>
     rw [hr] at h
     obtain ⟨_,rfl⟩:=List.getElem?_eq_some_iff.1 hr
     rw [List.getElem_range] at h
     exact h) vs _ _ hf
   rw [←e1,Array.toArray_toList] at this
   exact this
  ·cases hB
 ·cases hB
theorem wl_built {P : Program} {n : Nat} {L : List (Nat × Value)} {w : World} {Q : Exit → Act → World → Prop} {ops : Array Oper} {rest : List Oper} {ty : TypeId} {pos : String} {af : Array Edge} {d : Nat}
  {t:TypeId} {ps:List (Nat×Operand)} {places:List (Nat×Nat)} {zl:List Value} {vs:List (Nat×Value)} {cells:List Value} (hd:d<n) (hB:bldB P t places (fun z=>isCells z.toList zl)=true) (hv:evp L ps=some vs) (hf:fillL places zl vs=some cells)
  (h:WL P n ops Q rest ((d, .agg cells.toArray)::L) w):
  WL P n ops Q ({dst:=some d,op:= .build t ps.toArray,type:=ty,pos:=pos,after:=af,guard:=none}::rest) L w:=wl_build hd hv (built_of hB hf) h
end Go.Eng
namespace Go.Eng
open Go.RowKit
def ResOK (P : Program) (L : List (Nat × Value)) (w : World) : List ResultVar → List Value → Prop
 | [],vs=>vs= []
 | .tmp t::rs,vs=> ∃v us,vs=v::us∧lk L t=some v∧ResOK P L w rs us
 | .cell t ty::rs,vs=> ∃v us p,vs=v::us∧lk L t=some (.pointer (some p))∧(loadVar ty p).run P w= .ok v w∧ResOK P L w rs us
theorem loadVar_agg {P:Program} {w:World} {t k:Nat} {p:Addr} {cs:List Value} (hs:agB P t k=true) (hat:At w p cs) (hl:cs.length=k):(loadVar t p).run P w= .ok (.agg cs.toArray) w:=by
 subst hl
 have hl:=run_loadCells_list (P:=P) w p cs hat
 simp [loadVar,(run_isAgg hs w).1,(run_isAgg hs w).2,hl]
theorem run_resOK {P : Program} {n : Nat} {L : List (Nat × Value)} {w : World} {a : Act} (ha : Fr n a L) (f : ResultVar → Sem Value) (hf1 : ∀ t, f (.tmp t) = pure (a.tmps.getD t undef)) (hf2 : ∀ t ty, f (.cell t ty) = (do loadVar ty (← asAddr (a.tmps.getD t undef)))) :
  ∀(rs:List ResultVar) (vs:List Value),ResOK P L w rs vs→(rs.mapM f).run P w= .ok vs w
 | [],vs,h=>by subst h;simp
 | .tmp t :: rs, vs, h => by
  obtain ⟨v,us,rfl,h1,h2⟩:=h
  have ih:=run_resOK ha f hf1 hf2 rs us h2
  have e:a.tmps.getD t undef=v:=by rw [Array.getD_eq_getD_getElem?,ha.get t v h1];rfl
  simp [List.mapM_cons,hf1,e,ih]
 | .cell t ty :: rs, vs, h => by
  obtain ⟨v,us,p,rfl,h1,h2,h3⟩:=h
  have ih:=run_resOK ha f hf1 hf2 rs us h3
  have e:a.tmps.getD t undef= .pointer (some p):=by rw [Array.getD_eq_getD_getElem?,ha.get t _ h1];rfl
  simp [List.mapM_cons,hf2,e,asAddr,h2,ih]
def tupV : List Value → Value
 | [v]=>v
 |vs=> .tuple vs.toArray
theorem wk_postR {P : Program} {n : Nat} {L : List (Nat × Value)} {w : World} {fn : Func} {R : Ending → World → Prop} {e : Exit} {rs : List ResultVar} {vs : List Value} (he : e = .ret ∨ e = .normal) (hr : fn.results = rs.toArray) (hv : ResOK P L w rs vs)
  (h:R (.returned (tupV vs)) w):WK n (bodyPost P fn R e) L w:=by
 intro a ha
 have hm: ∀f:ResultVar→Sem Value,(∀t,f (.tmp t)=pure (a.tmps.getD t undef))→(∀t ty,f (.cell t ty)=(do loadVar ty (←asAddr (a.tmps.getD t undef))))→(rs.mapM f).run P w= .ok vs w:=fun f h1 h2=>run_resOK ha f h1 h2 rs vs hv
 have hrun:(results fn a.tmps).run P w= .ok (tupV vs) w:=by
  unfold results
  rw [hr,Array.mapM_eq_mapM_toList]
  simp only [Sem.run_bind,Sem.run_map]
  rw [hm _ (fun _=>rfl) (fun _ _=>rfl)]
  match vs with
  | []=>simp [tupV]
  | [v]=>simp [tupV]
  |v::u::t=>simp [tupV]
 rcases he with rfl|rfl<;>exact ⟨ha.defers,_,hrun,h⟩
end Go.Eng
namespace Go.Eng
open Go.RowKit Go.Maps
structure MapB (P:Program) (k:TypeId) (w:World) (m:Nat) (f:Value→Option Value):Prop where
 ex : ∃ es clock, w.heap[m]? = some (.map es clock) ∧ (∀ x ∈ es.toList, ∃ l, keyOf P k x.key = some l) ∧ (∀ x ∈ es.toList, x.born < clock) ∧
  es.toList.Pairwise (fun x y=>x.born≠y.born)∧es.toList.Pairwise (fun x y=>x.key≠y.key)∧(∀x∈es.toList,f x.key=some x.val)∧(∀v u,f v=some u→∃x∈es.toList,x.key=v∧x.val=u)
section
variable {P:Program} {k e:TypeId} {w w':World} {m:Nat} {f:Value→Option Value} {M:Nat→Prop}
theorem MapB.lt (h:MapB P k w m f):m<w.heap.size:=by
 obtain ⟨es,c,hb,_⟩:=h.ex
 exact (Array.getElem?_eq_some_iff.1 hb).1
theorem MapB.keep (ch:Chg M w w') (hm: ¬M m) (h:MapB P k w m f):MapB P k w' m f:=by
 have hl:=h.lt
 obtain ⟨es,c,hb,r⟩:=h.ex
 exact ⟨es,c,(ch.block m hl hm).trans hb,r⟩
theorem MapB.ext (h:MapB P k w m f) (ch:Ext w w'):MapB P k w' m f:=h.keep ch (fun x=>x)
theorem Chg.setObj (w:World) (m:Nat) (o:Obj):Chg (fun b=>b=m) w {w with heap:=w.heap.setIfInBounds m o}:=
 ⟨rfl,rfl,rfl,by simp,fun k _ hk=>by simp [Ne.symm hk]⟩
theorem MapB.find (K : Keyed P k) (h : MapB P k w m f) {key : Value} {l : Lit} (hk : keyOf P k key = some l) {es : Array MapEntry} {c : Nat} (hb : w.heap[m]? = some (.map es c)) :
  (f key = none ∧ (Instr.findKey k key es.toList).run P w = .ok none w ∧ ∀ x ∈ es.toList, x.key ≠ key) ∨
   ∃j x,(Instr.findKey k key es.toList).run P w= .ok (some (j,x.val)) w∧es.toList[j]? =some x∧x.key=key∧f key=some x.val:=by
 obtain ⟨es',c',hb',h1,h2,h3,h4,h5,h6⟩:=h.ex
 rw [hb] at hb'
 simp only [Option.some.injEq,Obj.map.injEq] at hb'
 obtain ⟨rfl,rfl⟩:=hb'
 rcases K.find w hk es.toList h1 with ⟨hf,hn⟩|⟨j,x,hf,hj,hx⟩
 ·refine .inl ⟨?_, hf, hn⟩
  cases hv:f key with
  |none=>rfl
  | some u =>
   obtain ⟨x,hm,hx,_⟩:=h6 _ _ hv
   exact absurd hx (hn x hm)
 ·refine .inr ⟨j, x, hf, hj, hx, ?_⟩
  rw [←hx]
  exact h5 x (List.mem_of_getElem? hj)
end
section
variable {P:Program} {n:Nat} {L:List (Nat×Value)} {w w':World} {Q:Exit→Act→World→Prop} {ops:Array Oper} {rest:List Oper} {ty:TypeId} {pos:String} {af:Array Edge} {d:Nat} {t k e:TypeId} {m:Nat} {f:Value→Option Value}
theorem wl_makeMap (hd : d < n) (h : ∀ g w', g = w.heap.size → MapB P k w' g (fun _ => none) → Ext w w' → WL P n ops Q rest ((d, .map (some g)) :: L) w') :
  WL P n ops Q ({dst:=some d,op:= .makeMap t none,type:=ty,pos:=pos,after:=af,guard:=none}::rest) L w:=by
 refine wl_run hd (fun a ha=> ?_) (h w.heap.size (w.alloc (.map #[] 0)) rfl ?_ (Ext.alloc _ _))
 ·simp [execOp,Instr.makeMap,newObj,Sem.run]
 ·exact ⟨#[],0,heap_alloc_new w _,by simp,by simp,by simp,by simp,by simp,by simp⟩
theorem wl_lookup {x ix : Operand} {key z : Value} {l : Lit} (hd : d < n) (K : Keyed P k) (ht : P.underlying t = some (.map k e)) (hz : (P.info? e).bind (·.zero) = some z) (hx : ev L x = some (.map (some m))) (hi : ev L ix = some key)
  (hk:keyOf P k key=some l) (hm:MapB P k w m f) (h:WL P n ops Q rest ((d,(f key).getD z)::L) w):
  WL P n ops Q ({dst:=some d,op:= .lookup t x ix false,type:=ty,pos:=pos,after:=af,guard:=none}::rest) L w:=by
 refine wl_run hd (fun a ha=> ?_) h
 obtain ⟨es,c,hb,_⟩:=hm.ex
 have hc:=K.check w es.isEmpty hk
 have hg:(getObj m).run P w= .ok (.map es c) w:=by simp [getObj,Sem.run,hb]
 have hzz:(zeroValue e).run P w= .ok z w:=by
  cases hi:P.info? e with
  |none=>rw [hi] at hz;cases hz
  |some i=>rw [hi] at hz;simp only [Option.bind_some] at hz;simp [zeroValue,typeInfo,hi,hz]
 rcases hm.find K hk hb with ⟨hf,hr,_⟩|⟨j,y,hr,_,_,hf⟩
 ·simp [execOp,ha.eval hx,ha.eval hi,Instr.lookup,run_underlying ht,hg,hc,hr,hzz,hf]
 ·simp [execOp,ha.eval hx,ha.eval hi,Instr.lookup,run_underlying ht,hg,hc,hr,hf]
noncomputable def updF (f:Value→Option Value) (key u:Value):Value→Option Value:=fun v=>open Classical in if v=key then some u else f v
theorem updF_same (f:Value→Option Value) (key u:Value):updF f key u key=some u:=by simp [updF]
theorem updF_other (f:Value→Option Value) {key u v:Value} (h:v≠key):updF f key u v=f v:=by simp [updF,h]
theorem modify_map {β:Type} (q:MapEntry→β) (es:Array MapEntry) (j:Nat) (g:MapEntry→MapEntry) (y:MapEntry) (hy:es[j]? =some y) (hq:q (g y)=q y):(es.modify j g).toList.map q=es.toList.map q:=by
 apply List.ext_getElem?
 intro i
 rw [List.getElem?_map,List.getElem?_map,Array.getElem?_toList,Array.getElem?_toList,Array.getElem?_modify]
 split
 ·rename_i e
  subst e
  rw [hy]
  simp [hq]
 ·rfl
theorem MapB.upd (K : Keyed P k) {key u : Value} {l : Lit} (hk : keyOf P k key = some l) (hm : MapB P k w m f) (ht : P.underlying t = some (.map k e)) :
  ∃w',(Instr.mapUpdate t (.map (some m)) key u).run P w= .ok () w'∧MapB P k w' m (updF f key u)∧Chg (fun b=>b=m) w w':=by
 obtain ⟨es,c,hb,h1,h2,h3,h4,h5,h6⟩:=hm.ex
 have hc:=K.check w false hk
 have hs:=K.stays w hk
 have hg:(getObj m).run P w= .ok (.map es c) w:=by simp [getObj,Sem.run,hb]
 have hlt:=hm.lt
 have hso: ∀o:Obj,(setObj m o).run P w= .ok () {w with heap:=w.heap.setIfInBounds m o}:=by intro o;simp [setObj,Sem.run,hb]
 rcases hm.find K hk hb with ⟨hf,hr,hn⟩|⟨j,y,hr,hj,hy,hf⟩
 ·refine ⟨_, by simp only [Instr.mapUpdate, run_underlying ht, Sem.run_bind, Result.andThen_ok, hg, hc, hr]; exact hso _, ?_, Chg.setObj w m _⟩
  refine ⟨_,_,by simp [hlt];exact ⟨rfl,rfl⟩, ?_, ?_, ?_, ?_, ?_, ?_⟩
  ·intro x hx
   simp only [Array.toList_push,List.mem_append,List.mem_singleton] at hx
   rcases hx with hx|rfl
   ·exact h1 x hx
   ·exact ⟨l,hk⟩
  ·intro x hx
   simp only [Array.toList_push,List.mem_append,List.mem_singleton] at hx
   rcases hx with hx|rfl
   ·have:=h2 x hx;omega
   ·exact Nat.lt_succ_self _
  ·rw [Array.toList_push, List.pairwise_append]
   refine ⟨h3,by simp,fun x hx y hy=> ?_⟩
   rw [List.mem_singleton.1 hy]
   have:=h2 x hx
   exact Nat.ne_of_lt this
  ·rw [Array.toList_push, List.pairwise_append]
   refine ⟨h4,by simp,fun x hx y hy=> ?_⟩
   rw [List.mem_singleton.1 hy]
   exact hn x hx
  ·intro x hx
   simp only [Array.toList_push,List.mem_append,List.mem_singleton] at hx
   rcases hx with hx|rfl
   ·rw [updF_other f (hn x hx)];exact h5 x hx
   ·exact updF_same f _ _
  ·intro v u' hv
   by_cases he:v=key
   ·subst he
    rw [updF_same] at hv
    exact ⟨⟨v,u,c⟩,by simp,rfl,Option.some.inj hv⟩
   ·rw [updF_other f he] at hv
    obtain ⟨x,hx,hxk,hxv⟩:=h6 v u' hv
    exact ⟨x,by simp [hx],hxk,hxv⟩
 ·subst hy
  have hj2:es[j]? =some y:=by simpa using hj
  refine ⟨_,by
   simp only [Instr.mapUpdate,run_underlying ht,Sem.run_bind,Result.andThen_ok,hg,hc,hr]
   simp only [hj2,Option.map_some,Option.getD_some,hs,Result.andThen_ok]
   exact hso _, ?_,Chg.setObj w m _⟩
  have hmem : ∀ x ∈ (es.modify j fun e => { e with key := y.key, val := u }).toList, (x.key = y.key ∧ x.val = u ∧ x.born = y.born) ∨ (x ∈ es.toList ∧ x.key ≠ y.key) := by
   intro x hx
   obtain ⟨i,hi,rfl⟩:=List.mem_iff_getElem.1 hx
   have hi':i<es.size:=by simpa using hi
   rw [Array.getElem_toList,Array.getElem_modify]
   split
   ·rename_i e
    subst e
    rw [Array.getElem?_eq_getElem hi'] at hj2
    exact .inl ⟨rfl,rfl,by rw [Option.some.inj hj2]⟩
   ·rename_i e
    refine .inr ⟨by simp,fun hk'=>e ?_⟩
    rw [List.pairwise_iff_getElem] at h4
    have hjl:j<es.toList.length:=(List.getElem?_eq_some_iff.1 hj).1
    have hyj:es.toList[j]=y:=(List.getElem?_eq_some_iff.1 hj).2
    rcases Nat.lt_trichotomy i j with hlt'|rfl|hgt
    ·exact absurd (by rw [hyj,Array.getElem_toList,hk']) (h4 i j (by simpa using hi') hjl hlt')
    ·rfl
    ·exact absurd (by rw [hyj,Array.getElem_toList,hk']) (h4 j i hjl (by simpa using hi') hgt)
  refine ⟨_,_,by simp [hlt];exact ⟨rfl,rfl⟩, ?_, ?_, ?_, ?_, ?_, ?_⟩
  ·intro x hx
   rcases hmem x hx with ⟨e,_⟩|⟨hx,_⟩
   ·exact ⟨l,by rw [e];exact hk⟩
   ·exact h1 x hx
  ·intro x hx
   rcases hmem x hx with ⟨_,_,e⟩|⟨hx,_⟩
   ·rw [e];exact h2 y (List.mem_of_getElem? hj)
   ·exact h2 x hx
  ·have := modify_map (·.born) es j (fun e => { e with key := y.key, val := u }) y hj2 rfl
   have h3':(es.toList.map (·.born)).Pairwise (· ≠ ·):=by rw [List.pairwise_map];exact h3
   rw [←this,List.pairwise_map] at h3'
   exact h3'
  ·have := modify_map (·.key) es j (fun e => { e with key := y.key, val := u }) y hj2 rfl
   have h4':(es.toList.map (·.key)).Pairwise (· ≠ ·):=by rw [List.pairwise_map];exact h4
   rw [←this,List.pairwise_map] at h4'
   exact h4'
  ·intro x hx
   rcases hmem x hx with ⟨e,e2,_⟩|⟨hx,hne⟩
   ·rw [e,e2];exact updF_same f _ _
   ·rw [updF_other f hne];exact h5 x hx
  ·intro v u' hv
   by_cases he:v=y.key
   ·subst he
    rw [updF_same] at hv
    refine ⟨{y with val:=u}, ?_,rfl,Option.some.inj hv⟩
    rw [List.mem_iff_getElem?]
    exact ⟨j,by rw [Array.getElem?_toList,Array.getElem?_modify,if_pos rfl,hj2];rfl⟩
   ·rw [updF_other f he] at hv
    obtain ⟨x,hx,rfl,hxv⟩:=h6 v u' hv
    refine ⟨x, ?_,rfl,hxv⟩
    obtain ⟨i,hi⟩:=List.mem_iff_getElem?.1 hx
    rw [List.mem_iff_getElem?]
    refine ⟨i, ?_⟩
    rw [Array.getElem?_toList,Array.getElem?_modify,if_neg,←Array.getElem?_toList,hi]
    rintro rfl
    rw [hi] at hj
    exact he (by rw [Option.some.inj hj])
theorem wl_mapUpdate {x ix y : Operand} {key u : Value} {l : Lit} (K : Keyed P k) (ht : P.underlying t = some (.map k e)) (hx : ev L x = some (.map (some m))) (hi : ev L ix = some key) (hy : ev L y = some u)
  (hk:keyOf P k key=some l) (hm:MapB P k w m f) (h: ∀w',MapB P k w' m (updF f key u)→Chg (fun b=>b=m) w w'→WL P n ops Q rest L w'):
  WL P n ops Q ({dst:=none,op:= .mapUpdate t x ix y,type:=ty,pos:=pos,after:=af,guard:=none}::rest) L w:=by
 obtain ⟨w',hr,hm',hch⟩:=hm.upd (u:=u) K hk ht
 exact wl_eff (fun a ha=>by simp only [execOp,ha.eval hx,ha.eval hi,ha.eval hy,Sem.run_bind,hr,Result.andThen_ok,Sem.run_pure]) (h w' hm' hch)
end
end Go.Eng
namespace Go.Eng
open Go.RowKit
structure OwnR {α:Type} (r:Rep α) (e lo:Nat) (w:World) (A:Option Addr) (c:Nat) (l:List α):Prop where
 ex: ∃rows:List (List Value),OwnRow e r.size lo w A l.length c rows.flatten∧rows.length=l.length∧∀i (h:i<l.length),∃cs,rows[i]? =some cs∧r.rd (fun b=> ¬blk A b) w cs l[i]
section
variable {α:Type} {r:Rep α} {e lo lo' c:Nat} {w w':World} {A:Option Addr} {l:List α} {M:Nat→Prop}
theorem OwnR.nil (r:Rep α) (e lo:Nat) (w:World) (A:Option Addr):OwnR r e lo w A 0 []:=⟨[],OwnRow.nil e r.size lo w A,rfl,fun i h=>absurd h (by simp)⟩
theorem OwnR.keep (ch:Chg M w w') (hm: ∀b,b<w.heap.size→¬M b) (h:OwnR r e lo w A c l):OwnR r e lo w' A c l:=by
 obtain ⟨rows,ho,hl,hr⟩:=h.ex
 exact ⟨rows,ho.keep ch (fun b hb _ _=>hm b hb),hl,fun i hi=>by obtain ⟨cs,h1,h2⟩:=hr i hi;exact ⟨cs,h1,r.keep ch (fun b hb _=>hm b hb) h2⟩⟩
theorem OwnR.ext (h:OwnR r e lo w A c l) (ch:Ext w w'):OwnR r e lo w' A c l:=h.keep ch (fun _ _ x=>x)
theorem OwnR.lower (h:OwnR r e lo w A c l) (hl:lo'≤lo):OwnR r e lo' w A c l:=by
 obtain ⟨rows,ho,h2,h3⟩:=h.ex
 exact ⟨rows,ho.lower hl,h2,h3⟩
theorem OwnR.mx (h:OwnR r e lo w A c l):l.length≤140737488355328:=by obtain ⟨_,ho,_⟩:=h.ex;exact ho.mx
theorem OwnR.gs (h:OwnR r e lo w A c l):GS r (fun _=>True) w A c l:=by
 obtain ⟨rows,ho,hl,hr⟩:=h.ex
 by_cases h0:l.length=0
 ·have := List.eq_nil_of_length_eq_zero h0
  subst this
  exact ⟨by simp,by simp,fun i hi=>absurd hi (by simp)⟩
 ·rcases ho.row with ⟨_, h1⟩ | ⟨g, cur, rfl, _, hg, _⟩
  ·exact absurd h1 h0
  ·refine GS.of_rows rows (ho.at_ rfl) (Array.getElem?_eq_some_iff.1 hg).1 trivial ho.le ho.mx (fun i hi => ?_)
   obtain ⟨cs,h1,h2⟩:=hr i hi
   exact ⟨cs,h1,r.mono (fun _ _ _=>trivial) h2⟩
end
section
variable {P:Program} {n:Nat} {L:List (Nat×Value)} {w w':World} {Q:Exit→Act→World→Prop} {ops:Array Oper} {rest:List Oper} {ty:TypeId} {pos:String} {af:Array Edge} {d:Nat}
abbrev OwnE {α:Type} (enc:α→Value) (e lo:Nat) (w:World) (A:Option Addr) (c:Nat) (l:List α):Prop:=OwnRow e 1 lo w A l.length c (l.map enc)
theorem GS.cells1 {α:Type} {enc:α→Value} {he: ∀x,(enc x).oneCell'=true} {S:Nat→Prop} {w:World} {A:Option Addr} {c:Nat} {l:List α} (g:GS (oneR enc he) S w A c l):(∀a,A=some a→At w a (l.map enc))∧(A=none→l= []):=by
 obtain ⟨rows,hl,hs1,ho,hr,hat,hnil⟩:=g.cells
 have hfl:rows.flatten=l.map enc:=by
  have : rows = l.map (fun b => [enc b]) := by
   apply List.ext_getElem (by simp [hl])
   intro j h1 h2
   have:=hr j (by simpa using h2) h1
   simpa [oneR] using this
  rw [this,flat_ones]
 exact ⟨fun a ha=>hfl▸hat a ha,hnil⟩
theorem wl_bsliceE {α : Type} {enc : α → Value} (he : ∀ x, (enc x).oneCell' = true) {t e bytes : Nat} {xs : List Operand} {bs : List α} {k : Nat} {ps : Array (Nat × Operand)} (hd : d < n) (hT : slB P t e 1 bytes = true) (hp : ps = (partsOf 0 xs).toArray) (hv : evs L xs = some (bs.map enc)) (hk : k = bs.length)
  (hm:bs.length≤16777216) (lo:Nat) (hlo:lo≤w.heap.size)
  (h: ∀g w',g=w.heap.size→OwnE enc e lo w' (some ⟨g,0,none⟩) k bs→Ext w w'→WL P n ops Q rest ((d, .slice (some ⟨g,0,none⟩) bs.length k)::L) w'):
  WL P n ops Q ({dst:=some d,op:= .buildSlice t k ps,type:=ty,pos:=pos,after:=af,guard:=none}::rest) L w:=by
 have h1: ∀v∈bs.map enc,v.oneCell'=true:=by intro v hv;obtain ⟨b,_,rfl⟩:=List.mem_map.1 hv;exact he b
 have h0: ∀v∈bs.map enc,v.cells.size=1:=fun v hv=>by have:=h1 v hv;cases v<;>simp_all [Value.cells,Value.oneCell']
 refine wl_bslice (vs:=bs.map enc) hd hT hp hv (by simp [hk]) h0 (by simpa using hm) lo hlo ?_
 intro g w' hg ho hE
 rw [flat_cells1 _ h1] at ho
 subst hk
 exact h g w' hg ho hE
end
end Go.Eng
namespace Go.Eng
open Go.RowKit Go.Maps
structure It where
 R:World→(Nat→Prop)→Prop
 st: ∀{w w':World} {K:Nat→Prop},(∀b,K b→w'.heap[b]? =w.heap[b]?)→R w K→R w' K
 lt: ∀{w:World} {K:Nat→Prop},R w K→∀b,K b→b<w.heap.size
structure HP (w0:World) (M0 Fz:Nat→Prop) (w:World) (H:List It):Prop where
 chg:Chg M0 w0 w
 fz: ∀b,Fz b→b<w.heap.size
 ex : ∃ Ks : Nat → Nat → Prop, (∀ i (x : It), H[i]? = some x → x.R w (Ks i)) ∧ (∀ i, i < H.length → ∀ b, Ks i b → (w0.heap.size ≤ b ∨ M0 b) ∧ ¬ Fz b) ∧
  (∀i j,i<H.length→j<H.length→i≠j→∀b,Ks i b→¬Ks j b)
section
variable {w0 w w':World} {M0 Fz:Nat→Prop} {H:List It}
theorem Chg.old {_M K:Nat→Prop} (h:Chg K w w') (hk: ∀b,b<w.heap.size→K b→w0.heap.size≤b∨M0 b) (h0:Chg M0 w0 w):Chg M0 w0 w':=
 h0.step h (fun b hb hK=>by
  rcases hk b (Nat.lt_of_lt_of_le hb h0.size) hK with h1|h1
  ·exact absurd hb (Nat.not_lt.2 h1)
  ·exact h1)
theorem HP.start (w:World) (M0:Nat→Prop):HP w M0 (fun b=>b<w.heap.size∧¬M0 b) w []:=
 ⟨Chg.refl _ _,fun _ h=>h.1,fun _ _=>False,by simp,by simp,by simp⟩
theorem HP.begin_ (w:World):HP w (fun _=>False) (fun b=>b<w.heap.size) w []:=
 ⟨Chg.refl _ _,fun _ h=>h,fun _ _=>False,by simp,by simp,by simp⟩
theorem HP.beginS (w:World) (S:Nat→Prop):HP w (fun _=>False) (fun b=>S b∧b<w.heap.size) w []:=
 ⟨Chg.refl _ _,fun _ h=>h.2,fun _ _=>False,by simp,by simp,by simp⟩
theorem HP.focus (h : HP w0 M0 Fz w H) {i : Nat} {x : It} (hi : H[i]? = some x) : ∃ K, x.R w K ∧ (∀ b, K b → ¬ Fz b) ∧
  (∀(w':World) (x':It) (K':Nat→Prop),Chg K w w'→x'.R w' K'→(∀b,K' b→K b∨w.heap.size≤b)→HP w0 M0 Fz w' (H.set i x')∧Chg (fun b=> ¬Fz b) w w'):=by
 obtain ⟨Ks,h1,h2,h3⟩:=h.ex
 have hil:i<H.length:=(List.getElem?_eq_some_iff.1 hi).1
 refine ⟨Ks i,h1 i x hi,fun b hb=>(h2 i hil b hb).2,fun w' x' K' hch hx' hK'=>⟨⟨Chg.old (_M:=M0) hch (fun b _ hb=>(h2 i hil b hb).1) h.chg,fun b hb=>Nat.lt_of_lt_of_le (h.fz b hb) hch.size, ?_⟩,hch.weak (fun b _ hb=>(h2 i hil b hb).2)⟩⟩
 have hnew: ∀b,K' b→(w0.heap.size≤b∨M0 b)∧¬Fz b:=by
  intro b hb
  rcases hK' b hb with hb|hb
  ·exact h2 i hil b hb
  ·exact ⟨.inl (Nat.le_trans h.chg.size hb),fun hf=>Nat.lt_irrefl _ (Nat.lt_of_lt_of_le (h.fz b hf) hb)⟩
 have hdis: ∀j,j<H.length→j≠i→∀b,K' b→¬Ks j b:=by
  intro j hj hne b hb hk
  rcases hK' b hb with hb|hb
  ·exact h3 i j hil hj (Ne.symm hne) b hb hk
  ·have := (H[j]).lt (h1 j H[j] (List.getElem?_eq_getElem hj)) b hk
   omega
 refine ⟨fun j=>if j=i then K' else Ks j,fun j y hj=> ?_,fun j hj b hb=> ?_,fun j k hj hk hne b hb hb2=> ?_⟩
 ·by_cases e : j = i
  ·subst e
   rw [List.getElem?_set_self hil] at hj
   simp only [if_true]
   rw [←Option.some.inj hj]
   exact hx'
  ·rw [List.getElem?_set_ne (Ne.symm e)] at hj
   simp only [if_neg e]
   have hjl:j<H.length:=(List.getElem?_eq_some_iff.1 hj).1
   refine y.st (fun b hb=> ?_) (h1 j y hj)
   exact hch.block b (y.lt (h1 j y hj) b hb) (fun hk=>h3 j i hjl hil e b hb hk)
 ·rw [List.length_set] at hj
  by_cases e:j=i
  ·simp only [if_pos e] at hb;exact hnew b hb
  ·simp only [if_neg e] at hb;exact h2 j hj b hb
 ·rw [List.length_set] at hj hk
  by_cases e:j=i<;>by_cases e':k=i
  ·exact hne (e.trans e'.symm)
  ·simp only [if_pos e] at hb;simp only [if_neg e'] at hb2;exact hdis k hk e' b hb hb2
  ·simp only [if_neg e] at hb;simp only [if_pos e'] at hb2;exact hdis j hj e b hb2 hb
  ·simp only [if_neg e] at hb;simp only [if_neg e'] at hb2;exact h3 j k hj hk hne b hb hb2
theorem HP.ext (h:HP w0 M0 Fz w H) (hch:Ext w w'):HP w0 M0 Fz w' H:=by
 obtain ⟨Ks,h1,h2,h3⟩:=h.ex
 refine ⟨h.chg.step hch (fun _ _ x=>x.elim),fun b hb=>Nat.lt_of_lt_of_le (h.fz b hb) hch.size,Ks,fun i x hi=>x.st (fun b hb=>hch.block b (x.lt (h1 i x hi) b hb) (fun x=>x)) (h1 i x hi),h2,h3⟩
theorem HP.frz (h:HP w0 M0 Fz w H) (hch:Ext w w'): ∃Fz',HP w0 M0 Fz' w' H∧(∀b,Fz b→Fz' b)∧(∀b,w.heap.size≤b→b<w'.heap.size→Fz' b)∧∀b,Fz' b→Fz b∨w.heap.size≤b:=by
 have h':=h.ext hch
 obtain ⟨Ks,h1,h2,h3⟩:=h.ex
 refine ⟨fun b=>Fz b∨w.heap.size≤b∧b<w'.heap.size,⟨h'.chg,fun b hb=>hb.elim (h'.fz b) (fun x=>x.2),Ks,fun i x hi=>x.st (fun b hb=>hch.block b (x.lt (h1 i x hi) b hb) (fun x=>x)) (h1 i x hi),fun i hi b hb=>⟨(h2 i hi b hb).1, ?_⟩,h3⟩,fun b hb=> .inl hb,fun b h1 h2=> .inr ⟨h1,h2⟩,fun b hb=>hb.elim .inl (fun x=> .inr x.1)⟩
 rintro (hf|⟨hf,_⟩)
 ·exact (h2 i hi b hb).2 hf
 ·have := (H[i]).lt (h1 i H[i] (List.getElem?_eq_getElem hi)) b hb
  omega
theorem HP.add (h:HP w0 M0 Fz w H) {x:It} {K:Nat→Prop} (hch:Ext w w') (hx:x.R w' K) (hK: ∀b,K b→w.heap.size≤b):HP w0 M0 Fz w' (x::H):=by
 have h':=h.ext hch
 obtain ⟨Ks,h1,h2,h3⟩:=h.ex
 have hlt: ∀i,i<H.length→∀b,Ks i b→b<w.heap.size:=fun i hi b hb=>(H[i]).lt (h1 i H[i] (List.getElem?_eq_getElem hi)) b hb
 refine ⟨h'.chg,h'.fz,fun i=>match i with|0=>K|i+1=>Ks i, ?_, ?_, ?_⟩
 ·intro i y hi
  cases i with
  |zero=>simp only [List.getElem?_cons_zero,Option.some.injEq] at hi;subst hi;exact hx
  | succ i =>
   simp only [List.getElem?_cons_succ] at hi
   exact y.st (fun b hb=>hch.block b (y.lt (h1 i y hi) b hb) (fun x=>x)) (h1 i y hi)
 ·intro i hi b hb
  cases i with
  |zero=>exact ⟨.inl (Nat.le_trans h.chg.size (hK b hb)),fun hf=>Nat.lt_irrefl _ (Nat.lt_of_lt_of_le (h.fz b hf) (hK b hb))⟩
  |succ i=>exact h2 i (by simpa using hi) b hb
 ·intro i j hi hj hne b hb hb2
  cases i with
  | zero =>
   cases j with
   |zero=>exact hne rfl
   |succ j=>exact Nat.lt_irrefl _ (Nat.lt_of_lt_of_le (hlt j (by simpa using hj) b hb2) (hK b hb))
  | succ i =>
   cases j with
   |zero=>exact Nat.lt_irrefl _ (Nat.lt_of_lt_of_le (hlt i (by simpa using hi) b hb) (hK b hb2))
   |succ j=>exact h3 i j (by simpa using hi) (by simpa using hj) (by omega) b hb hb2
theorem HP.tail {x:It} (h:HP w0 M0 Fz w (x::H)):HP w0 M0 Fz w H:=by
 obtain ⟨Ks,h1,h2,h3⟩:=h.ex
 exact ⟨h.chg,h.fz,fun i=>Ks (i+1),fun i y hi=>h1 (i+1) y (by simpa using hi),fun i hi=>h2 (i+1) (by simpa using hi),fun i j hi hj hne=>h3 (i+1) (j+1) (by simpa using hi) (by simpa using hj) (by omega)⟩
theorem HP.pick {H':List It} (h:HP w0 M0 Fz w H) (js:List Nat) (hn:js.Nodup) (hl:H'.length=js.length) (hs: ∀(k j:Nat),js[k]? =some j→H'[k]? =H[j]? ∧j<H.length):HP w0 M0 Fz w H':=by
 obtain ⟨Ks,h1,h2,h3⟩:=h.ex
 refine ⟨h.chg,h.fz,fun i=>Ks (js.getD i 0),fun i y hi=> ?_,fun i hi=> ?_,fun i j hi hj hne=> ?_⟩
 ·have hil := (List.getElem?_eq_some_iff.1 hi).1
  have hj:js[i]? =some js[i]:=List.getElem?_eq_getElem (by omega)
  have hg:js.getD i 0=js[i]:=by rw [List.getD_eq_getElem?_getD,hj];rfl
  show y.R w (Ks (js.getD i 0))
  rw [hg]
  exact h1 _ y (by rw [←(hs i _ hj).1];exact hi)
 ·have hj : js[i]? = some js[i] := List.getElem?_eq_getElem (by omega)
  have hg:js.getD i 0=js[i]:=by rw [List.getD_eq_getElem?_getD,hj];rfl
  show ∀b,Ks (js.getD i 0) b→_
  rw [hg]
  exact h2 _ (hs i _ hj).2
 ·have e1 : js[i]? = some js[i] := List.getElem?_eq_getElem (by omega)
  have e2:js[j]? =some js[j]:=List.getElem?_eq_getElem (by omega)
  have g1:js.getD i 0=js[i]:=by rw [List.getD_eq_getElem?_getD,e1];rfl
  have g2:js.getD j 0=js[j]:=by rw [List.getD_eq_getElem?_getD,e2];rfl
  show ∀b,Ks (js.getD i 0) b→¬Ks (js.getD j 0) b
  rw [g1,g2]
  refine h3 _ _ (hs i _ e1).2 (hs j _ e2).2 (fun e=>hne ?_)
  exact (List.getElem_inj (h₀:=by omega) (h₁:=by omega) hn).1 e
theorem GS.fz {α:Type} {r:Rep α} {A:Option Addr} {c:Nat} {l:List α} (h:GS r Fz w A c l) (ch:Chg (fun b=> ¬Fz b) w w'):GS r Fz w' A c l:=h.keep ch (fun _ _ hb hn=>hn hb)
theorem GS.nowS {α:Type} {r:Rep α} {S:Nat→Prop} {A:Option Addr} {c:Nat} {l:List α} (h:GS r S w A c l):GS r (fun b=>S b∧b<w.heap.size) w A c l:=h.mono (fun _ hb hs=>⟨hs,hb⟩)
theorem GS.frz {α:Type} {r:Rep α} {lo:Nat} {Fz':Nat→Prop} {A:Option Addr} {c:Nat} {l:List α} (h:GS r (fun b=>lo≤b) w' A c l) (hf: ∀b,lo≤b→b<w'.heap.size→Fz' b):GS r Fz' w' A c l:=h.mono (fun b hb hs=>hf b hs hb)
theorem GS.wid {α:Type} {r:Rep α} {Fz':Nat→Prop} {A:Option Addr} {c:Nat} {l:List α} (h:GS r Fz w A c l) (hf: ∀b,Fz b→Fz' b):GS r Fz' w A c l:=h.mono (fun b _ hs=>hf b hs)
def RF {α:Type} (r:Rep α) (Fz:Nat→Prop) (w:World) (rows:List (List Value)) (l:List α):Prop:=rows.length=l.length∧∀i (h:i<l.length),∃cs,rows[i]? =some cs∧r.rd Fz w cs l[i]
theorem RF.fz {α:Type} {r:Rep α} {rows:List (List Value)} {l:List α} (h:RF r Fz w rows l) (ch:Chg (fun b=> ¬Fz b) w w'):RF r Fz w' rows l:=
 ⟨h.1,fun i hi=>by obtain ⟨cs,h1,h2⟩:=h.2 i hi;exact ⟨cs,h1,r.keep ch (fun _ _ hb hn=>hn hb) h2⟩⟩
theorem RF.ext {α:Type} {r:Rep α} {rows:List (List Value)} {l:List α} (h:RF r Fz w rows l) (ch:Ext w w'):RF r Fz w' rows l:=h.fz ch.ext
theorem RF.wid {α:Type} {r:Rep α} {Fz':Nat→Prop} {rows:List (List Value)} {l:List α} (h:RF r Fz w rows l) (hf: ∀b,Fz b→Fz' b):RF r Fz' w rows l:=
 ⟨h.1,fun i hi=>by obtain ⟨cs,h1,h2⟩:=h.2 i hi;exact ⟨cs,h1,r.mono (fun b _ hs=>hf b hs) h2⟩⟩
theorem RF.nil {α:Type} (r:Rep α) (Fz:Nat→Prop) (w:World):RF r Fz w [] []:=⟨rfl,fun i h=>absurd h (by simp)⟩
theorem RF.append {α:Type} {r:Rep α} {rows rows2:List (List Value)} {l l2:List α} (h:RF r Fz w rows l) (h':RF r Fz w rows2 l2):RF r Fz w (rows++rows2) (l++l2):=by
 refine ⟨by rw [List.length_append,List.length_append,h.1,h'.1],fun i hi=> ?_⟩
 by_cases hlt:i<l.length
 ·obtain ⟨cs, h1, h2⟩ := h.2 i hlt
  exact ⟨cs,by rw [List.getElem?_append_left (by have:=h.1;omega)];exact h1,by rw [List.getElem_append_left hlt];exact h2⟩
 ·have hi2 : i - l.length < l2.length := by rw [List.length_append] at hi; omega
  obtain ⟨cs,h1,h2⟩:=h'.2 _ hi2
  exact ⟨cs,by rw [List.getElem?_append_right (by have:=h.1;omega),h.1];exact h1,by rw [List.getElem_append_right (by omega)];exact h2⟩
theorem RF.one {α:Type} {r:Rep α} {cs:List Value} {v:α} (h:r.rd Fz w cs v):RF r Fz w [cs] [v]:=⟨rfl,fun i hi=>by
 simp only [List.length_singleton] at hi
 obtain rfl:i=0:=by omega
 exact ⟨cs,rfl,h⟩⟩
theorem RF.lens {α:Type} {r:Rep α} {rows:List (List Value)} {l:List α} (h:RF r Fz w rows l): ∀x∈rows,x.length=r.size:=by
 intro x hx
 obtain ⟨j,hj,rfl⟩:=List.mem_iff_getElem.1 hx
 obtain ⟨cs,h1,h2⟩:=h.2 j (by rw [←h.1];exact hj)
 rw [List.getElem?_eq_getElem hj] at h1
 rw [Option.some.inj h1]
 exact r.len h2
end
def itB (g:Nat) (e:TypeId) (cs:List Value):It where
 R w K:=Blk w g e cs∧∀b,K b↔b=g
 st:=fun h ⟨h1,h2⟩=>⟨(h g ((h2 g).2 rfl)).trans h1,h2⟩
 lt:=fun ⟨h1,h2⟩ b hb=>by rw [(h2 b).1 hb];exact h1.lt
def itR (e size:Nat) (A:Option Addr) (n c:Nat) (xs:List Value):It where
 R w K:=OwnRow e size 0 w A n c xs∧∀b,K b↔c≠0∧blk A b
 st := fun {w w' K} h ⟨h1, h2⟩ => ⟨by
  refine ⟨h1.len,h1.le,h1.mx, ?_⟩
  rcases h1.row with h0|⟨g,cur,rfl,hb,hg,hs,ht⟩
  ·exact .inl h0
  ·by_cases hc : c = 0
   ·have := h1.le
    exact .inl ⟨hc,by omega⟩
   ·exact .inr ⟨g,cur,rfl,hb,(h g ((h2 g).2 ⟨hc,_,rfl,rfl⟩)).trans hg,hs,ht⟩,h2⟩
 lt:=fun ⟨h1,h2⟩ b hb=>(h1.lt ((h2 b).1 hb).1 b ((h2 b).1 hb).2).2
def itM (P:Program) (k:TypeId) (m:Nat) (f:Value→Option Value):It where
 R w K:=MapB P k w m f∧∀b,K b↔b=m
 st := fun {w w' K} h ⟨h1, h2⟩ => ⟨by
  obtain ⟨es,c,hb,r⟩:=h1.ex
  exact ⟨es,c,(h m ((h2 m).2 rfl)).trans hb,r⟩,h2⟩
 lt:=fun ⟨h1,h2⟩ b hb=>by rw [(h2 b).1 hb];exact h1.lt
section
variable {P:Program} {n:Nat} {L:List (Nat×Value)} {w0 w w':World} {M0 Fz:Nat→Prop} {H:List It} {Q:Exit→Act→World→Prop} {ops:Array Oper} {rest:List Oper} {ty:TypeId} {pos:String} {af:Array Edge} {d i:Nat}
theorem HP.blkAt (h:HP w0 M0 Fz w H) {g e:Nat} {cs:List Value} (hi:H[i]? =some (itB g e cs)):Blk w g e cs:=by
 obtain ⟨K,⟨h1,_⟩,_⟩:=h.focus hi
 exact h1
theorem HP.rowAt (h:HP w0 M0 Fz w H) {e size k c:Nat} {A:Option Addr} {xs:List Value} (hi:H[i]? =some (itR e size A k c xs)):OwnRow e size 0 w A k c xs:=by
 obtain ⟨K,⟨h1,_⟩,_⟩:=h.focus hi
 exact h1
theorem HP.mapAt (h:HP w0 M0 Fz w H) {k m:Nat} {f:Value→Option Value} (hi:H[i]? =some (itM P k m f)):MapB P k w m f:=by
 obtain ⟨K,⟨h1,_⟩,_⟩:=h.focus hi
 exact h1
theorem wl_hbox {e : TypeId} {x : Operand} {v : Value} (hd : d < n) (hx : ev L x = some v) (hp : HP w0 M0 Fz w H)
  (h: ∀g w',HP w0 M0 Fz w' (itB g e v.cells.toList::H)→Ext w w'→WL P n ops Q rest ((d, .pointer (some ⟨g,0,none⟩))::L) w'):
  WL P n ops Q ({dst:=some d,op:= .box e x,type:=ty,pos:=pos,after:=af,guard:=none}::rest) L w:=
 wl_box hd hx (fun g w' hg hb hE=>h g w' (hp.add hE (K:=fun b=>b=g) ⟨hb,fun _=>Iff.rfl⟩ (fun b hb=>by rw [hb,hg];exact Nat.le_refl _)) hE)
theorem wl_halloc {e : TypeId} {z : Value} (hd : d < n) (hz : (P.info? e).bind (·.zero) = some z) (hp : HP w0 M0 Fz w H)
  (h: ∀g w',HP w0 M0 Fz w' (itB g e z.cells.toList::H)→Ext w w'→WL P n ops Q rest ((d, .pointer (some ⟨g,0,none⟩))::L) w'):
  WL P n ops Q ({dst:=some d,op:= .alloc e,type:=ty,pos:=pos,after:=af,guard:=none}::rest) L w:=
 wl_alloc hd hz (fun g w' hg hb hE=>h g w' (hp.add hE (K:=fun b=>b=g) ⟨hb,fun _=>Iff.rfl⟩ (fun b hb=>by rw [hb,hg];exact Nat.le_refl _)) hE)
theorem wl_hload {t e g o : Nat} {cs : List Value} {x : Operand} {v : Value} (hd : d < n) (hs : scB P t = true) (hx : ev L x = some (.pointer (some ⟨g, o, none⟩))) (hp : HP w0 M0 Fz w H) (hi : H[i]? = some (itB g e cs)) (hv : cs[o]? = some v)
  (h:WL P n ops Q rest ((d,v)::L) w):
  WL P n ops Q ({dst:=some d,op:= .load t x,type:=ty,pos:=pos,after:=af,guard:=none}::rest) L w:=wl_loadB hd hs hx (hp.blkAt hi) hv h
theorem wl_hloadA {t e g k o : Nat} {cs : List Value} {x : Operand} (hd : d < n) (hs : agB P t k = true) (hx : ev L x = some (.pointer (some ⟨g, o, none⟩))) (hp : HP w0 M0 Fz w H) (hi : H[i]? = some (itB g e cs)) (hl : ((cs.drop o).take k).length = k)
  (h:WL P n ops Q rest ((d, .agg ((cs.drop o).take k).toArray)::L) w):
  WL P n ops Q ({dst:=some d,op:= .load t x,type:=ty,pos:=pos,after:=af,guard:=none}::rest) L w:=wl_loadA hd hs hx (((hp.blkAt hi).at_ o).take k) hl h
theorem wl_hstore {t e g o : Nat} {cs : List Value} {x y : Operand} {v : Value} (hx : ev L x = some (.pointer (some ⟨g, o, none⟩))) (hy : ev L y = some v) (hp : HP w0 M0 Fz w H) (hi : H[i]? = some (itB g e cs)) (hs : szB P t v.cells.size = true)
  (hl:o+v.cells.size≤cs.length) (h1: ∀u∈v.cells.toList,u.oneCell'=true)
  (h: ∀w',HP w0 M0 Fz w' (H.set i (itB g e (putL cs o v.cells.toList)))→Chg (fun b=> ¬Fz b) w w'→WL P n ops Q rest L w'):
  WL P n ops Q ({dst:=none,op:= .store t x y,type:=ty,pos:=pos,after:=af,guard:=none}::rest) L w:=by
 obtain ⟨K,⟨hb,hK⟩,_,hup⟩:=hp.focus hi
 refine wl_storeB hs hx hy hb hl h1 (fun w' hb' hch=> ?_)
 obtain ⟨hp',hc'⟩:=hup w' (itB g e (putL cs o v.cells.toList)) K (hch.weak (fun b _ e=>(hK b).2 e)) ⟨hb',hK⟩ (fun b hb=> .inl hb)
 exact h w' hp' hc'
theorem wl_happend {t e size bytes k m c c2 : Nat} {A B : Option Addr} {xs news : List Value} {s x : Operand} (hd : d < n) (hT : slB P t e size bytes = true)
  (hs:ev L s=some (.slice A k c)) (hx:ev L x=some (.slice B m c2)) (hp:HP w0 M0 Fz w H) (hi:H[i]? =some (itR e size A k c xs)) (hl:news.length=m*size) (hat: ∀b,B=some b→At w b news) (hB:B=none→m=0)
  (h1: ∀u∈news,u.oneCell'=true) (hb:(k+m)*bytes≤140737488355328)
  (h: ∀A' c' w',HP w0 M0 Fz w' (H.set i (itR e size A' (k+m) c' (xs++news)))→Chg (fun b=> ¬Fz b) w w'→WL P n ops Q rest ((d, .slice A' (k+m) c')::L) w'):
  WL P n ops Q ({dst:=some d,op:= .call {callee:= .builtin .append,args:= #[s,x],argTypes:= #[t,t]},type:=ty,pos:=pos,after:=af,guard:=none}::rest) L w:=by
 obtain ⟨K,⟨ho,hK⟩,_,hup⟩:=hp.focus hi
 refine wl_append hd hT hs hx ho hl hat hB h1 hb (Nat.zero_le _) (fun A' c' w' ho' hch h4=> ?_)
 obtain ⟨hp', hc'⟩ := hup w' (itR e size A' (k + m) c' (xs ++ news)) (fun b => c' ≠ 0 ∧ blk A' b) (hch.weak (fun b _ e => (hK b).2 ⟨e.1, e.2.2⟩)) ⟨ho', fun _ => Iff.rfl⟩ (fun b hb => by
  rcases h4 with ⟨rfl,rfl⟩|rfl
  ·exact .inl ((hK b).2 hb)
  ·obtain ⟨_, a, ha, rfl⟩ := hb
   cases ha
   exact .inr (Nat.le_refl _))
 exact h A' c' w' hp' hc'
theorem HP.newRow {e size k c g:Nat} {xs:List Value} (hp:HP w0 M0 Fz w H) (hE:Ext w w') (hg:g=w.heap.size) (ho:OwnRow e size w.heap.size w' (some ⟨g,0,none⟩) k c xs):HP w0 M0 Fz w' (itR e size (some ⟨g,0,none⟩) k c xs::H):=
 hp.add hE (K := fun b => c ≠ 0 ∧ blk (some ⟨g, 0, none⟩) b) ⟨ho.lower (Nat.zero_le _), fun _ => Iff.rfl⟩ (fun b hb => by
  obtain ⟨_,a,ha,rfl⟩:=hb
  cases ha
  rw [hg];exact Nat.le_refl _)
theorem HP.noRow (hp:HP w0 M0 Fz w H) (e size:Nat):HP w0 M0 Fz w (itR e size none 0 0 []::H):=
 hp.add (Chg.refl _ _) (K:=fun b=>(0:Nat)≠0∧blk none b) ⟨OwnRow.nil _ _ _ _ _,fun _=>Iff.rfl⟩ (fun _b hb=>absurd rfl hb.1)
theorem HP.ownRow {e size k c:Nat} {A:Option Addr} {xs:List Value} (hp:HP w0 M0 Fz w H) (hE:Ext w w') (ho:OwnRow e size w.heap.size w' A k c xs):HP w0 M0 Fz w' (itR e size A k c xs::H):=
 hp.add hE (K:=fun b=>c≠0∧blk A b) ⟨ho.lower (Nat.zero_le _),fun _=>Iff.rfl⟩ (fun b hb=>(ho.lt hb.1 b hb.2).1)
theorem HP.rowLo {Fz:Nat→Prop} (h:HP w0 (fun _=>False) Fz w H) {e size k c:Nat} {A:Option Addr} {xs:List Value} (hi:H[i]? =some (itR e size A k c xs)):OwnRow e size w0.heap.size w A k c xs:=by
 obtain ⟨Ks,h1,h2,_⟩:=h.ex
 obtain ⟨ho,hK⟩:=h1 i _ hi
 have hil:=(List.getElem?_eq_some_iff.1 hi).1
 refine ⟨ho.len,ho.le,ho.mx, ?_⟩
 rcases ho.row with h0|⟨g,cur,rfl,_,r⟩
 ·exact .inl h0
 ·by_cases hc : c = 0
  ·have := ho.le
   exact .inl ⟨hc,by omega⟩
  ·rcases (h2 i hil g ((hK g).2 ⟨hc, _, rfl, rfl⟩)).1 with hb | hb
   ·exact .inr ⟨g,cur,rfl,hb,r⟩
   ·exact hb.elim
structure OutR {α:Type} (r:Rep α) (S:Nat→Prop) (e lo:Nat) (w:World) (A:Option Addr) (c:Nat) (l:List α):Prop where
 ex: ∃rows:List (List Value),OwnRow e r.size lo w A l.length c rows.flatten∧RF r (fun b=>S b∧(c≠0→¬blk A b)) w rows l
theorem OutR.gs {α:Type} {r:Rep α} {S:Nat→Prop} {e lo c:Nat} {A:Option Addr} {l:List α} (h:OutR r S e lo w A c l):GS r (fun b=>S b∨lo≤b) w A c l:=by
 obtain ⟨rows,ho,hr⟩:=h.ex
 by_cases h0:l.length=0
 ·have := List.eq_nil_of_length_eq_zero h0
  subst this
  exact ⟨by simp,by simp,fun i hi=>absurd hi (by simp)⟩
 ·rcases ho.row with ⟨_, h1⟩ | ⟨g, cur, rfl, hb, hg, _⟩
  ·exact absurd h1 h0
  ·refine GS.of_rows rows (ho.at_ rfl) (Array.getElem?_eq_some_iff.1 hg).1 (.inr hb) ho.le ho.mx (fun i hi => ?_)
   obtain ⟨cs,h1,h2⟩:=hr.2 i hi
   exact ⟨cs,h1,r.mono (fun _ _ hs=> .inl hs.1) h2⟩
theorem OutR.ext {α:Type} {r:Rep α} {S:Nat→Prop} {e lo c:Nat} {A:Option Addr} {l:List α} (h:OutR r S e lo w A c l) (ch:Ext w w'):OutR r S e lo w' A c l:=by
 obtain ⟨rows,ho,hr⟩:=h.ex
 exact ⟨rows,ho.ext ch,hr.ext ch⟩
theorem wl_hmakeMap {t k : TypeId} (hd : d < n) (hp : HP w0 M0 Fz w H) (h : ∀ g w', HP w0 M0 Fz w' (itM P k g (fun _ => none) :: H) → Ext w w' → WL P n ops Q rest ((d, .map (some g)) :: L) w') :
  WL P n ops Q ({dst:=some d,op:= .makeMap t none,type:=ty,pos:=pos,after:=af,guard:=none}::rest) L w:=
 wl_makeMap hd (fun g w' hg hb hE=>h g w' (hp.add hE (K:=fun b=>b=g) ⟨hb,fun _=>Iff.rfl⟩ (fun b hb=>by rw [hb,hg];exact Nat.le_refl _)) hE)
theorem wl_hmapUpdate {t k e m : Nat} {f : Value → Option Value} {x ix y : Operand} {key u : Value} {l : Lit} (K : Keyed P k) (ht : P.underlying t = some (.map k e)) (hx : ev L x = some (.map (some m))) (hix : ev L ix = some key) (hy : ev L y = some u)
  (hk:keyOf P k key=some l) (hp:HP w0 M0 Fz w H) (hi:H[i]? =some (itM P k m f)) (h: ∀w',HP w0 M0 Fz w' (H.set i (itM P k m (updF f key u)))→Chg (fun b=> ¬Fz b) w w'→WL P n ops Q rest L w'):
  WL P n ops Q ({dst:=none,op:= .mapUpdate t x ix y,type:=ty,pos:=pos,after:=af,guard:=none}::rest) L w:=by
 obtain ⟨K',⟨ho,hK⟩,_,hup⟩:=hp.focus hi
 refine wl_mapUpdate K ht hx hix hy hk ho (fun w' hb' hch=> ?_)
 obtain ⟨hp',hc'⟩:=hup w' (itM P k m (updF f key u)) K' (hch.weak (fun b _ e=>(hK b).2 e)) ⟨hb',hK⟩ (fun b hb=> .inl hb)
 exact h w' hp' hc'
end
end Go.Eng
namespace Go.Eng
open Go.RowKit
structure AtF (S:Nat→Prop) (w:World) (a:Addr) (cs:List Value):Prop where
 at_:At w a cs
 inS:S a.block
 lt:a.block<w.heap.size
section
variable {S S':Nat→Prop} {w w':World} {a:Addr} {cs:List Value}
theorem AtF.ext (h:AtF S w a cs) (ch:Ext w w'):AtF S w' a cs:=⟨h.at_.keep ch (fun _ x=>x),h.inS,Nat.lt_of_lt_of_le h.lt ch.size⟩
theorem AtF.fz (h:AtF S w a cs) (ch:Chg (fun b=> ¬S b) w w'):AtF S w' a cs:=⟨h.at_.keep ch (fun _ x=>x h.inS),h.inS,Nat.lt_of_lt_of_le h.lt ch.size⟩
theorem AtF.wid (h:AtF S w a cs) (hs: ∀b,S b→S' b):AtF S' w a cs:=⟨h.at_,hs _ h.inS,h.lt⟩
theorem AtF.now (h:AtF S w a cs):AtF (fun b=>b<w.heap.size) w a cs:=⟨h.at_,h.lt,h.lt⟩
theorem AtF.any (h:AtF S w a cs):AtF (fun _=>True) w a cs:=⟨h.at_,trivial,h.lt⟩
theorem AtF.get (h:AtF S w a cs) {j:Nat} {v:Value} (hv:cs[j]? =some v):w.cell? (a.add j)=some v:=h.at_.get hv
theorem AtF.head {v:Value} {t:List Value} (h:AtF S w a (v::t)):w.cell? a=some v:=h.at_.head
theorem GS.el {α:Type} {r:Rep α} {A:Option Addr} {c:Nat} {l:List α} (h:GS r S w A c l) (i:Nat) (hi:i<l.length): ∃a cs,A=some a∧AtF S w (a.add (i*r.size)) cs∧r.rd S w cs l[i]:=by
 obtain ⟨a,cs,h1,h2,h3,h4,h5⟩:=h.rd i hi
 exact ⟨a,cs,h1,⟨h4,by rw [block_add];exact h3,by rw [block_add];exact h2⟩,h5⟩
theorem GS.el1 {α:Type} {enc:α→Value} {he: ∀x,(enc x).oneCell'=true} {A:Option Addr} {c:Nat} {l:List α} (h:GS (oneR enc he) S w A c l) (i:Nat) (hi:i<l.length): ∃a,A=some a∧AtF S w (a.add (i*1)) [enc l[i]]:=by
 obtain ⟨a,cs,h1,h2,h3⟩:=h.el i hi
 cases h3
 exact ⟨a,h1,h2⟩
end
end Go.Eng
namespace Go.Eng
open Go.RowKit
structure Frz (F0 Fz:Nat→Prop) (w0 w:World):Prop where
 chg:Chg (fun b=> ¬F0 b) w0 w
 sub: ∀b,F0 b→Fz b
section
variable {F0 Fz Fz':Nat→Prop} {w0 w w':World} {M0:Nat→Prop} {H:List It}
theorem Frz.start (Fz:Nat→Prop) (w:World):Frz Fz Fz w w:=⟨Chg.refl _ _,fun _ h=>h⟩
theorem Frz.ext (h:Frz F0 Fz w0 w) (ch:Ext w w'):Frz F0 Fz w0 w':=⟨h.chg.step ch (fun _ _ x=>x.elim),h.sub⟩
theorem Frz.fz (h:Frz F0 Fz w0 w) (ch:Chg (fun b=> ¬Fz b) w w'):Frz F0 Fz w0 w':=⟨h.chg.step ch (fun b _ hn hf=>hn (h.sub b hf)),h.sub⟩
theorem Frz.wid (h:Frz F0 Fz w0 w) (hs: ∀b,Fz b→Fz' b):Frz F0 Fz' w0 w:=⟨h.chg,fun b hb=>hs b (h.sub b hb)⟩
theorem HP.frzRow {e size k c:Nat} {A:Option Addr} {xs:List Value} (h:HP w0 M0 Fz w (itR e size A k c xs::H)): ∃Fz',HP w0 M0 Fz' w H∧(∀b,Fz b→Fz' b)∧(∀b,c≠0→blk A b→Fz' b):=by
 obtain ⟨Ks,h1,h2,h3⟩:=h.ex
 obtain ⟨ho,hK⟩:=h1 0 _ rfl
 refine ⟨fun b=>Fz b∨(c≠0∧blk A b),⟨h.chg,fun b hb=>hb.elim (h.fz b) (fun x=>(ho.lt x.1 b x.2).2),fun i=>Ks (i+1),fun i y hi=>h1 (i+1) y (by simpa using hi),fun i hi b hb=>⟨(h2 (i+1) (by simpa using hi) b hb).1, ?_⟩,fun i j hi hj hne=>h3 (i+1) (j+1) (by simpa using hi) (by simpa using hj) (by omega)⟩,fun b hb=> .inl hb,fun b hc hb=> .inr ⟨hc,hb⟩⟩
 rintro (hf|hf)
 ·exact (h2 (i+1) (by simpa using hi) b hb).2 hf
 ·exact h3 0 (i+1) (by simp) (by simpa using hi) (by omega) b ((hK b).2 hf) hb
theorem OwnRow.gsF {α:Type} {enc:α→Value} {he: ∀x,(enc x).oneCell'=true} {e lo:Nat} {A:Option Addr} {c:Nat} {l:List α} (h:OwnRow e 1 lo w A l.length c (l.map enc)) (hf: ∀b,c≠0→blk A b→Fz b):GS (oneR enc he) Fz w A c l:=by
 refine ⟨h.le,h.mx,fun i hi=> ?_⟩
 obtain ⟨a,cs,h1,h2,h3,h4,h5⟩:=(OwnRow.gs1 (he:=he) h).rd i hi
 have:=h.le
 exact ⟨a,cs,h1,h2,hf _ (by omega) ⟨a,h1,rfl⟩,h4,h5⟩
theorem OwnRow.el {e size lo k c:Nat} {A:Option Addr} {xs:List Value} (h:OwnRow e size lo w A k c xs) (i:Nat) (hi:i<k): ∃g,A=some ⟨g,0,none⟩∧AtF (fun _=>True) w ((⟨g,0,none⟩:Addr).add (i*size)) ((xs.drop (i*size)).take size):=by
 rcases h.row with ⟨_,h0⟩|⟨g,cur,rfl,_,hg,_⟩
 ·omega
 ·exact ⟨g,rfl,((h.at_ rfl).drop (i*size)).take size,trivial,by rw [block_add];exact (Array.getElem?_eq_some_iff.1 hg).1⟩
end
end Go.Eng
namespace Go.Eng
theorem HP.rot3 {w0 w:World} {M0 Fz:Nat→Prop} {x y z:It} {F:List It} (h:HP w0 M0 Fz w (x::y::z::F)):HP w0 M0 Fz w (y::z::x::F):=by
 obtain ⟨Ks,h1,h2,h3⟩:=h.ex
 let σ:Nat→Nat:=fun i=>match i with|0=>1|1=>2|2=>0|i+3=>i+3
 have hσ: ∀i j,σ i=σ j→i=j:=by
  intro i j
  match i,j with
  |0,0|1,1|2,2=>simp
  |0,1|0,2|1,0|1,2|2,0|2,1=>simp [σ]
  |0,j+3|1,j+3|2,j+3=>simp [σ]
  |i+3,0|i+3,1|i+3,2=>simp [σ]
  |i+3,j+3=>simp [σ]
 have hg: ∀i,(y::z::x::F)[i]? =(x::y::z::F)[σ i]? :=by
  intro i
  match i with
  |0|1|2=>rfl
  |i+3=>rfl
 have hl: ∀i,i<(y::z::x::F).length→σ i<(x::y::z::F).length:=by
  intro i hi
  match i with
  |0|1|2=>simp [σ]
  |i+3=>simpa [σ] using hi
 exact ⟨h.chg,h.fz,fun i=>Ks (σ i),fun i u hi=>h1 _ u (by rw [←hg];exact hi),fun i hi=>h2 _ (hl i hi),fun i j hi hj hne=>h3 _ _ (hl i hi) (hl j hj) (fun e=>hne (hσ i j e))⟩
end Go.Eng
namespace Go.Eng
theorem HP.comm {w0 w:World} {M0 Fz:Nat→Prop} (X Y F:List It) (h:HP w0 M0 Fz w (X++(Y++F))):HP w0 M0 Fz w (Y++(X++F)):=by
 obtain ⟨Ks,h1,h2,h3⟩:=h.ex
 have hlen:(Y++(X++F)).length=(X++(Y++F)).length:=by simp only [List.length_append];omega
 have hg: ∀i,(Y++(X++F))[i]? =(X++(Y++F))[if i<Y.length then X.length+i else if i<Y.length+X.length then i-Y.length else i]? :=by
  intro i
  by_cases h1:i<Y.length
  ·rw [if_pos h1, List.getElem?_append_left h1, List.getElem?_append_right (by omega), List.getElem?_append_left (by omega)]
   congr 1
   omega
  ·rw [if_neg h1]
   by_cases h2:i<Y.length+X.length
   ·rw [if_pos h2,List.getElem?_append_right (by omega),List.getElem?_append_left (by omega),List.getElem?_append_left (by omega)]
   ·rw [if_neg h2, List.getElem?_append_right (by omega), List.getElem?_append_right (by omega), List.getElem?_append_right (by omega), List.getElem?_append_right (by omega)]
    congr 1
    omega
 have hl: ∀i,i<(Y++(X++F)).length→(if i<Y.length then X.length+i else if i<Y.length+X.length then i-Y.length else i)<(X++(Y++F)).length:=by
  intro i hi
  rw [hlen] at hi
  simp only [List.length_append] at hi⊢
  split
  ·omega
  ·split<;>omega
 refine ⟨h.chg,h.fz,fun i=>Ks (if i<Y.length then X.length+i else if i<Y.length+X.length then i-Y.length else i),fun i u hi=>h1 _ u (by rw [←hg];exact hi),fun i hi=>h2 _ (hl i hi),fun i j hi hj hne=>h3 _ _ (hl i hi) (hl j hj) (fun e=>hne ?_)⟩
 simp only [List.length_append] at hi hj
 split at e<;>split at e<;>(try split at e)<;>(try split at e)<;>omega
section
open Go.RowKit
variable {P:Program} {n:Nat} {L:List (Nat×Value)} {w:World} {Q:Exit→Act→World→Prop} {ops:Array Oper} {rest:List Oper} {ty:TypeId} {pos:String} {af:Array Edge} {d:Nat}
theorem wl_upto {A : Option Addr} {c t e size bytes m : Nat} {x up : Operand} {k : IntKind} {i : Int} (hd : d < n) (hT : slB P t e size bytes = true)
  (hx:ev L x=some (.slice A m c)) (hi:ev L up=some (.int k i)) (j:Nat) (hj:i=(j:Int)) (hle:j≤c)
  (h:WL P n ops Q rest ((d, .slice A j c)::L) w):
  WL P n ops Q ({dst:=some d,op:= .slice t x none (some up) none,type:=ty,pos:=pos,after:=af,guard:=none}::rest) L w:=by
 subst hj
 refine wl_run hd (fun a ha=> ?_) h
 have hr:=run_cut_hi (A:=A) (k:=m) (c:=c) w hT j k hle
 simp [execOp,ha.eval hx,ha.eval hi,hr]
end
end Go.Eng
namespace Go.Eng
open Go.RowKit
section
variable {P:Program} {n:Nat} {L:List (Nat×Value)} {w:World} {Q:Exit→Act→World→Prop} {ops:Array Oper} {rest:List Oper} {ty:TypeId} {pos:String} {af:Array Edge} {d:Nat}
theorem wl_bsliceR {α : Type} {r : Rep α} {S : Nat → Prop} {t e bytes k : Nat} {xs : List Operand} {css : List (List Value)} {l : List α} {ps : Array (Nat × Operand)} (hd : d < n) (hT : slB P t e r.size bytes = true) (hp : ps = (partsOf 0 xs).toArray)
  (hv:evs L xs=some (css.map fun cs=> .agg cs.toArray)) (hR:RF r S w css l) (hk:k=l.length) (hl0:l≠ []) (hm:l.length*r.size≤16777216)
  (h: ∀g w',g=w.heap.size→GS r (fun b=>S b∧b<w.heap.size∨b=g) w' (some ⟨g,0,none⟩) k l→Ext w w'→WL P n ops Q rest ((d, .slice (some ⟨g,0,none⟩) l.length k)::L) w'):
  WL P n ops Q ({dst:=some d,op:= .buildSlice t k ps,type:=ty,pos:=pos,after:=af,guard:=none}::rest) L w:=by
 subst hk
 have hfl : ((css.map fun cs => Value.agg cs.toArray).map fun v => v.cells.toList).flatten = css.flatten := by
  rw [List.map_map]
  congr 1
  have:((fun v:Value=>v.cells.toList)∘fun cs:List Value=>Value.agg cs.toArray)=id:=by funext cs;simp [Value.cells]
  rw [this,List.map_id]
 refine wl_bslice (xs:=xs) (vs:=css.map fun cs=> .agg cs.toArray) hd hT hp hv (by simp [hR.1]) ?_ (by simpa [hR.1] using hm) w.heap.size (Nat.le_refl _) ?_
 ·intro v hv
  obtain ⟨cs,hcs,rfl⟩:=List.mem_map.1 hv
  simpa [Value.cells] using hR.lens cs hcs
 ·intro g w' hg ho hE
  rw [hfl] at ho
  refine h g w' hg ?_ hE
  have h0:l.length≠0:=fun e=>hl0 (List.eq_nil_of_length_eq_zero e)
  refine GS.of_rows css ho.at0 (ho.lt0 h0) (.inr rfl) (Nat.le_refl _) ho.mx (fun i hi=> ?_)
  obtain ⟨cs,h1,h2⟩:=hR.2 i hi
  have h3:r.rd (fun b=>S b∧b<w.heap.size) w cs l[i]:=r.mono (fun b hb hs=>⟨hs,hb⟩) h2
  exact ⟨cs,h1,r.mono (fun b _ hs=> .inl hs) (r.keep hE (fun _ _ _ x=>x) h3)⟩
end
end Go.Eng
namespace Go.Eng
open Go.RowKit
section
variable {P:Program} {n:Nat} {ops:Array Oper} {L0:List (Nat×Value)} {I:(Nat→Bool)→World→Prop} {Rl:Nat→World→World→Prop} {Φ:Nat→Value→World→Prop}
structure DG (n:Nat) (ops:Array Oper) (L0:List (Nat×Value)) (I:(Nat→Bool)→World→Prop) (Φ:Nat→Value→World→Prop) (listed:Array Bool) (a:Act) (w:World):Prop where
 lsz:listed.size=ops.size
 size:a.tmps.size=n
 defers:a.defers= []
 ext:I (fun j=>listed.getD j true) w
 closed: ∀j,j<ops.size→listed.getD j true=true→∀e∈edgesOf ops j,listed.getD e false=true
 init: ∀x v,lk L0 x=some v→(∀j,j<ops.size→dstOf ops j=some x→listed.getD j true=false)→a.tmps[x]? =some v
 done: ∀j,j<ops.size→listed.getD j true=true→∀d,dstOf ops j=some d→∃v,a.tmps[d]? =some v∧Φ j v w
theorem DG.listedOf {listed:Array Bool} {a:Act} {w:World} (h:DG n ops L0 I Φ listed a w): ∀(f i p:Nat),(∀e∈edgesOf ops i,listed.getD e false=true)→anc ops f i p=true→listed.getD p false=true:=by
 intro f
 induction f with
 |zero=>intro i p _ hh;simp [anc] at hh
 | succ f ih =>
  intro i p he hh
  simp only [anc,List.any_eq_true,Bool.or_eq_true] at hh
  obtain ⟨e,hm,hor⟩:=hh
  rcases hor with hb|hb
  ·rw [←Nat.eq_of_beq_eq_true hb];exact he e hm
  ·have h1 := he e hm
   have hlt:e<listed.size:=by
    rcases Nat.lt_or_ge e listed.size with hl|hl
    ·exact hl
    ·rw [Array.getD_eq_getD_getElem?,Array.getElem?_eq_none hl] at h1;cases h1
   have h2:listed.getD e true=true:=by
    rw [Array.getD_eq_getD_getElem?,Array.getElem?_eq_getElem hlt] at h1⊢;exact h1
   exact ih e p (h.closed e (by rw [←h.lsz];exact hlt) h2) hb
theorem DG.kn {listed:Array Bool} {a:Act} {w:World} (h:DG n ops L0 I Φ listed a w) {i:Nat} (hi:i∈Region.ready .any ops listed):Kn ops L0 Φ i (fullL a) w:=by
 obtain ⟨h0,o,ho,he⟩:=edges_listed hi
 refine ⟨fun x v hx hok=> ?_,fun p hp d hd=> ?_⟩
 ·rw [lk_full]
  refine h.init x v hx fun j hj hd=> ?_
  simp only [okInit,List.all_eq_true,List.mem_range] at hok
  have:=hok j hj
  rw [hd] at this
  have hxx:Nat.beq x x=true:=by simp
  simp only [hxx,Bool.not_true,Bool.false_or,Bool.or_eq_true] at this
  rcases this with hb|hb
  ·rw [Nat.eq_of_beq_eq_true hb];exact h0
  ·cases hl : listed.getD j true with
   |false=>rfl
   | true =>
    have:=getD_true_of_false (DG.listedOf h ops.size j i (h.closed j hj hl) hb)
    rw [h0] at this
    cases this
 ·rw [lk_full]
  have hl:=DG.listedOf h ops.size i p he hp
  exact h.done p (by rw [←h.lsz];exact lt_of_getD hl) (getD_true_of_false hl) d hd
theorem DG.next {listed : Array Bool} {a a' : Act} {w w' : World} (h : DG n ops L0 I Φ listed a w) (hst : ∀ i j v w w', i ≠ j → Rl i w w' → Φ j v w → Φ j v w') (hI : ∀ i f w w', f i = false → I f w → Rl i w w' → I (fun j => if j = i then true else f j) w') (h1 : oneEach ops = true)
  {i:Nat} (hi:i∈Region.ready .any ops listed) (hq:QR n (fullL a) (dstOf ops i) (fun v w'=>Rl i w w'∧Φ i v w') .normal a' w'):
  DG n ops L0 I Φ (listed.setIfInBounds i true) a' w':=by
 obtain ⟨h0,o,ho,he⟩:=edges_listed hi
 have hlt:i<ops.size:=(Array.getElem?_eq_some_iff.1 ho).1
 have hlt':i<listed.size:=by rw [h.lsz];exact hlt
 obtain ⟨_,hq⟩:=hq
 have key:a'.tmps.size=n∧a'.defers= []∧Rl i w w'∧(∀x,dstOf ops i≠some x→∀v,a.tmps[x]? =some v→a'.tmps[x]? =some v)∧(∀d,dstOf ops i=some d→∃v,a'.tmps[d]? =some v∧Φ i v w'):=by
  cases hd:dstOf ops i with
  | none =>
   rw [hd] at hq
   obtain ⟨hf,hE,_⟩:=hq
   exact ⟨hf.size,hf.defers,hE,fun x _ v hv=>hf.get x v (by rw [lk_full];exact hv),fun d hd=>by cases hd⟩
  | some d =>
   rw [hd] at hq
   obtain ⟨v,hf,hE,hv⟩:=hq
   refine ⟨hf.size,hf.defers,hE,fun x hx u hu=>hf.get x u ?_,fun d' hd'=>⟨v, ?_,hv⟩⟩
   ·simp only [lk]
    have:Nat.beq x d=false:=by
     cases hb:Nat.beq x d
     ·rfl
     ·exact absurd (by rw [Nat.eq_of_beq_eq_true hb]) hx
    rw [this,cond_false,lk_full]
    exact hu
   ·cases hd'
    refine hf.get d v ?_
    have:Nat.beq d d=true:=by simp
    simp only [lk,this,cond_true]
 obtain ⟨k1,k2,k3,k4,k5⟩:=key
 have hne: ∀j,j<ops.size→j≠i→∀d,dstOf ops j=some d→dstOf ops i≠some d:=by
  intro j hj hji d hd hd'
  simp only [oneEach,List.all_eq_true,List.mem_range,Bool.or_eq_true] at h1
  rcases h1 i hlt j hj with hb|hb
  ·exact hji (Nat.eq_of_beq_eq_true hb).symm
  ·rw [hd, hd'] at hb
   have:Nat.beq d d=true:=by simp
   simp at hb
 refine ⟨by simpa using h.lsz, k1, k2, (by
  have:=hI i _ _ _ h0 h.ext k3
  have e:(fun j=>if j=i then true else listed.getD j true)=fun j=>(listed.setIfInBounds i true).getD j true:=funext fun j=>(getD_set listed i j true hlt').symm
  rwa [e] at this), ?_, ?_, ?_⟩
 ·intro j hj hl e hm
  rw [getD_set _ _ _ _ hlt'] at hl⊢
  split
  ·rfl
  ·by_cases e' : j = i
   ·subst e';exact he e hm
   ·rw [if_neg e'] at hl;exact h.closed j hj hl e hm
 ·intro x v hx hn
  refine k4 x (fun hd=> ?_) v (h.init x v hx fun j hj hd=> ?_)
  ·have := hn i hlt hd
   rw [getD_set _ _ _ _ hlt',if_pos rfl] at this
   cases this
  ·have := hn j hj hd
   rw [getD_set _ _ _ _ hlt'] at this
   split at this
   ·cases this
   ·exact this
 ·intro j hj hl d hd
  rw [getD_set _ _ _ _ hlt'] at hl
  by_cases e:j=i
  ·subst e;exact k5 d hd
  ·rw [if_neg e] at hl
   obtain ⟨v,hv,hp⟩:=h.done j hj hl d hd
   exact ⟨v,k4 d (hne j hj e d hd) v hv,hst i j v w w' (Ne.symm e) k3 hp⟩
def chainB (ops:Array Oper) (m:Nat):Bool:=(List.range ops.size).all fun i=>decide (i<m)||(List.range i).all fun p=>anc ops ops.size i p
theorem anc_closed {listed:Array Bool} (hl:listed.size=ops.size) (hc: ∀j,j<ops.size→listed.getD j true=true→∀e∈edgesOf ops j,listed.getD e false=true): ∀(f i p:Nat),(∀e∈edgesOf ops i,listed.getD e false=true)→anc ops f i p=true→listed.getD p false=true:=by
 intro f
 induction f with
 |zero=>intro i p _ hh;simp [anc] at hh
 | succ f ih =>
  intro i p he hh
  simp only [anc,List.any_eq_true,Bool.or_eq_true] at hh
  obtain ⟨e,hm,hor⟩:=hh
  rcases hor with hb|hb
  ·rw [←Nat.eq_of_beq_eq_true hb];exact he e hm
  ·have h1 := he e hm
   have hlt:=lt_of_getD h1
   exact ih e p (hc e (by rw [←hl];exact hlt) (getD_true_of_false h1)) hb
theorem tail_any {Q : Exit → Act → World → Prop} {l : List Oper} {m : Nat} (hf : fwd l.toArray = true) (hch : chainB l.toArray m = true) : ∀ (fuel q : Nat) (listed : Array Bool) (a : Act) (w : World), m ≤ q → q ≤ l.length → listed.size = l.toArray.size →
  (∀j,j<q→listed.getD j true=true)→(∀j,q≤j→j<l.toArray.size→listed.getD j true=false)→listed.toList.count false≤fuel→wpList P l.toArray Q (l.drop q) a w→wpAny P .any l.toArray Q fuel listed a w:=by
 intro fuel
 have base: ∀(q:Nat) (listed:Array Bool) (a:Act) (w:World),q≤l.length→listed.size=l.toArray.size→(∀j,q≤j→j<l.toArray.size→listed.getD j true=false)→wpList P l.toArray Q (l.drop q) a w→Region.ready .any l.toArray listed= []→Q .normal a w:=by
  intro q listed a w hql hls hnot hw hr
  have hall:=all_listed hls hf hr
  rcases Nat.lt_or_ge q l.length with hlt|hge
  ·have h1 := hall q (by simpa using hlt)
   rw [hnot q (Nat.le_refl _) (by simpa using hlt)] at h1
   cases h1
  ·rw [List.drop_of_length_le hge] at hw
   simpa [wpList] using hw
 induction fuel with
 | zero =>
  intro q listed a w hm hql hls hyes hnot hc hw
  have hr:=ready_of_count hls (by omega)
  exact ⟨hr,base q listed a w hql hls hnot hw hr⟩
 | succ fuel ih =>
  intro q listed a w hm hql hls hyes hnot hc hw
  refine ⟨base q listed a w hql hls hnot hw,fun i hi=> ?_⟩
  obtain ⟨h0,o,ho,he⟩:=edges_listed hi
  have hil:i<l.toArray.size:=(Array.getElem?_eq_some_iff.1 ho).1
  have hqi:q≤i:=by
   rcases Nat.lt_or_ge i q with h|h
   ·rw [hyes i h] at h0;cases h0
   ·exact h
  have hclosed: ∀j,j<l.toArray.size→listed.getD j true=true→∀e∈edgesOf l.toArray j,listed.getD e false=true:=by
   intro j hj hlj e hem
   have hlt:e<j:=by
    simp only [fwd,List.all_eq_true,List.mem_range,decide_eq_true_eq] at hf
    exact hf j hj e hem
   have hjq:j<q:=by
    rcases Nat.lt_or_ge j q with h|h
    ·exact h
    ·rw [hnot j h hj] at hlj;cases hlj
   have h1:=hyes e (by omega)
   have hls2:e<listed.size:=by omega
   rw [Array.getD_eq_getD_getElem?,Array.getElem?_eq_getElem hls2] at h1⊢
   exact h1
  obtain rfl:i=q:=by
   rcases Nat.lt_or_ge q i with h|h
   ·simp only [chainB, List.all_eq_true, List.mem_range, Bool.or_eq_true, decide_eq_true_eq] at hch
    rcases hch i hil with h'|h'
    ·omega
    ·have := getD_true_of_false (anc_closed hls hclosed _ i q he (h' q h))
     rw [hnot q (Nat.le_refl _) (by omega)] at this
     cases this
   ·omega
  have hll:i<l.length:=by simpa using hil
  have hol:l[i]=o:=by
   have:l[i]? =some o:=by simpa using ho
   exact (List.getElem?_eq_some_iff.1 this).2
  rw [List.drop_eq_getElem_cons hll,hol] at hw
  have hlis:i<listed.size:=by rw [hls];exact hil
  have hnext: ∀a' w',wpList P l.toArray Q (l.drop (i+1)) a' w'→wpAny P .any l.toArray Q fuel (listed.setIfInBounds i true) a' w':=by
   intro a' w' hw'
   refine ih (i+1) _ a' w' (by omega) (by omega) (by simpa using hls) (fun j hj=> ?_) (fun j hj hjl=> ?_) (by have:=count_step h0;omega) hw'
   ·rw [getD_set _ _ _ _ hlis]
    split
    ·rfl
    ·exact hyes j (by omega)
   ·rw [getD_set _ _ _ _ hlis, if_neg (by omega)]
    exact hnot j (by omega) hjl
  unfold wpOp
  rw [ho]
  unfold wpList at hw
  simp only
  split
  ·rename_i hwn
   rw [if_pos hwn] at hw
   rcases hw with hw|hw
   ·exact .inl (Oper.wp_mono2 (fun a' w'' h=>hnext a' w'' h) (fun e a w _ h=>h) hw)
   ·exact .inr hw
  ·rename_i hwn
   rw [if_neg hwn] at hw
   exact hnext _ _ hw
theorem wc_drawG {id : Nat} {pre tl : List Oper} {Q : Exit → Act → World → Prop} {L : List (Nat × Value)} {w : World} (Φ : Nat → Value → World → Prop) (I : (Nat → Bool) → World → Prop) (Rl : Nat → World → World → Prop) (hm : P.follows .mixedOrders = true)
  (hB:(fwd (pre++tl).toArray&&oneEach (pre++tl).toArray&&chainB (pre++tl).toArray pre.length)=true)
  (hI0: ∀f k,(∀j,j<(pre++tl).length→f j=false)→I f {w with drawn:=k}) (hI: ∀i f w w',f i=false→I f w→Rl i w w'→I (fun j=>if j=i then true else f j) w') (hst: ∀i j v w w',i≠j→Rl i w w'→Φ j v w→Φ j v w')
  (H: ∀i o,pre[i]? =some o→∀f F w',f i=false→I f w'→Kn (pre++tl).toArray L Φ i F w'→WL P n (pre++tl).toArray (QR n F (dstOf (pre++tl).toArray i) fun v w''=>Rl i w' w''∧Φ i v w'') [o] F w')
  (hQ : ∀ f F w', I f w' → (∀ x v, lk L x = some v → ((List.range pre.length).all fun j => match dstOf (pre ++ tl).toArray j with | some d => !Nat.beq d x | none => true) = true → lk F x = some v) →
   (∀j d,j<pre.length→dstOf (pre++tl).toArray j=some d→∃v,lk F d=some v∧Φ j v w')→WL P n (pre++tl).toArray Q tl F w'):
  WK n ((Code.region id (pre++tl).toArray true).wp P Q) L w:=by
 simp only [Bool.and_eq_true] at hB
 obtain ⟨⟨hf,h1⟩,hT⟩:=hB
 have hsz:(pre++tl).toArray.size=pre.length+tl.length:=by simp
 intro a ha
 have key: ∀(fuel:Nat) (listed:Array Bool) (a:Act) (w':World),listed.toList.count false≤fuel→(∀j,pre.length≤j→j<(pre++tl).toArray.size→listed.getD j true=false)→DG n (pre++tl).toArray L I Φ listed a w'→wpAny P .any (pre++tl).toArray Q fuel listed a w':=by
  intro fuel
  have atEnd : ∀ (listed : Array Bool) (a : Act) (w' : World), DG n (pre ++ tl).toArray L I Φ listed a w' → (∀ j, j < pre.length → listed.getD j true = true) → (∀ j, pre.length ≤ j → j < (pre ++ tl).toArray.size → listed.getD j true = false) →
    wpList P (pre++tl).toArray Q tl a w':=by
   intro listed a w' hD hall hnot
   refine hQ _ (fullL a) w' hD.ext (fun x v hx hu=> ?_) (fun j d hj hd=> ?_) a (by have:=fr_full a hD.defers;rwa [hD.size] at this)
   ·rw [lk_full]
    refine hD.init x v hx fun j hj hd=> ?_
    rcases Nat.lt_or_ge j pre.length with hlt|hge
    ·simp only [List.all_eq_true, List.mem_range] at hu
     have:=hu j hlt
     rw [hd] at this
     have hxx:Nat.beq x x=true:=by simp
     simp at this
    ·exact hnot j hge hj
   ·rw [lk_full]
    exact hD.done j (by omega) (hall j hj) d hd
  have allIn : ∀ (listed : Array Bool) (a : Act) (w' : World) (fuel : Nat), DG n (pre ++ tl).toArray L I Φ listed a w' → (∀ j, j < pre.length → listed.getD j true = true) → (∀ j, pre.length ≤ j → j < (pre ++ tl).toArray.size → listed.getD j true = false) → listed.toList.count false ≤ fuel →
    wpAny P .any (pre++tl).toArray Q fuel listed a w':=by
   intro listed a w' fuel hD hall hnot hc
   refine tail_any (m:=pre.length) hf hT fuel pre.length listed a w' (Nat.le_refl _) (by simp) hD.lsz hall hnot hc ?_
   rw [List.drop_left]
   exact atEnd listed a w' hD hall hnot
  induction fuel with
  | zero =>
   intro listed a w' hc hnt hD
   have hr:=ready_of_count hD.lsz (by omega)
   have hall:=all_listed hD.lsz hf hr
   exact allIn listed a w' 0 hD (fun j hj=>hall j (by omega)) hnt hc
  | succ fuel ih =>
   intro listed a w' hc hnt hD
   by_cases hall: ∀j,j<pre.length→listed.getD j true=true
   ·exact allIn listed a w' (fuel+1) hD hall hnt hc
   ·refine ⟨fun hr => absurd (fun j hj => all_listed hD.lsz hf hr j (by omega)) hall, fun i hi => ?_⟩
    obtain ⟨h0,o,ho,he⟩:=edges_listed hi
    have hol:(pre++tl)[i]? =some o:=by simpa using ho
    have hil:i<pre.length+tl.length:=by rw [←hsz];exact (Array.getElem?_eq_some_iff.1 ho).1
    have hlt:i<pre.length:=by
     rcases Nat.lt_or_ge i pre.length with h|h
     ·exact h
     ·exfalso
      apply hall
      intro j hj
      have hT':=hT
      simp only [chainB,List.all_eq_true,List.mem_range,Bool.or_eq_true,decide_eq_true_eq] at hT'
      rcases hT' i (by omega) with h'|h'
      ·omega
      ·exact getD_true_of_false (DG.listedOf hD _ i j he (h' j (by omega)))
    have hop:pre[i]? =some o:=by rwa [List.getElem?_append_left hlt] at hol
    have hfr:=fr_full a hD.defers
    rw [hD.size] at hfr
    have hw:=H i o hop _ (fullL a) w' h0 hD.ext (hD.kn hi) a hfr
    have hnext : ∀ a' w'', QR n (fullL a) (dstOf (pre ++ tl).toArray i) (fun v w'' => Rl i w' w'' ∧ Φ i v w'') .normal a' w'' → wpAny P .any (pre ++ tl).toArray Q fuel (listed.setIfInBounds i true) a' w'' := fun a' w'' hq =>
     ih _ _ _ (by have:=count_step h0;omega) (fun j hj hjl=>by rw [getD_set _ _ _ _ (by rw [hD.lsz,hsz];exact hil),if_neg (by omega)];exact hnt j hj hjl) (hD.next hst hI h1 hi hq)
    unfold wpOp
    rw [ho]
    unfold wpList at hw
    simp only
    split
    ·rename_i hwn
     rw [if_pos hwn] at hw
     rcases hw with hw|⟨_,a1,w1,hx,_⟩
     ·exact .inl (Oper.wp_mono2 (fun a' w'' h=>hnext a' w'' h) (fun e a w hne h=>absurd h.1 hne) hw)
     ·cases hx
    ·rename_i hwn
     rw [if_neg hwn] at hw
     exact hnext _ _ hw
 have hdi:DG n (pre++tl).toArray L I Φ (Array.replicate (pre++tl).toArray.size false) a {w with drawn:=w.drawn+1}:=by
  refine ⟨by simp,ha.size,ha.defers,hI0 _ _ (fun j hj=>by rw [Array.getD_eq_getD_getElem?,Array.getElem?_replicate,if_pos (by simpa using hj)];rfl),fun j hj hl=> ?_,fun x v hx _=>ha.get x v hx,fun j hj hl=> ?_⟩
  ·rw [Array.getD_eq_getD_getElem?,Array.getElem?_replicate,if_pos hj] at hl;cases hl
  ·rw [Array.getD_eq_getD_getElem?,Array.getElem?_replicate,if_pos hj] at hl;cases hl
 refine wp_region_any hm (key _ _ _ _ (by simp) (fun j _ hj=> ?_) hdi)
 rw [Array.getD_eq_getD_getElem?,Array.getElem?_replicate,if_pos hj]
 rfl
end
end Go.Eng
namespace Go.Eng
open Go.RowKit
section
variable {P:Program} {n:Nat} {Q:Exit→Act→World→Prop} {L:List (Nat×Value)} {w:World}
def drawnB (pre tl:List Oper):Bool:=fwd (pre++tl).toArray&&oneEach (pre++tl).toArray&&chainB (pre++tl).toArray pre.length
def unwrittenPre (pre tl:List Oper) (x:Nat):Bool:=(List.range pre.length).all fun j=>match dstOf (pre++tl).toArray j with|some d=> !Nat.beq d x|none=>true
theorem wc_drawLT {id : Nat} (pre tl : List Oper) {l : List Oper} (Φ : List SP) (hl : l = pre ++ tl) (hm : P.follows .mixedOrders = true) (hB : drawnB pre tl = true)
  (H:AllOps (fun i o=> ∀F w',Ext w w'→Kn (pre++tl).toArray L (fun i=>(spAt Φ i).p) i F w'→WL P n (pre++tl).toArray (QR n F (dstOf (pre++tl).toArray i) fun v w''=>Ext w' w''∧(spAt Φ i).p v w'') [o] F w') 0 pre)
  (hQ: ∀F w',Ext w w'→(∀x v,lk L x=some v→unwrittenPre pre tl x=true→lk F x=some v)→(∀j d,j<pre.length→dstOf (pre++tl).toArray j=some d→∃v,lk F d=some v∧(spAt Φ j).p v w')→WL P n (pre++tl).toArray Q tl F w'):
  WK n ((Code.region id l.toArray true).wp P Q) L w:=by
 subst hl
 exact wc_drawG (fun i => (spAt Φ i).p) (fun _ w' => Ext w w') (fun _ => Ext) hm hB (fun _ _ _ => ⟨rfl, rfl, rfl, Nat.le_refl _, fun _ _ _ => rfl⟩) (fun _ _ _ _ _ h k => h.trans k) (fun _ j v w w' _ ch h => (spAt Φ j).st v w w' ch h)
  (fun i o ho _ F w' _ hE hk=>by have:=H.at_ i o ho;rw [Nat.zero_add] at this;exact this F w' hE hk) (fun _=>hQ)
def AllSt (M : Nat → Prop) (e : Nat) : Nat → List SP → Prop
 |_, []=>True
 |k,s::t=>(k=e∨∀v w w',Chg M w w'→s.p v w→s.p v w')∧AllSt M e (k+1) t
theorem AllSt.at_ {M : Nat → Prop} {e : Nat} : ∀ {Φ : List SP} {k : Nat}, AllSt M e k Φ → ∀ i, k + i ≠ e → ∀ v w w', Chg M w w' → (spAt Φ i).p v w → (spAt Φ i).p v w'
 | [],k,_,i,_,v,w,w',_,h=>by simp [spAt,SP.any] at h⊢
 | s :: t, k, hh, 0, hne, v, w, w', ch, h => by
  rcases hh.1 with e'|e'
  ·exact absurd e' (by simpa using hne)
  ·exact e' v w w' ch h
 | s :: t, k, hh, i + 1, hne, v, w, w', ch, h => by
  have:=AllSt.at_ hh.2 i (by omega) v w w' ch
  simp only [spAt,List.getElem?_cons_succ] at this h⊢
  exact this h
theorem wc_drawLM {id : Nat} (pre tl : List Oper) {l : List Oper} (M : Nat → Prop) (e : Nat) (Φ : List SP) (hl : l = pre ++ tl) (hm : P.follows .mixedOrders = true) (hB : drawnB pre tl = true) (hS : AllSt M e 0 Φ)
  (H:AllOps (fun i o=> ∀F w',Chg M w w'→(i=e→Ext w w')→Kn (pre++tl).toArray L (fun i=>(spAt Φ i).p) i F w'→WL P n (pre++tl).toArray (QR n F (dstOf (pre++tl).toArray i) fun v w''=>(if i=e then Chg M w' w'' else Ext w' w'')∧(spAt Φ i).p v w'') [o] F w') 0 pre)
  (hQ: ∀F w',Chg M w w'→(∀x v,lk L x=some v→unwrittenPre pre tl x=true→lk F x=some v)→(∀j d,j<pre.length→dstOf (pre++tl).toArray j=some d→∃v,lk F d=some v∧(spAt Φ j).p v w')→WL P n (pre++tl).toArray Q tl F w'):
  WK n ((Code.region id l.toArray true).wp P Q) L w:=by
 subst hl
 refine wc_drawG (fun i => (spAt Φ i).p) (fun f w' => Chg M w w' ∧ (f e = false → Ext w w')) (fun i w' w'' => if i = e then Chg M w' w'' else Ext w' w'') hm hB (fun _ _ _ => ⟨⟨rfl, rfl, rfl, Nat.le_refl _, fun _ _ _ => rfl⟩, fun _ => ⟨rfl, rfl, rfl, Nat.le_refl _, fun _ _ _ => rfl⟩⟩) (fun i f _ _ hf h k => ?_) (fun i j v w1 w2 hij k h => ?_)
  (fun i o ho f F w' hf hE hk=>by have:=H.at_ i o ho;rw [Nat.zero_add] at this;exact this F w' hE.1 (fun e'=>hE.2 (by rw [←e'];exact hf)) hk) (fun _ F w' hE=>hQ F w' hE.1)
 ·split at k
  ·rename_i hie
   exact ⟨h.1.step k (fun _ _ x=>x),fun hf'=>by simp [hie] at hf'⟩
  ·rename_i hie
   refine ⟨h.1.step k (fun _ _ x=>x.elim),fun hf'=> ?_⟩
   have hf2:f e=false:=by simpa [Ne.symm hie] using hf'
   exact (h.2 hf2).trans k
 ·split at k
  ·rename_i hie
   exact hS.at_ j (by omega) v w1 w2 k h
  ·exact (spAt Φ j).st v w1 w2 k h
end
end Go.Eng
namespace Go.Eng
open Go.RowKit
section
variable {P:Program} {n:Nat} {Q:Exit→Act→World→Prop} {L:List (Nat×Value)} {w:World}
theorem wl_drop {ops:Array Oper} {rest:List Oper} (L':List (Nat×Value)) (hs:subL L' L) (h:WL P n ops Q rest L' w):WL P n ops Q rest L w:=fun a ha=>h a (ha.sub hs)
theorem wc_drawTL {id : Nat} (m : Nat) {l : List Oper} (Φ : List SP) (hm : P.follows .mixedOrders = true) (hB : drawnB (l.take m) (l.drop m) = true)
  (H:AllOps (fun i o=> ∀F w',Ext w w'→Kn l.toArray L (fun i=>(spAt Φ i).p) i F w'→WL P n l.toArray (QR n F (dstOf l.toArray i) fun v w''=>Ext w' w''∧(spAt Φ i).p v w'') [o] F w') 0 (l.take m))
  (hQ : ∀ F w', Ext w w' → (∀ x v, lk L x = some v → ((List.range (l.take m).length).all fun j => match dstOf l.toArray j with | some d => !Nat.beq d x | none => true) = true → lk F x = some v) →
   (∀j d,j<(l.take m).length→dstOf l.toArray j=some d→∃v,lk F d=some v∧(spAt Φ j).p v w')→WL P n l.toArray Q (l.drop m) F w'):
  WK n ((Code.region id l.toArray true).wp P Q) L w:=by
 have e:l.take m++l.drop m=l:=List.take_append_drop m l
 refine wc_drawLT (l.take m) (l.drop m) Φ e.symm hm hB ?_ ?_
 ·rw [e];exact H
 ·rw [e]
  intro F w' h1 h2 h3
  exact hQ F w' h1 (fun x v hx hu=>h2 x v hx (by unfold unwrittenPre;rw [e];exact hu)) h3
end
def SP.nb (lo e : Nat) (cs : List Value) : SP := ⟨fun v w => ∃ g, v = .pointer (some ⟨g, 0, none⟩) ∧ lo ≤ g ∧ w.heap[g]? = some (.cells cs.toArray e (0, 0)), by
 rintro _ w w' ch ⟨g,rfl,h1,h2⟩
 exact ⟨g,rfl,h1,(ch.block g (Array.getElem?_eq_some_iff.1 h2).1 (fun x=>x)).trans h2⟩⟩
end Go.Eng
namespace Go.Eng
open Go.RowKit
section
variable {P:Program} {n:Nat} {Q:Exit→Act→World→Prop} {L:List (Nat×Value)} {w w0 w':World} {M0 Fz:Nat→Prop} {H:List It}
theorem HP.apart (h : HP w0 M0 Fz w H) {i : Nat} {x : It} (hi : H[i]? = some x) : ∃ K, x.R w K ∧ (∀ b, K b → ¬ Fz b) ∧ (∀ b, K b → b < w.heap.size) ∧ (∀ w', Chg K w w' → HP w0 M0 Fz w' (H.eraseIdx i)) ∧
  (∀(w':World) (x':It) (K':Nat→Prop),Chg K w w'→x'.R w' K'→(∀b,K' b→K b∨w.heap.size≤b)→HP w0 M0 Fz w' (H.set i x')):=by
 obtain ⟨K,h1,h2,h3⟩:=h.focus hi
 have hil:i<H.length:=(List.getElem?_eq_some_iff.1 hi).1
 refine ⟨K,h1,h2,fun b hb=>x.lt h1 b hb,fun w' hch=> ?_,fun w' x' K' a b c=>(h3 w' x' K' a b c).1⟩
 
 have hh:=(h3 w' ⟨fun _ K'=> ∀b,¬K' b,fun _ h=>h,fun h b hb=>absurd hb (h b)⟩ (fun _=>False) hch (fun _ h=>h) (fun _ h=>h.elim)).1
 obtain ⟨Ks,e1,e2,e3⟩:=hh.ex
 have hlen:(H.set i ⟨fun _ K'=> ∀b,¬K' b,fun _ h=>h,fun h b hb=>absurd hb (h b)⟩).length=H.length:=List.length_set
 have up: ∀j,j<(H.eraseIdx i).length→(if j<i then j else j+1)<H.length:=by
  intro j hj
  rw [List.length_eraseIdx,if_pos hil] at hj
  split<;>omega
 refine ⟨hh.chg,hh.fz,fun j=>Ks (if j<i then j else j+1),fun j y hj=> ?_,fun j hj=> ?_,fun j k hj hk hne=> ?_⟩
 ·refine e1 _ y ?_
  rw [List.getElem?_eraseIdx] at hj
  split
  ·rename_i hlt
   rw [if_pos hlt] at hj
   rw [List.getElem?_set_ne (by omega)]
   exact hj
  ·rename_i hlt
   rw [if_neg hlt] at hj
   rw [List.getElem?_set_ne (by omega)]
   exact hj
 ·exact e2 _ (by rw [hlen];exact up j hj)
 ·exact e3 _ _ (by rw [hlen];exact up j hj) (by rw [hlen];exact up k hk) (by split<;>split<;>omega)
theorem wc_drawTM {id : Nat} (m e : Nat) (M : Nat → Prop) {l : List Oper} (Φ : List SP) (hm : P.follows .mixedOrders = true) (hB : drawnB (l.take m) (l.drop m) = true) (hS : AllSt M e 0 Φ)
  (H:AllOps (fun i o=> ∀F w',Chg M w w'→(i=e→Ext w w')→Kn l.toArray L (fun i=>(spAt Φ i).p) i F w'→WL P n l.toArray (QR n F (dstOf l.toArray i) fun v w''=>(if i=e then Chg M w' w'' else Ext w' w'')∧(spAt Φ i).p v w'') [o] F w') 0 (l.take m))
  (hQ : ∀ F w', Chg M w w' → (∀ x v, lk L x = some v → ((List.range (l.take m).length).all fun j => match dstOf l.toArray j with | some d => !Nat.beq d x | none => true) = true → lk F x = some v) →
   (∀j d,j<(l.take m).length→dstOf l.toArray j=some d→∃v,lk F d=some v∧(spAt Φ j).p v w')→WL P n l.toArray Q (l.drop m) F w'):
  WK n ((Code.region id l.toArray true).wp P Q) L w:=by
 have e0:l.take m++l.drop m=l:=List.take_append_drop m l
 refine wc_drawLM (l.take m) (l.drop m) M e Φ e0.symm hm hB hS ?_ ?_
 ·rw [e0];exact H
 ·rw [e0]
  intro F w' h1 h2 h3
  exact hQ F w' h1 (fun x v hx hu=>h2 x v hx (by unfold unwrittenPre;rw [e0];exact hu)) h3
end
def SP.tmpR (lo e size k : Nat) (xs : List Value) : SP := ⟨fun v w => ∃ g, v = .slice (some ⟨g, 0, none⟩) k k ∧ lo ≤ g ∧ OwnRow e size 0 w (some ⟨g, 0, none⟩) k k xs, by
 rintro _ w w' ch ⟨g,rfl,h1,h2⟩
 exact ⟨g,rfl,h1,h2.ext ch⟩⟩
theorem SP.tmpR_st {lo e size k:Nat} {xs:List Value} {K:Nat→Prop} (hK: ∀b,K b→b<lo): ∀v w w',Chg K w w'→(SP.tmpR lo e size k xs).p v w→(SP.tmpR lo e size k xs).p v w':=by
 rintro _ w w' ch ⟨g,rfl,h1,h2⟩
 exact ⟨g,rfl,h1,h2.keep ch (fun b _ _ ⟨a,ha,hb⟩ hk=>by cases ha;subst hb;have:=hK _ hk;exact absurd h1 (Nat.not_le.2 this))⟩
def SP.turn (K : Nat → Prop) (lo e size k : Nat) (xs : List Value) : SP := ⟨fun v w => ∃ A c, v = .slice A k c ∧ OwnRow e size 0 w A k c xs ∧ ∀ b, c ≠ 0 ∧ blk A b → K b ∨ lo ≤ b, by
 rintro _ w w' ch ⟨A,c,rfl,h1,h2⟩
 exact ⟨A,c,rfl,h1.ext ch,h2⟩⟩
end Go.Eng
namespace Go.Eng
open Go.RowKit Go.Maps
def fitC : Option IntKind → Value → Bool
 |none, .bool _=>true
 |some q, .int q' n=>q'==q&&(Lit.int q n).wf
 |_,_=>false
def FitK (ks:List (Option IntKind)) (cs:List Value):Prop:=ks.length=cs.length∧∀(i:Nat) k v,ks[i]? =some k→cs[i]? =some v→fitC k v=true
def kindsOf (P : Program) : Nat → TypeId → Option (List (Option IntKind))
 |0,_=>none
 | m + 1, t => match P.underlying t with
  |some .bool=>if P.cellsOf t=1 then some [none] else none
  |some (.int q)=>if P.cellsOf t=1 then some [some q] else none
  | some (.array n e) => match kindsOf P m e with
   |some s=>if P.cellsOf t=n*P.cellsOf e then some (List.replicate n s).flatten else none
   |none=>none
  | some (.struct fs) => match fs.toList.mapM (fun f => kindsOf P m f.type) with
   |some ss=>if P.runs 0 fs.toList=some (P.cellsOf t)∧fs.all (·.name != "_")=true then some ss.flatten else none
   |none=>none
  |_=>none
theorem mapM_ex {α β : Type} {f : α → Option β} : ∀ {l : List α}, (∀ x ∈ l, ∃ y, f x = some y) → ∃ ys, l.mapM f = some ys
 | [],_=>⟨[],rfl⟩
 | x :: t, h => by
  obtain ⟨y,hy⟩:=h x (by simp)
  obtain ⟨ys,hys⟩:=mapM_ex (l:=t) (fun z hz=>h z (by simp [hz]))
  exact ⟨y::ys,by simp [List.mapM_cons,hy,hys]⟩
theorem flat_rep {α : Type} (s : List α) : ∀ (n i j : Nat), i < n → j < s.length → (List.replicate n s).flatten[i * s.length + j]? = s[j]?
 |0,i,j,hi,_=>by omega
 | n + 1, i, j, hi, hj => by
  rw [List.replicate_succ,List.flatten_cons]
  cases i with
  |zero=>rw [Nat.zero_mul,Nat.zero_add,List.getElem?_append_left hj]
  | succ i =>
   rw [List.getElem?_append_right (by rw [Nat.succ_mul];omega),show (i+1)*s.length+j-s.length=i*s.length+j by rw [Nat.succ_mul];omega]
   exact flat_rep s n i j (by omega) hj
theorem FitK.sub {ks s:List (Option IntKind)} {cs:List Value} (h:FitK ks cs) (o:Nat) (ho:o+s.length≤cs.length) (hs: ∀j,j<s.length→ks[o+j]? =s[j]?):FitK s ((cs.drop o).take s.length):=by
 refine ⟨by rw [List.length_take,List.length_drop];omega,fun i k v hk hv=> ?_⟩
 have hi:i<s.length:=(List.getElem?_eq_some_iff.1 hk).1
 rw [List.getElem?_take,if_pos hi,List.getElem?_drop] at hv
 exact h.2 (o+i) k v (by rw [hs i hi];exact hk) hv
section
variable {P:Program}
theorem runs_flat : ∀ (fs : List Field) (ss : List (List (Option IntKind))) (off tot : Nat) (K : Field → Option (List (Option IntKind))), fs.mapM K = some ss → (∀ f ∈ fs, ∀ s, K f = some s → s.length = P.cellsOf f.type) → P.runs off fs = some tot →
  off+ss.flatten.length=tot∧∀f∈fs,∀s,K f=some s→off≤f.offset∧f.offset+s.length≤tot∧∀j,j<s.length→ss.flatten[f.offset-off+j]? =s[j]?
 | [], ss, off, tot, K, hm, _, hr => by
  simp at hm
  subst hm
  simp [Program.runs] at hr
  simp [hr]
 | f :: fs, ss, off, tot, K, hm, hl, hr => by
  rw [List.mapM_cons] at hm
  cases hk:K f with
  |none=>rw [hk] at hm;simp at hm
  | some s0 =>
   cases hk2:fs.mapM K with
   |none=>rw [hk,hk2] at hm;simp at hm
   | some ss' =>
    rw [hk,hk2] at hm
    simp at hm
    subst hm
    have hs0:=hl f (by simp) s0 hk
    unfold Program.runs at hr
    split at hr
    ·rename_i ho
     have hof:f.offset=off:=by simpa using ho
     obtain ⟨h1,h2⟩:=runs_flat fs ss' (off+P.cellsOf f.type) tot K hk2 (fun g hg=>hl g (by simp [hg])) hr
     refine ⟨by rw [List.flatten_cons,List.length_append,hs0];omega,fun g hg s hs=> ?_⟩
     rcases List.mem_cons.1 hg with rfl|hg
     ·rw [hk] at hs
      obtain rfl:=Option.some.inj hs
      refine ⟨by omega,by rw [hs0];omega,fun j hj=> ?_⟩
      rw [hof,Nat.sub_self,Nat.zero_add,List.flatten_cons,List.getElem?_append_left hj]
     ·obtain ⟨h3, h4, h5⟩ := h2 g hg s hs
      refine ⟨by omega,h4,fun j hj=> ?_⟩
      rw [List.flatten_cons,List.getElem?_append_right (by omega),←h5 j hj]
      congr 1
      omega
    ·cases hr
theorem lits_of : ∀ (m t : Nat) (ks : List (Option IntKind)), kindsOf P m t = some ks → ks.length = P.cellsOf t ∧ ∀ D, m ≤ D → ∀ cs, FitK ks cs → ∃ l, P.keyLits D t cs = some l
 |0,t,ks,h=>by simp [kindsOf] at h
 | m + 1, t, ks, h => by
  unfold kindsOf at h
  split at h
  ·rename_i hu
   split at h
   ·rename_i hc
    obtain rfl:=Option.some.inj h
    refine ⟨hc.symm,fun D hD cs hf=> ?_⟩
    obtain ⟨D,rfl⟩: ∃d,D=d+1:=⟨D-1,by omega⟩
    obtain ⟨v,rfl⟩:=List.length_eq_one_iff.1 hf.1.symm
    have:=hf.2 0 none v rfl rfl
    cases v<;>simp [fitC] at this
    exact ⟨_,by simp [Program.keyLits,hu];rfl⟩
   ·cases h
  ·rename_i q hu
   split at h
   ·rename_i hc
    obtain rfl:=Option.some.inj h
    refine ⟨hc.symm,fun D hD cs hf=> ?_⟩
    obtain ⟨D,rfl⟩: ∃d,D=d+1:=⟨D-1,by omega⟩
    obtain ⟨v,rfl⟩:=List.length_eq_one_iff.1 hf.1.symm
    have:=hf.2 0 (some q) v rfl rfl
    cases v<;>simp [fitC] at this
    exact ⟨_,by simp [Program.keyLits,hu,this];rfl⟩
   ·cases h
  ·rename_i n e hu
   split at h
   ·rename_i s hs
    split at h
    ·rename_i hc
     obtain rfl:=Option.some.inj h
     obtain ⟨hl,ih⟩:=lits_of m e s hs
     have hlen:(List.replicate n s).flatten.length=P.cellsOf t:=by rw [hc,←hl];simp
     refine ⟨hlen,fun D hD cs hf=> ?_⟩
     obtain ⟨D,rfl⟩: ∃d,D=d+1:=⟨D-1,by omega⟩
     have hcl:cs.length=P.cellsOf t:=by rw [←hf.1,hlen]
     have hex: ∀i∈List.range n,∃l,P.keyLits D e ((cs.drop (i*P.cellsOf e)).take (P.cellsOf e))=some l:=by
      intro i hi
      have hi':i<n:=List.mem_range.1 hi
      have hb:i*P.cellsOf e+P.cellsOf e≤n*P.cellsOf e:=by rw [←Nat.succ_mul];exact Nat.mul_le_mul_right _ hi'
      refine ih D (by omega) _ ?_
      have:=hf.sub (s:=s) (i*P.cellsOf e) (by rw [hl];omega) (fun j hj=>by rw [←hl];exact flat_rep s n i j hi' hj)
      rwa [hl] at this
     obtain ⟨ys,hys⟩:=mapM_ex hex
     exact ⟨ys.flatten,by unfold Program.keyLits;simp only [hu];rw [if_pos hcl,hys];rfl⟩
    ·cases h
   ·cases h
  ·rename_i fs hu
   split at h
   ·rename_i ss hss
    split at h
    ·rename_i hc
     obtain rfl:=Option.some.inj h
     have hll: ∀f∈fs.toList,∀s,kindsOf P m f.type=some s→s.length=P.cellsOf f.type:=fun f _ s hs=>(lits_of m f.type s hs).1
     obtain ⟨h1,h2⟩:=runs_flat fs.toList ss 0 (P.cellsOf t) (fun f=>kindsOf P m f.type) hss hll hc.1
     refine ⟨by omega,fun D hD cs hf=> ?_⟩
     obtain ⟨D,rfl⟩: ∃d,D=d+1:=⟨D-1,by omega⟩
     have hcl:cs.length=P.cellsOf t:=by rw [←hf.1];omega
     have hex: ∀f∈fs.toList,∃l,P.keyLits D f.type ((cs.drop f.offset).take (P.cellsOf f.type))=some l:=by
      intro f hfm
      obtain ⟨s,hs⟩: ∃s,kindsOf P m f.type=some s:=by
       cases hk:kindsOf P m f.type with
       |some s=>exact ⟨s,rfl⟩
       | none =>
        exfalso
        obtain ⟨i,hi,rfl⟩:=List.mem_iff_getElem.1 hfm
        have : ∀ (l : List Field), (∃ x ∈ l, kindsOf P m x.type = none) → l.mapM (fun f => kindsOf P m f.type) = none := by
         intro l
         induction l with
         |nil=>rintro ⟨_,h,_⟩;simp at h
         | cons x t iht =>
          rintro ⟨y,hy,hn⟩
          rw [List.mapM_cons]
          rcases List.mem_cons.1 hy with rfl|hy
          ·rw [hn];rfl
          ·cases hkx : kindsOf P m x.type with
           |none=>rfl
           |some _=>rw [iht ⟨y,hy,hn⟩];rfl
        rw [this fs.toList ⟨_,hfm,hk⟩] at hss
        cases hss
      obtain ⟨hl,ih⟩:=lits_of m f.type s hs
      obtain ⟨_,h4,h5⟩:=h2 f hfm s hs
      refine ih D (by omega) _ ?_
      have:=hf.sub (s:=s) f.offset (by omega) (fun j hj=>by have:=h5 j hj;rwa [Nat.sub_zero] at this)
      rwa [hl] at this
     obtain ⟨ys,hys⟩:=mapM_ex hex
     exact ⟨ys.flatten,by unfold Program.keyLits;simp only [hu];rw [if_pos ⟨hcl,hc.2⟩,hys];rfl⟩
    ·cases h
   ·cases h
  ·cases h
theorem FitK.nil:FitK [] []:=⟨rfl,fun i k v h=>by simp at h⟩
theorem FitK.cons {k:Option IntKind} {v:Value} {ks:List (Option IntKind)} {cs:List Value} (h:fitC k v=true) (t:FitK ks cs):FitK (k::ks) (v::cs):=by
 refine ⟨by simp [t.1],fun i k' v' hk hv=> ?_⟩
 cases i with
 |zero=>simp at hk hv;subst hk;subst hv;exact h
 |succ i=>exact t.2 i k' v' (by simpa using hk) (by simpa using hv)
theorem FitK.append {ks ks':List (Option IntKind)} {cs cs':List Value} (h:FitK ks cs) (t:FitK ks' cs'):FitK (ks++ks') (cs++cs'):=by
 refine ⟨by simp [h.1,t.1],fun i k v hk hv=> ?_⟩
 by_cases hi:i<ks.length
 ·rw [List.getElem?_append_left hi] at hk
  rw [List.getElem?_append_left (by rw [←h.1];exact hi)] at hv
  exact h.2 i k v hk hv
 ·rw [List.getElem?_append_right (by omega)] at hk
  rw [List.getElem?_append_right (by rw [←h.1];omega),←h.1] at hv
  exact t.2 _ k v hk hv
theorem fit_int {a:Int} (h1: -9223372036854775808≤a) (h2:a≤9223372036854775807):fitC (some .i64) (.int .i64 a)=true:=by
 simp [fitC,Lit.wf,IntKind.min,IntKind.max,IntKind.signed,IntKind.bits]
 omega
theorem fit_byte (b:UInt8):fitC (some .u8) (.int .u8 (b.toNat:Int))=true:=by
 have:=b.toNat_lt
 simp [fitC,Lit.wf,IntKind.min,IntKind.max,IntKind.signed,IntKind.bits]
 omega
def keyB (P:Program) (m t:Nat) (ks:List (Option IntKind)):Bool:=
 kindsOf P m t==some ks&&P.keyTypeAt m t&&P.tiled m t&&P.keyType t&&decide (m≤P.types.size+1)&&decide (m+1≤10000)&&(match P.underlying t with|some (.array _ _)|some (.struct _)=>true|_=>false)
theorem keyB_out {m t:Nat} {ks:List (Option IntKind)} (h:keyB P m t ks=true):kindsOf P m t=some ks∧P.keyTypeAt m t=true∧P.tiled m t=true∧P.keyType t=true∧m≤P.types.size+1∧m+1≤10000∧(match P.underlying t with|some (.array _ _)|some (.struct _)=>true|_=>false)=true:=by
 simp only [keyB,Bool.and_eq_true,beq_iff_eq,decide_eq_true_eq] at h
 obtain ⟨⟨⟨⟨⟨⟨h1,h2⟩,h3⟩,h4⟩,h5⟩,h6⟩,h7⟩:=h
 exact ⟨h1,h2,h3,h4,h5,h6,h7⟩
theorem keyed_of {m t:Nat} {ks:List (Option IntKind)} (h:keyB P m t ks=true):Keyed P t:=by
 obtain ⟨_,h2,h3,_,_,h6,h7⟩:=keyB_out h
 exact Keyed.of_law (deep_law h6 h2 h3 h7)
theorem keyOf_of {m t:Nat} {ks:List (Option IntKind)} (h:keyB P m t ks=true) {cs:List Value} (hf:FitK ks cs): ∃l,keyOf P t (.agg cs.toArray)=some l:=by
 obtain ⟨h1,h2,h3,h4,h5,h6,h7⟩:=keyB_out h
 obtain ⟨hl,ih⟩:=lits_of m t ks h1
 obtain ⟨l,hll⟩:=ih (P.types.size+1) h5 cs hf
 have hfm:(Value.agg cs.toArray).formed P t=true:=by
  unfold Value.formed
  split at h7<;>simp_all [hf.1.symm]
 unfold keyOf
 split at h7
 ·rename_i hu
  simp only [hu]
  rw [if_pos (by rw [h4,hfm];rfl)]
  simp [Value.cells,hll]
 ·rename_i hu
  simp only [hu]
  rw [if_pos (by rw [h4,hfm];rfl)]
  simp [Value.cells,hll]
 ·cases h7
end
section
variable {P:Program} {n:Nat} {L:List (Nat×Value)} {w w':World} {Q:Exit→Act→World→Prop} {ops:Array Oper} {rest:List Oper} {ty:TypeId} {pos:String} {af:Array Edge} {d:Nat}
theorem wl_eqlK {m t u : Nat} {ks : List (Option IntKind)} {x y : Operand} {xs ys : List Value} (p : Prop) [Decidable p] (hd : d < n) (hB : keyB P m t ks = true) (hG : P.eqGuardType P.depth t = false) (hx : ev L x = some (.agg xs.toArray)) (hy : ev L y = some (.agg ys.toArray))
  (fx:FitK ks xs) (fy:FitK ks ys) (hp:p↔xs=ys) (h:WL P n ops Q rest ((d, .bool (decide p))::L) w):
  WL P n ops Q ({dst:=some d,op:= .binOp .eql t x y u,type:=ty,pos:=pos,after:=af,guard:=none}::rest) L w:=by
 refine wl_run hd (fun a ha=> ?_) h
 obtain ⟨lx,hlx⟩:=keyOf_of hB fx
 obtain ⟨ly,hly⟩:=keyOf_of hB fy
 obtain ⟨_,h2,h3,_,_,h6,h7⟩:=keyB_out hB
 obtain ⟨r,hr,hiff⟩:=run_equal_deep w (by omega) h2 h7 hlx hly
 have hpr:r=decide p:=by
  have:r=true↔p:=by
   rw [hiff,hp]
   constructor
   ·intro e
    subst e
    have:=(keyed_of hB).inj hlx hly
    injection this with this
    exact congrArg Array.toList this
   ·intro e
    subst e
    rw [hlx] at hly
    exact Option.some.inj hly
  cases r<;>by_cases hpp:p<;>simp_all
 simp [execOp,ha.eval hx,ha.eval hy,eqGuard,binOp,program,Sem.run,hG,hr,hpr]
theorem wl_neqK {m t u : Nat} {ks : List (Option IntKind)} {x y : Operand} {xs ys : List Value} (p : Prop) [Decidable p] (hd : d < n) (hB : keyB P m t ks = true) (hG : P.eqGuardType P.depth t = false) (hx : ev L x = some (.agg xs.toArray)) (hy : ev L y = some (.agg ys.toArray))
  (fx:FitK ks xs) (fy:FitK ks ys) (hp:p↔xs=ys) (h:WL P n ops Q rest ((d, .bool (decide (¬p)))::L) w):
  WL P n ops Q ({dst:=some d,op:= .binOp .neq t x y u,type:=ty,pos:=pos,after:=af,guard:=none}::rest) L w:=by
 refine wl_run hd (fun a ha=> ?_) h
 obtain ⟨lx,hlx⟩:=keyOf_of hB fx
 obtain ⟨ly,hly⟩:=keyOf_of hB fy
 obtain ⟨_,h2,h3,_,_,h6,h7⟩:=keyB_out hB
 obtain ⟨r,hr,hiff⟩:=run_equal_deep w (by omega) h2 h7 hlx hly
 have hpr:r=decide p:=by
  have:r=true↔p:=by
   rw [hiff,hp]
   constructor
   ·intro e
    subst e
    have:=(keyed_of hB).inj hlx hly
    injection this with this
    exact congrArg Array.toList this
   ·intro e
    subst e
    rw [hlx] at hly
    exact Option.some.inj hly
  cases r<;>by_cases hpp:p<;>simp_all
 simp [execOp,ha.eval hx,ha.eval hy,eqGuard,binOp,program,Sem.run,hG,hr,hpr]
end
end Go.Eng
namespace Go.Eng
open Go.RowKit
def strV (l:List UInt8):Value:= .string ⟨l.toArray⟩
section
variable {P:Program} {n:Nat} {L:List (Nat×Value)} {w w':World} {Q:Exit→Act→World→Prop} {ops:Array Oper} {rest:List Oper} {ty:TypeId} {pos:String} {af:Array Edge} {d:Nat}
theorem wl_b2s {src dst e c : Nat} {A : Option Addr} {l : List UInt8} {S : Nat → Prop} {x : Operand} (hd : d < n) (hs : P.underlying src = some (.slice e)) (he : P.underlying e = some (.int .u8)) (ht : P.underlying dst = some .string)
  (hx:ev L x=some (.slice A l.length c)) (g:BS S w A c l) (h:WL P n ops Q rest ((d,strV l)::L) w):
  WL P n ops Q ({dst:=some d,op:= .convert src dst x,type:=ty,pos:=pos,after:=af,guard:=none}::rest) L w:=by
 refine wl_run hd (fun a ha=> ?_) h
 have hr:(convert src dst (.slice A l.length c)).run P w= .ok (strV l) w:=by
  rcases A with _|p
  ·obtain rfl := g.empty rfl
   rw [run_convert_bytes_string w src dst e none _ c hs he ht]
   simp [Conv.bytesToString,strV]
   rfl
  ·refine run_convert_bytes_back w src dst e p c l hs he ht (fun j hj => ?_)
   obtain ⟨a',cs,hA,_,_,hat,hrd⟩:=g.rd j hj
   cases hA
   cases hrd
   have:=hat.head
   simpa [byteR,oneR] using this
 simp [execOp,ha.eval hx,hr]
theorem wl_eqls {t u : TypeId} {x y : Operand} {a b : List UInt8} (hd : d < n) (hx : ev L x = some (strV a)) (hy : ev L y = some (strV b)) (h : WL P n ops Q rest ((d, .bool (decide (a = b))) :: L) w) :
  WL P n ops Q ({dst:=some d,op:= .binOp .eql t x y u,type:=ty,pos:=pos,after:=af,guard:=none}::rest) L w:=by
 refine wl_run hd (fun c hc=> ?_) h
 have e:(a==b)=decide (a=b):=by
  by_cases h:a=b<;>simp [h]
 simp [execOp,hc.eval hx,hc.eval hy,eqGuard,binOp,Op.stringOp,strV,e]
end
end Go.Eng
namespace Go.Eng
def digF : Nat → Nat → List UInt8
 |0,_=> []
 |f+1,n=>if n=0 then [] else digF f (n/256)++ [UInt8.ofNat n]
def digs (n:Nat):List UInt8:=digF 8 n
def valD (l:List UInt8):Nat:=l.foldl (fun a c=>a*256+c.toNat) 0
def numL (n:Nat):List UInt8:=UInt8.ofNat (digs n).length::digs n
def numS (n:Int):List UInt8×Int:=if n<0∨9007199254740991<n then ([],9) else (numL n.toNat,0)
def takeS : List UInt8 → Int × List UInt8 × Int
 | []=>(0, [],3)
 | m :: t =>
  if 7<m.toNat then (0, [],4)
  else if t.length<m.toNat then (0, [],3)
  else if 0<m.toNat∧t.headD 1=0 then (0, [],4)
  else if 9007199254740991<valD (t.take m.toNat) then (0, [],9)
  else ((valD (t.take m.toNat):Int),t.drop m.toNat,0)
def fixS (b:List UInt8) (n:Int):List UInt8×List UInt8×Int:=
 if n<0 then ([], [],2) else if (b.length:Int)<n then ([], [],3) else (b.take n.toNat,b.drop n.toNat,0)
def takeStrS (b:List UInt8) (most:Int):List UInt8×List UInt8×Int:=
 if most<0 then ([], [],2)
 else if (takeS b).2.2≠0 then ([], [],(takeS b).2.2)
 else if most<(takeS b).1∨65536<(takeS b).1 then ([], [],5)
 else fixS (takeS b).2.1 (takeS b).1
def strS (b:List UInt8):List UInt8×Int:=if 65536<b.length then ([],5) else (numL b.length++b,0)
theorem pow256 (m:Nat):256^m=2^(8*m):=by rw [Nat.pow_mul]
theorem digF_zero (f:Nat):digF f 0= []:=by cases f<;>simp [digF]
theorem digF_len : ∀ (f n m : Nat), m ≤ f → 256 ^ m ≤ n → m < (digF f n).length ∨ f ≤ (digF f n).length
 |0,n,m,hm,h=>by right;omega
 | f + 1, n, m, hm, h => by
  have hn:n≠0:=by have:0<256^m:=Nat.pow_pos (by omega);omega
  unfold digF
  rw [if_neg hn]
  cases m with
  |zero=>left;simp
  | succ m =>
   have:=digF_len f (n/256) m (by omega) (by rw [Nat.pow_succ] at h;omega)
   simp
   omega
theorem digF_len_up : ∀ (f n m : Nat), n < 256 ^ m → (digF f n).length ≤ m
 |0,n,m,h=>by simp [digF]
 | f + 1, n, m, h => by
  unfold digF
  split
  ·simp
  ·rename_i hn
   cases m with
   |zero=>simp at h;omega
   | succ m =>
    have:=digF_len_up f (n/256) m (by rw [Nat.pow_succ] at h;omega)
    simp;omega
theorem valD_app (l:List UInt8) (c:UInt8):valD (l++ [c])=valD l*256+c.toNat:=by simp [valD]
theorem valD_lt (l:List UInt8):valD l<256^l.length:=by
 have key: ∀(k:Nat) (l:List UInt8),l.length=k→valD l<256^k:=by
  intro k
  induction k with
  |zero=>intro l hl;have:l= []:=List.eq_nil_of_length_eq_zero hl;subst this;simp [valD]
  | succ k ih =>
   intro l hl
   rcases List.eq_nil_or_concat l with rfl|⟨t,c,rfl⟩
   ·simp at hl
   ·rw [List.concat_eq_append] at *
    have:=ih t (by simpa using hl)
    rw [valD_app,Nat.pow_succ]
    have:=c.toNat_lt
    omega
 exact key _ l rfl
theorem valD_digF : ∀ (f n : Nat), n < 256 ^ f → valD (digF f n) = n
 |0,n,h=>by simp [valD,digF];simp at h;omega
 | f + 1, n, h => by
  unfold digF
  split
  ·rename_i hn;simp [valD,hn]
  ·rw [valD_app, valD_digF f (n / 256) (by rw [Nat.pow_succ] at h; omega)]
   simp only [UInt8.toNat_ofNat']
   omega
theorem valD_digs (n:Nat) (h:n<256^8):valD (digs n)=n:=valD_digF 8 n h
theorem digF_get : ∀ (f n i : Nat) (hi : i < (digF f n).length), (digF f n)[i] = UInt8.ofNat (n / 256 ^ ((digF f n).length - 1 - i))
 |0,n,i,hi=>by simp [digF] at hi
 | f + 1, n, i, hi => by
  by_cases hn:n=0
  ·subst hn;simp [digF_zero] at hi
  ·have e : digF (f + 1) n = digF f (n / 256) ++ [UInt8.ofNat n] := by rw [digF, if_neg hn]
   have hl:(digF (f+1) n).length=(digF f (n/256)).length+1:=by rw [e];simp
   rw [List.getElem_of_eq e]
   rcases Nat.lt_or_ge i (digF f (n/256)).length with hlt|hge
   ·rw [List.getElem_append_left hlt, digF_get f (n / 256) i hlt, hl]
    congr 1
    rw [Nat.div_div_eq_div_mul,←Nat.pow_succ']
    congr 2
    omega
   ·have : i = (digF f (n / 256)).length := by omega
    subst this
    rw [List.getElem_append_right (Nat.le_refl _),hl]
    simp
theorem digs_len (n:Nat) (h:n≤9007199254740991):(digs n).length≤7:=digF_len_up 8 n 7 (by omega)
theorem digF_head : ∀ (f n : Nat), n < 256 ^ f → n ≠ 0 → (digF f n).head? ≠ some 0
 |0,n,h,hn=>by simp at h;omega
 | f + 1, n, h, hn => by
  unfold digF
  rw [if_neg hn]
  by_cases h0:n/256=0
  ·rw [h0, digF_zero]
   simp only [List.nil_append,List.head?_cons,ne_eq,Option.some.injEq]
   intro e
   have:=congrArg UInt8.toNat e
   simp only [UInt8.toNat_ofNat'] at this
   have h1:(0:UInt8).toNat=0:=rfl
   omega
  ·have ih := digF_head f (n / 256) (by rw [Nat.pow_succ] at h; omega) h0
   cases hd:digF f (n/256) with
   | nil =>
    have:=valD_digF f (n/256) (by rw [Nat.pow_succ] at h;omega)
    rw [hd] at this
    simp [valD] at this
    omega
   |cons a t=>rw [hd] at ih;simpa using ih
theorem digF_valD: ∀(f:Nat) (l:List UInt8),l.length≤f→l.head? ≠some 0→digF f (valD l)=l:=by
 intro f
 induction f with
 | zero =>
  intro l hl _
  have:l= []:=List.eq_nil_of_length_eq_zero (by omega)
  subst this;rfl
 | succ f ih =>
  intro l hl hh
  rcases List.eq_nil_or_concat l with rfl|⟨t,c,rfl⟩
  ·simp [valD,digF]
  ·rw [List.concat_eq_append] at *
   rw [valD_app]
   have hc:=c.toNat_lt
   have hn:valD t*256+c.toNat≠0:=by
    intro h0
    have hv:valD t=0:=by omega
    have hc0:c=0:=by
     have:c.toNat=0:=by omega
     exact UInt8.toNat_inj.1 (by simpa using this)
    cases t with
    |nil=>simp [hc0] at hh
    | cons a s =>
     have ha:a≠0:=by simpa using hh
     have:0<valD (a::s):=by
      have key : ∀ (s : List UInt8) (x : Nat), 0 < x → 0 < s.foldl (fun a c => a * 256 + c.toNat) x := by
       intro s
       induction s with
       |nil=>intro x hx;simpa using hx
       |cons b u ih2=>intro x hx;exact ih2 (x*256+b.toNat) (by omega)
      have hat:0<a.toNat:=by
       rcases Nat.eq_zero_or_pos a.toNat with h|h
       ·exact absurd (UInt8.toNat_inj.1 (by simpa using h)) ha
       ·exact h
      simp only [valD,List.foldl_cons]
      exact key s _ (by omega)
     omega
   unfold digF
   rw [if_neg hn]
   have h1:(valD t*256+c.toNat)/256=valD t:=by omega
   rw [h1, ih t (by simp at hl; omega) (by cases t with
    |nil=>simp
    |cons a s=>simpa using hh)]
   congr 2
   apply UInt8.toNat_inj.1
   simp only [UInt8.toNat_ofNat']
   omega
end Go.Eng
namespace Go.Eng
theorem u8Of_nat (k:Nat):u8Of (k:Int)=UInt8.ofNat k:=by
 unfold u8Of
 apply UInt8.toNat_inj.1
 simp only [UInt8.toNat_ofNat']
 omega
theorem shr256 (N k:Nat) (e:Int) (he:e=8*(k:Int)) (hk:k≤8):(N:Int).fdiv (2^min e.toNat IntKind.i64.bits)=((N/256^k:Nat):Int):=by
 have h1:min e.toNat IntKind.i64.bits=8*k:=by simp only [IntKind.bits];omega
 have h2:((2:Int)^(8*k))=((256^k:Nat):Int):=by rw [pow256];simp
 rw [h1,h2]
 rw [Int.fdiv_eq_ediv_of_nonneg _ (Int.natCast_nonneg _)]
 simp
theorem shl8 (a:Nat) (h:a<36028797018963968):IntKind.i64.wrap ((a:Int)*2^min (8:Int).toNat IntKind.i64.bits)=((a*256:Nat):Int):=by
 have h1:min (8:Int).toNat IntKind.i64.bits=8:=rfl
 rw [h1,w64 (by omega) (by omega)]
 omega
theorem or256 (a c:Nat) (hc:c<256) (ha:a*256+c<9223372036854775808):bitsV .or .i64 ((a*256:Nat):Int) (c:Int)=((a*256+c:Nat):Int):=by
 have e: ∀k:Nat,k<9223372036854775808→(BitVec.ofInt 64 (k:Int)).toNat=k:=by
  intro k hk
  rw [BitVec.ofInt_natCast,BitVec.toNat_ofNat]
  exact Nat.mod_eq_of_lt (by omega)
 have e2 : a * 256 ||| c = a * 256 + c := by
  have:=Nat.shiftLeft_add_eq_or_of_lt (show c<2^8 by omega) a
  rw [Nat.shiftLeft_eq] at this
  exact this.symm
 have key : ∀ m : Nat, m = 64 → ((BitVec.ofInt m ((a * 256 : Nat) : Int)) ||| (BitVec.ofInt m (c : Int))).toNat = a * 256 + c := by
  rintro m rfl
  have h1:=e (a*256) (Nat.lt_of_le_of_lt (Nat.le_add_right _ c) ha)
  have h2:=e c (Nat.lt_of_le_of_lt (Nat.le_add_left c _) ha)
  rw [BitVec.toNat_or,h1,h2,e2]
 unfold bitsV
 simp only []
 rw [key IntKind.i64.bits rfl,w64 (by omega) (by omega)]
theorem digs_lt (N m:Nat) (h:N≤9007199254740991) (hm:m≤7):0<N/256^m↔m<(digs N).length:=by
 have hp:0<256^m:=Nat.pow_pos (by omega)
 constructor
 ·intro h0
  have h1:256^m≤N:=by
   rcases Nat.lt_or_ge N (256^m) with hl|hg
   ·rw [Nat.div_eq_of_lt hl] at h0;omega
   ·exact hg
  rcases digF_len 8 N m (by omega) h1 with hx|hx
  ·exact hx
  ·have:=digs_len N h;unfold digs at this;omega
 ·intro h0
  rcases Nat.lt_or_ge N (256^m) with hl|hg
  ·have:=digF_len_up 8 N m hl;unfold digs at h0;omega
  ·exact Nat.div_pos hg hp
theorem digs_succ (N i:Nat) (hi:i<(digs N).length):UInt8.ofNat (digs N).length::(digs N).take (i+1)=(UInt8.ofNat (digs N).length::(digs N).take i)++ [UInt8.ofNat (N/256^((digs N).length-1-i))]:=by
 have:=digF_get 8 N i hi
 rw [←List.take_append_getElem hi,List.cons_append]
 congr 3
theorem valD_take (l:List UInt8) (k:Nat) (h:k<l.length):valD (l.take (k+1))=valD (l.take k)*256+l[k].toNat:=by
 rw [←List.take_append_getElem h,valD_app]
theorem valD_take_lt (l:List UInt8) (k m:Nat) (h:k≤m):valD (l.take k)<256^m:=by
 have h1:=valD_lt (l.take k)
 have h2:(l.take k).length≤m:=by rw [List.length_take];omega
 exact Nat.lt_of_lt_of_le h1 (Nat.pow_le_pow_right (by omega) h2)
theorem numL_len (N:Nat) (h:N≤9007199254740991):(numL N).length≤8:=by have:=digs_len N h;simp [numL];omega
end Go.Eng
namespace Go.Eng
theorem takeS_lim (b:List UInt8):0≤(takeS b).1∧(takeS b).1≤9007199254740991∧0≤(takeS b).2.2∧(takeS b).2.2≤9:=by
 cases b with
 |nil=>simp [takeS]
 | cons m t =>
  simp only [takeS]
  split
  ·simp
  ·split
   ·simp
   ·split
    ·simp
    ·split
     ·simp
     ·simp;omega
end Go.Eng
namespace Go.Eng
theorem u8_len (N:Nat) (h:N≤9007199254740991):(UInt8.ofNat (digs N).length).toNat=(digs N).length:=by
 have:=digs_len N h
 simp only [UInt8.toNat_ofNat']
 omega
theorem digs_headD (N:Nat) (h:N≤9007199254740991) (hp:0<(digs N).length) (t:List UInt8):(digs N++t).headD 1≠0:=by
 have h0:N≠0:=by rintro rfl;simp [digs,digF_zero] at hp
 have hh:=digF_head 8 N (by omega) h0
 unfold digs at hp⊢
 cases hd:digF 8 N with
 |nil=>rw [hd] at hp;simp at hp
 |cons a s=>rw [hd] at hh;simpa using hh
theorem takeS_num (N:Nat) (h:N≤9007199254740991) (t:List UInt8):takeS (numL N++t)=((N:Int),t,0):=by
 have h7:=digs_len N h
 have hu:=u8_len N h
 show takeS (UInt8.ofNat (digs N).length::(digs N++t))=_
 simp only [takeS,hu]
 rw [if_neg (by omega),if_neg (by simp),if_neg (fun e=>digs_headD N h e.1 t e.2)]
 have e1:(digs N++t).take (digs N).length=digs N:=List.take_left
 have e2:(digs N++t).drop (digs N).length=t:=List.drop_left
 rw [e1,e2,valD_digs N (by omega),if_neg (by omega)]
theorem takeS_back (b:List UInt8) (h:(takeS b).2.2=0):b=numL (takeS b).1.toNat++(takeS b).2.1∧0≤(takeS b).1∧(takeS b).1≤9007199254740991:=by
 refine ⟨?_,(takeS_lim b).1,(takeS_lim b).2.1⟩
 cases b with
 |nil=>simp [takeS] at h
 | cons m t =>
  simp only [takeS] at h⊢
  split at h
  ·simp at h
  ·rename_i h7
   rw [if_neg h7]
   split at h
   ·simp at h
   ·rename_i hl
    rw [if_neg hl]
    split at h
    ·simp at h
    ·rename_i h0
     rw [if_neg h0]
     split at h
     ·simp at h
     ·rename_i hmx
      rw [if_neg hmx]
      simp only [Int.toNat_natCast]
      have hlen:(t.take m.toNat).length=m.toNat:=by rw [List.length_take];omega
      have hd:digs (valD (t.take m.toNat))=t.take m.toNat:=by
       refine digF_valD 8 _ (by omega) ?_
       intro e
       cases hm:m.toNat with
       |zero=>rw [hm] at e;simp at e
       | succ k =>
        rw [hm] at e
        cases t with
        |nil=>simp at e
        |cons y s=>simp at e;exact h0 ⟨by omega,by simpa using e⟩
      simp only [numL,hd,hlen,List.cons_append,List.take_append_drop]
      simp
theorem takeStr_str (s t:List UInt8) (most:Int) (hs:s.length≤65536):takeStrS (numL s.length++s++t) most=if most<0 then ([], [],2) else if most<(s.length:Int) then ([], [],5) else (s,t,0):=by
 rw [List.append_assoc]
 have e:=takeS_num s.length (by omega) (s++t)
 simp only [takeStrS,e]
 split
 ·rfl
 ·rw [if_neg (by simp)]
  split
  ·rw [if_pos (by omega)]
  ·rw [if_neg (by omega)]
   simp only [fixS]
   rw [if_neg (by omega),if_neg (by simp;omega)]
   simp
theorem takeStr_back (b : List UInt8) (most : Int) (h : (takeStrS b most).2.2 = 0) :
  b=numL (takeStrS b most).1.length++(takeStrS b most).1++(takeStrS b most).2.1∧((takeStrS b most).1.length:Int)≤most∧(takeStrS b most).1.length≤65536:=by
 unfold takeStrS at h⊢
 split at h
 ·simp at h
 ·rename_i h1
  rw [if_neg h1]
  split at h
  ·rename_i h2;exact absurd h h2
  ·rename_i h2
   rw [if_neg h2]
   split at h
   ·simp at h
   ·rename_i h3
    rw [if_neg h3]
    have h2':(takeS b).2.2=0:=Decidable.byContradiction h2
    obtain ⟨hb,h0,hmx⟩:=takeS_back b h2'
    unfold fixS at h⊢
    split at h
    ·simp at h
    ·rename_i h4
     rw [if_neg h4]
     split at h
     ·simp at h
     ·rename_i h5
      rw [if_neg h5]
      have hl:((takeS b).2.1.take (takeS b).1.toNat).length=(takeS b).1.toNat:=by rw [List.length_take];omega
      simp only [hl]
      refine ⟨?_,by omega,by omega⟩
      rw [List.append_assoc,List.take_append_drop]
      exact hb
end Go.Eng
namespace Go.Eng
abbrev PR (α:Type):=List UInt8→Option (α×List UInt8)
section
variable {α β γ:Type}
def bindP (p:PR α) (q:α→PR β):PR β:=fun l=>match p l with|some (x,t)=>q x t|none=>none
def pureP (x:α):PR α:=fun l=>some (x,l)
def failP:PR α:=fun _=>none
theorem bindP_assoc (p:PR α) (q:α→PR β) (r:β→PR γ):bindP (bindP p q) r=bindP p fun x=>bindP (q x) r:=by
 funext l
 unfold bindP
 cases p l with
 |none=>rfl
 |some x=>rfl
theorem pure_bindP (x:α) (q:α→PR β):bindP (pureP x) q=q x:=rfl
def repP (p : PR α) : Nat → PR (List α)
 |0=>pureP []
 |n+1=>bindP (repP p n) fun xs=>bindP p fun x=>pureP (xs++ [x])
theorem repP_cons (p : PR α) : ∀ n, repP p (n + 1) = bindP p fun x => bindP (repP p n) fun xs => pureP (x :: xs)
 |0=>by simp only [repP,pure_bindP];rfl
 | n + 1 => by
  show bindP (repP p (n+1)) (fun xs=>bindP p fun x=>pureP (xs++ [x]))=bindP p fun x=>bindP (bindP (repP p n) fun xs=>bindP p fun x=>pureP (xs++ [x])) fun xs=>pureP (x::xs)
  rw [repP_cons p n]
  simp only [bindP_assoc,pure_bindP,List.cons_append]
def StepP (p:PR α) (s s':Option (List UInt8)) (x:α):Prop:=s.bind p=s'.map (x, ·)
theorem StepP.pure (x:α) (s:Option (List UInt8)):StepP (pureP x) s s x:=by cases s<;>rfl
theorem StepP.bind {p:PR α} {q:α→PR β} {s s1 s2:Option (List UInt8)} {x:α} {y:β} (h1:StepP p s s1 x) (h2:StepP (q x) s1 s2 y):StepP (bindP p q) s s2 y:=by
 unfold StepP at *
 cases s with
 | none =>
  cases s1 with
  |none=>exact h2
  |some l1=>cases h1
 | some l =>
  cases s1 with
  | none =>
   have h1':p l=none:=h1
   show bindP p q l=_
   unfold bindP
   rw [h1']
   exact h2
  | some l1 =>
   have h1':p l=some (x,l1):=h1
   show bindP p q l=_
   unfold bindP
   rw [h1']
   exact h2
theorem StepP.gone {p:PR α} {s':Option (List UInt8)} {x:α} (h:StepP p Option.none s' x):s'=none:=by
 cases s' with
 |none=>rfl
 |some l=>cases h
theorem StepP.bad (p:PR α) (x:α):StepP p Option.none none x:=rfl
theorem StepP.of_none {p:PR α} {l:List UInt8} {x:α} (h:p l=none):StepP p (some l) Option.none x:=h
theorem StepP.of_some {p:PR α} {l t:List UInt8} {x:α} (h:p l=some (x,t)):StepP p (some l) (some t) x:=h
structure Cod (p:PR α) (e:α→List UInt8) (ok:α→Prop):Prop where
 rd: ∀x t,ok x→p (e x++t)=some (x,t)
 back: ∀b x t,p b=some (x,t)→b=e x++t∧ok x
theorem Cod.weak {p:PR α} {e:α→List UInt8} {ok:α→Prop} (h:Cod p e ok):Cod p e ok:=h
theorem bindP_some {p:PR α} {q:α→PR β} {b t:List UInt8} {y:β}:bindP p q b=some (y,t)↔∃x u,p b=some (x,u)∧q x u=some (y,t):=by
 unfold bindP
 cases h:p b with
 |none=>simp
 | some v =>
  obtain ⟨x,u⟩:=v
  constructor
  ·intro h;exact ⟨x,u,rfl,h⟩
  ·rintro ⟨x',u',e,h⟩;cases e;exact h
theorem Cod.bindRd {p:PR α} {e:α→List UInt8} {ok:α→Prop} (h:Cod p e ok) {q:α→PR β} {x:α} {t:List UInt8} (hx:ok x):bindP p q (e x++t)=q x t:=by
 unfold bindP
 rw [h.rd x t hx]
def flatE (e:α→List UInt8) (l:List α):List UInt8:=(l.map e).flatten
theorem flatE_snoc (e:α→List UInt8) (l:List α) (x:α):flatE e (l++ [x])=flatE e l++e x:=by simp [flatE]
theorem flatE_nil (e:α→List UInt8):flatE e []= []:=rfl
theorem flatE_cons (e:α→List UInt8) (l:List α) (x:α):flatE e (x::l)=e x++flatE e l:=rfl
theorem flatE_len (e:α→List UInt8) (l:List α) (k:Nat) (h: ∀x∈l,(e x).length≤k):(flatE e l).length≤l.length*k:=by
 induction l with
 |nil=>simp [flatE]
 | cons x r ih =>
  have h1:=h x (by simp)
  have h2:=ih (fun y hy=>h y (by simp [hy]))
  rw [flatE_cons,List.length_append,List.length_cons,Nat.succ_mul]
  omega
theorem Cod.rep {p : PR α} {e : α → List UInt8} {ok : α → Prop} (h : Cod p e ok) : ∀ (n : Nat), Cod (repP p n) (flatE e) (fun l => l.length = n ∧ ∀ x ∈ l, ok x)
 | 0 => ⟨fun l t hl => by
   obtain rfl:=List.eq_nil_of_length_eq_zero hl.1
   rfl,fun b l t hb=>by
   simp only [repP,pureP,Option.some.injEq,Prod.mk.injEq] at hb
   obtain ⟨rfl,rfl⟩:=hb
   exact ⟨rfl,rfl,by simp⟩⟩
 | n + 1 => by
  have ih:=Cod.rep h n
  rw [repP_cons]
  refine ⟨fun l t hl=> ?_,fun b l t hb=> ?_⟩
  ·cases l with
   |nil=>simp at hl
   | cons x r =>
    rw [flatE_cons,List.append_assoc,h.bindRd (hl.2 x (by simp)),ih.bindRd ⟨by simpa using hl.1,fun y hy=>hl.2 y (by simp [hy])⟩]
    rfl
  ·obtain ⟨x, u, h1, h2⟩ := bindP_some.1 hb
   obtain ⟨r,v,h3,h4⟩:=bindP_some.1 h2
   simp only [pureP,Option.some.injEq,Prod.mk.injEq] at h4
   obtain ⟨rfl,rfl⟩:=h4
   obtain ⟨rfl,o1⟩:=h.back _ _ _ h1
   obtain ⟨rfl,o2⟩:=ih.back _ _ _ h3
   refine ⟨by rw [flatE_cons,List.append_assoc],by simp [o2.1],fun y hy=> ?_⟩
   rcases List.mem_cons.1 hy with rfl|hy
   ·exact o1
   ·exact o2.2 y hy
end
def numP:PR Int:=fun b=>if (takeS b).2.2=0 then some ((takeS b).1,(takeS b).2.1) else none
def numE (n:Int):List UInt8:=numL n.toNat
def isNum (n:Int):Prop:=0≤n∧n≤9007199254740991
theorem num_cod:Cod numP numE isNum:=by
 refine ⟨fun n t hn=> ?_,fun b n t hb=> ?_⟩
 ·unfold numP numE
  rw [takeS_num n.toNat (by unfold isNum at hn;omega) t]
  simp only [if_true,Option.some.injEq,Prod.mk.injEq,and_true]
  unfold isNum at hn
  omega
 ·unfold numP at hb
  split at hb
  ·rename_i h0
   simp only [Option.some.injEq,Prod.mk.injEq] at hb
   obtain ⟨rfl,rfl⟩:=hb
   have:=takeS_back b h0
   exact ⟨this.1,this.2⟩
  ·cases hb
theorem numE_len {n:Int} (h:isNum n):(numE n).length≤8:=numL_len n.toNat (by unfold isNum at h;omega)
theorem numE_small {n:Int} (h:0≤n) (h2:n<256):(numE n).length≤2:=by
 have e:(digs n.toNat).length≤1:=digF_len_up 8 n.toNat 1 (by omega)
 simp [numE,numL]
 omega
def strP (most:Int):PR (List UInt8):=fun b=>if (takeStrS b most).2.2=0 then some ((takeStrS b most).1,(takeStrS b most).2.1) else none
def strE (s:List UInt8):List UInt8:=numL s.length++s
theorem str_cod (most:Int) (h0:0≤most) (h1:most≤65536):Cod (strP most) strE (fun s=>(s.length:Int)≤most):=by
 refine ⟨fun s t hs=> ?_,fun b s t hb=> ?_⟩
 ·have e := takeStr_str s t most (by omega)
  rw [if_neg (by omega),if_neg (by omega)] at e
  unfold strP strE
  rw [e]
  rfl
 ·unfold strP at hb
  split at hb
  ·rename_i h
   simp only [Option.some.injEq,Prod.mk.injEq] at hb
   obtain ⟨rfl,rfl⟩:=hb
   have:=takeStr_back b most h
   exact ⟨this.1,this.2.1⟩
  ·cases hb
theorem strE_len (s:List UInt8) (h:s.length≤65536):(strE s).length≤4+s.length:=by
 have e:(digs s.length).length≤3:=digF_len_up 8 s.length 3 (by omega)
 simp [strE,numL]
 omega
structure Dig where
 l:List UInt8
 h:l.length=32
deriving DecidableEq
def dig0:Dig:=⟨List.replicate 32 0,by simp⟩
def digP:PR Dig:=fun b=>if h:32≤b.length then some (⟨b.take 32,by rw [List.length_take];omega⟩,b.drop 32) else none
def digE (d:Dig):List UInt8:=d.l
theorem dig_cod:Cod digP digE (fun _=>True):=by
 refine ⟨fun d t _=> ?_,fun b d t hb=> ?_⟩
 ·unfold digP digE
  have:=d.h
  rw [dif_pos (by rw [List.length_append];omega)]
  congr 2
  ·obtain ⟨l, hl⟩ := d
   congr 1
   show (l++t).take 32=l
   rw [List.take_append_of_le_length (by omega),List.take_of_length_le (by omega)]
  ·rw [List.drop_append_of_le_length (by omega),List.drop_of_length_le (by omega),List.nil_append]
 ·unfold digP at hb
  split at hb
  ·simp only [Option.some.injEq, Prod.mk.injEq] at hb
   obtain ⟨rfl,rfl⟩:=hb
   exact ⟨(List.take_append_drop 32 b).symm,trivial⟩
  ·cases hb
def manyP (most:Int):PR Int:=bindP numP fun n=>if most<n then failP else pureP n
def listP {α:Type} (p:PR α) (most:Int):PR (List α):=bindP (manyP most) fun n=>repP p n.toNat
def listE {α:Type} (e:α→List UInt8) (l:List α):List UInt8:=numE l.length++flatE e l
theorem many_cod (most:Int):Cod (manyP most) numE (fun n=>isNum n∧n≤most):=by
 refine ⟨fun n t hn=> ?_,fun b n t hb=> ?_⟩
 ·unfold manyP
  rw [num_cod.bindRd hn.1,if_neg (by omega)]
  rfl
 ·obtain ⟨x, u, h1, h2⟩ := bindP_some.1 hb
  split at h2
  ·cases h2
  ·simp only [pureP, Option.some.injEq, Prod.mk.injEq] at h2
   obtain ⟨rfl,rfl⟩:=h2
   have:=num_cod.back _ _ _ h1
   exact ⟨this.1,this.2,by omega⟩
theorem list_cod {α:Type} {p:PR α} {e:α→List UInt8} {ok:α→Prop} (h:Cod p e ok) (most:Int) (hm:most≤9007199254740991):Cod (listP p most) (listE e) (fun l=>(l.length:Int)≤most∧∀x∈l,ok x):=by
 refine ⟨fun l t hl=> ?_,fun b l t hb=> ?_⟩
 ·unfold listP listE
  rw [List.append_assoc,(many_cod most).bindRd ⟨⟨by omega,by omega⟩,hl.1⟩]
  exact (h.rep _).rd l t ⟨by omega,hl.2⟩
 ·obtain ⟨n, u, h1, h2⟩ := bindP_some.1 hb
  obtain ⟨rfl,o1,o2⟩:=(many_cod most).back _ _ _ h1
  obtain ⟨rfl,o3,o4⟩:=(h.rep _).back _ _ _ h2
  unfold isNum at o1
  refine ⟨?_,by omega,o4⟩
  unfold listE
  rw [List.append_assoc,show ((l.length:Nat):Int)=n by omega]
end Go.Eng
namespace Go.Eng
open Go.RowKit
def i64 (n:Int):Prop:= -9223372036854775808≤n∧n≤9223372036854775807
def digC (d:Dig):List Value:= [bv (d.l.getD 0 0),bv (d.l.getD 1 0),bv (d.l.getD 2 0),bv (d.l.getD 3 0),bv (d.l.getD 4 0),bv (d.l.getD 5 0),bv (d.l.getD 6 0),bv (d.l.getD 7 0),bv (d.l.getD 8 0),bv (d.l.getD 9 0),bv (d.l.getD 10 0),bv (d.l.getD 11 0),bv (d.l.getD 12 0),bv (d.l.getD 13 0),bv (d.l.getD 14 0),bv (d.l.getD 15 0),bv (d.l.getD 16 0),bv (d.l.getD 17 0),bv (d.l.getD 18 0),bv (d.l.getD 19 0),bv (d.l.getD 20 0),bv (d.l.getD 21 0),bv (d.l.getD 22 0),bv (d.l.getD 23 0),bv (d.l.getD 24 0),bv (d.l.getD 25 0),bv (d.l.getD 26 0),bv (d.l.getD 27 0),bv (d.l.getD 28 0),bv (d.l.getD 29 0),bv (d.l.getD 30 0),bv (d.l.getD 31 0)]
theorem list32 (l:List UInt8) (h:l.length=32):l= [l.getD 0 0,l.getD 1 0,l.getD 2 0,l.getD 3 0,l.getD 4 0,l.getD 5 0,l.getD 6 0,l.getD 7 0,l.getD 8 0,l.getD 9 0,l.getD 10 0,l.getD 11 0,l.getD 12 0,l.getD 13 0,l.getD 14 0,l.getD 15 0,l.getD 16 0,l.getD 17 0,l.getD 18 0,l.getD 19 0,l.getD 20 0,l.getD 21 0,l.getD 22 0,l.getD 23 0,l.getD 24 0,l.getD 25 0,l.getD 26 0,l.getD 27 0,l.getD 28 0,l.getD 29 0,l.getD 30 0,l.getD 31 0]:=by
 match l,h with
 | [_,_,_,_,_,_,_,_,_,_,_,_,_,_,_,_,_,_,_,_,_,_,_,_,_,_,_,_,_,_,_,_],_=>rfl
theorem digC_map (d:Dig):digC d=d.l.map bv:=by
 rw [list32 d.l d.h]
 rfl
theorem digC_len (d:Dig):(digC d).length=32:=rfl
theorem bv_inj {a b:UInt8} (h:bv a=bv b):a=b:=by
 simp only [bv,Value.int.injEq,true_and] at h
 exact UInt8.toNat_inj.1 (by omega)
theorem map_bv_inj : ∀ {a b : List UInt8}, a.map bv = b.map bv → a = b
 | [], [],_=>rfl
 | [],_::_,h=>by simp at h
 |_::_, [],h=>by simp at h
 | x :: r, y :: t, h => by
  simp only [List.map_cons,List.cons.injEq] at h
  rw [bv_inj h.1,map_bv_inj h.2]
theorem digC_inj {a b:Dig}:a=b↔digC a=digC b:=by
 constructor
 ·rintro rfl;rfl
 ·intro h
  rw [digC_map,digC_map] at h
  have:=map_bv_inj h
  cases a;cases b
  simp only at this
  subst this
  rfl
theorem digC_fit (d:Dig):FitK (List.replicate 32 (some .u8)) (digC d):=by
 refine ⟨rfl,fun i k v hk hv=> ?_⟩
 rw [digC_map,List.getElem?_map] at hv
 rw [List.getElem?_replicate] at hk
 split at hk
 ·cases hk
  cases hd:d.l[i]? with
  |none=>rw [hd] at hv;simp at hv
  | some b =>
   rw [hd] at hv
   simp only [Option.map_some,Option.some.injEq] at hv
   subst hv
   exact fit_byte b
 ·cases hk
def digR:Rep Dig where
 size:=32
 rd:=fun _ _ cs d=>cs=digC d
 len:=by rintro _ _ _ _ rfl;rfl
 one:=by rintro _ _ _ _ rfl;exact List.all_eq_true.1 rfl
 keep:=by rintro _ _ _ _ _ _ _ _ h;exact h
 mono:=by rintro _ _ _ _ _ _ h;exact h
section
variable {S:Nat→Prop} {w:World} {A:Option Addr} {c:Nat}
theorem GS.elI {l:List Int} (h:GS intR S w A c l) (i:Nat) (hi:i<l.length): ∃a,A=some a∧AtF S w (a.add (i*1)) [.int .i64 (l.getD i 0)]:=by
 have e:l.getD i 0=l[i]:=by rw [List.getD_eq_getElem?_getD,List.getElem?_eq_getElem hi];rfl
 rw [e]
 exact GS.el1 h i hi
theorem forall_take {α:Type} {p:α→Prop} {l:List α} {k:Nat} {z:α} (h: ∀x∈l.take k,p x) (hk:k<l.length) (hp:p (l.getD k z)): ∀x∈l.take (k+1),p x:=by
 intro x hx
 rw [←List.take_append_getElem hk] at hx
 rcases List.mem_append.1 hx with hx|hx
 ·exact h x hx
 ·rw [List.mem_singleton.1 hx]
  rwa [List.getD_eq_getElem?_getD,List.getElem?_eq_getElem hk] at hp
theorem getD_mem {α:Type} {l:List α} {k:Nat} {z:α} (hk:k<l.length):l.getD k z∈l:=by
 rw [List.getD_eq_getElem?_getD,List.getElem?_eq_getElem hk]
 exact List.getElem_mem hk
theorem take_snoc {α:Type} {l:List α} {k:Nat} (z:α) (hk:k<l.length):l.take (k+1)=l.take k++ [l.getD k z]:=by
 rw [←List.take_append_getElem hk,List.getD_eq_getElem?_getD,List.getElem?_eq_getElem hk]
 rfl
theorem upto {p:Nat→Prop} {k:Nat} (h: ∀i,i<k→p i) (hk:p k): ∀i,i<k+1→p i:=by
 intro i hi
 by_cases e:i=k
 ·subst e;exact hk
 ·exact h i (by omega)
end
end Go.Eng
