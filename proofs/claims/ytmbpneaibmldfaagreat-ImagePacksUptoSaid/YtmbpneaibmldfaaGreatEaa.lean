/- Part 1 of what the proof of ImagePacksUpto stands on: the engine, and facts on the program's tables. -/
import Derived.Test.YtmbpneaibmldfaaGreatAac
import Derived.WalkKit
import Derived.Laws.NewBlocks
import Derived.Orders
import Derived.Laws.CopyRow
import Derived.Laws.Tables
import Derived.Maps.Keyed
import Derived.DeepKeys3
import Derived.Laws.IdiomStrings
import Derived.Laws.Strings
import Derived.KernelRfl
import Derived.ProofKit
import Derived.SizedLaws
import Derived.Deep.Slices
import Derived.OpenShut
import Derived.Test.YtmbpneaibmldfaaGreatRows
import Derived.Deep.CondSized
import Derived.Lib.BytesEntry
import Derived.Lib.Bytealg
import Derived.Laws.Externs
import Derived.Lib.SlBytesConst
namespace Go.Eng
open Go.RowKit
def boolR:Rep Bool:=oneR (fun b=> .bool b) (fun _=>rfl)
end Go.Eng
namespace Go.Eng
open Go.RowKit
theorem ltD_step {a b:List UInt8} (ha:a.length=32) (hb:b.length=32) {k:Nat} (hk:k<32):ltD (a.drop k) (b.drop k)=if a.getD k 0=b.getD k 0 then ltD (a.drop (k+1)) (b.drop (k+1)) else decide ((a.getD k 0).toNat<(b.getD k 0).toNat):=by
 rw [List.drop_eq_getElem_cons (by omega:k<a.length),List.drop_eq_getElem_cons (by omega:k<b.length),ltD,List.getD_eq_getElem?_getD,List.getD_eq_getElem?_getD,List.getElem?_eq_getElem (by omega),List.getElem?_eq_getElem (by omega)]
 rfl
theorem ltD_end {a b:List UInt8} (ha:a.length=32) {k:Nat} (hk:32≤k):ltD (a.drop k) (b.drop k)=false:=by
 rw [List.drop_eq_nil_of_le (by omega)]
 rfl
end Go.Eng
namespace Go.Eng
open Go.RowKit
section
variable {P:Program} {n:Nat} {L L':List (Nat×Value)} {w:World} {ops:Array Oper} {rest:List Oper} {ty:TypeId} {pos:String} {af:Array Edge} {d:Nat} {f:FuncId} {xs:List Operand} {vs:List Value} {u:Value} {ts:Array TypeId}
theorem wk_re {K:Act→World→Prop} {k:Nat} {u v:Value} (hv:lk L k=some u) (e:u=v) (h:WK n K ((k,v)::L) w):WK n K L w:=by
 subst e
 intro a ha
 refine h a ⟨ha.size,ha.defers,fun k' v' hk=> ?_⟩
 simp only [lk] at hk
 cases hb:Nat.beq k' k with
 | true =>
  rw [hb] at hk
  cases hk
  rw [Nat.eq_of_beq_eq_true hb]
  exact ha.get _ _ hv
 | false =>
  rw [hb] at hk
  exact ha.get _ _ hk
end
end Go.Eng
namespace Go.Eng
open Go.RowKit
theorem catE_0 {α:Type} (E:α→List UInt8) (o:List UInt8) (l:List α):catE E o l 0=o:=by simp [catE,flatE]
theorem catE_room {α:Type} {E:α→List UInt8} {o:List UInt8} {l:List α} {k:Nat} (d:α) (hk:k<l.length):(catE E o l k).length+(E (l.getD k d)).length≤o.length+(flatE E l).length:=by
 have h:=catE_le E o l (k+1)
 rwa [catE_s d hk,List.length_append] at h
section
variable {P:Program} {n:Nat} {L:List (Nat×Value)} {w w0:World} {M0 Fz:Nat→Prop} {H:List It} {ops:Array Oper} {rest:List Oper} {ty:TypeId} {pos:String} {af:Array Edge} {d te:Nat} {f:FuncId} {xs:List Operand} {vs:List Value} {ts:Array TypeId} {out:List UInt8} {Q:Exit→Act→World→Prop}
theorem Cr [c : ClC P f] (hc : Ret P f vs.toArray w (fun v w2 => ∃ A' c', v = .slice A' out.length c' ∧ HP w0 M0 Fz w2 (itR te 1 A' out.length c' (out.map bv) :: H) ∧ Frz Fz Fz w w2)) (h : ∀ A' c' w2, HP w0 M0 Fz w2 (itR te 1 A' out.length c' (out.map bv) :: H) → Frz Fz Fz w w2 → WL P n ops Q rest ((d, .slice A' out.length c') :: L) w2) (hx : evs L xs = some vs := by rfl) (hd : d < n := by decide) :
  WL P n ops Q ({dst:=some d,op:= .call {callee:= .value (.func f),args:=xs.toArray,argTypes:=ts},type:=ty,pos:=pos,after:=af,guard:=none}::rest) L w:=wl_call hd c.h hx hc (by rintro _ w2 ⟨A',c',rfl,hp,hF⟩;exact h A' c' w2 hp hF)
theorem enR {F2 : Nat → Prop} {A : Option Addr} {c : Nat} {w2 : World} {out' : List UInt8} (hp : HP w0 M0 F2 w2 (itR te 1 A out.length c (out.map bv) :: H)) (e : out = out') (hF : Frz Fz F2 w w2 := by exact mv) :
  ∃v,Ending.returned (Value.slice A out.length c)= .returned v∧∃A' c',v= .slice A' out'.length c'∧HP w0 M0 Fz w2 (itR te 1 A' out'.length c' (out'.map bv)::H)∧Frz Fz Fz w w2:=by
 subst e
 exact ⟨_,rfl,_,_,rfl,hp.less hF.sub,hF.chg,fun _ h=>h⟩
end
end Go.Eng
namespace Go.Eng
open Go.RowKit Go.ChangeShapes Go.WideShapes Go.ChangeAt
def ReadsR {α:Type} (P:Program) (t:TypeId) (r:Rep α) (good:α→Prop):Prop:=
 ∀ (H : Type) (enc : TypeId × Value → H) (w : World) (base : Nat) (sp : Nat → Bool) (held : Bool) (fuel : Nat) (cs : List Value) (x : DataW H × List MemPlace), DataW.trod enc P w base sp held fuel t cs = some x →
  (∀y∈x.2,y.block<w.heap.size)→(x.1.weights P t).all (· ≤reachBytes)=true→∃v,r.rd (fun b=>b<w.heap.size) w cs v∧good v
section
variable {P:Program} {t e:TypeId}
theorem reads_int (hu:P.underlying t=some (.int .i64)):ReadsR P t intR (fun n=> -9223372036854775808≤n∧n≤9223372036854775807):=by
 intro H enc w base sp held fuel cs x h _ _
 cases fuel with
 |zero=>simp [DataW.trod] at h
 | succ fuel =>
  rw [DataW.trod_step] at h
  unfold DataW.trodStep at h
  simp only [hu] at h
  split at h<;>simp_all
  rename_i k q n _ _ hk
  subst hk
  obtain ⟨⟨_,hw⟩,_⟩:=h
  refine ⟨n,rfl, ?_⟩
  simp [Lit.wf,IntKind.min,IntKind.max,IntKind.signed,IntKind.bits] at hw
  omega
theorem reads_byte (hu:P.underlying t=some (.int .u8)):ReadsR P t byteR (fun _=>True):=by
 intro H enc w base sp held fuel cs x h _ _
 cases fuel with
 |zero=>simp [DataW.trod] at h
 | succ fuel =>
  rw [DataW.trod_step] at h
  unfold DataW.trodStep at h
  simp only [hu] at h
  split at h<;>simp_all
  rename_i k q n _ _ hk
  subst hk
  obtain ⟨⟨_,hw⟩,_⟩:=h
  simp [Lit.wf,IntKind.min,IntKind.max,IntKind.signed,IntKind.bits] at hw
  refine ⟨UInt8.ofNat n.toNat, ?_⟩
  show [Value.int .u8 n]= [bv _]
  simp only [bv,UInt8.toNat_ofNat']
  congr 2
  omega
theorem reads_bool (hu:P.underlying t=some .bool):ReadsR P t boolR (fun _=>True):=by
 intro H enc w base sp held fuel cs x h _ _
 obtain ⟨b,rfl,_⟩:=DataW.trod_bool hu h
 exact ⟨b,rfl,trivial⟩
theorem weightsAll_mem' {H : Type} {P : Program} {e : TypeId} : ∀ {l : List (DataW H)} {d : DataW H}, d ∈ l → ∀ n ∈ d.weights P e, n ∈ DataW.weightsAll P e l
 | c :: r, d, hd, n, hn => by
  simp only [DataW.weightsAll,List.mem_append]
  rcases List.mem_cons.1 hd with rfl|h
  ·exact Or.inl hn
  ·exact Or.inr (weightsAll_mem' h n hn)
 | [],_,h,_,_=>by simp at h
theorem weightsEach_get {H : Type} {P : Program} : ∀ {ts : List TypeId} {l : List (DataW H)} {i : Nat} {u : TypeId} {d : DataW H}, ts[i]? = some u → l[i]? = some d → ∀ n ∈ d.weights P u, n ∈ DataW.weightsEach P ts l
 | c :: r, d :: l, 0, u, y, h1, h2, n, hn => by
  simp only [List.getElem?_cons_zero,Option.some.injEq] at h1 h2
  subst h1;subst h2
  exact List.mem_append_left _ hn
 | c :: r, d :: l, i + 1, u, y, h1, h2, n, hn => by
  simp only [List.getElem?_cons_succ] at h1 h2
  exact List.mem_append_right _ (weightsEach_get h1 h2 n hn)
 | [],_,_,_,_,h,_,_,_=>by simp at h
 |_::_, [],_,_,_,_,h,_,_=>by simp at h
theorem list_of {α : Type} {p : Nat → α → Prop} : ∀ (n : Nat), (∀ i, i < n → ∃ x, p i x) → ∃ l : List α, l.length = n ∧ ∀ i (h : i < l.length), p i l[i]
 |0,_=>⟨[],rfl,fun i h=>absurd h (by simp)⟩
 | n + 1, h => by
  obtain ⟨l,hl,hp⟩:=list_of n (fun i hi=>h i (by omega))
  obtain ⟨x,hx⟩:=h n (by omega)
  refine ⟨l++ [x],by simp [hl],fun i hi=> ?_⟩
  by_cases e:i<l.length
  ·rw [List.getElem_append_left e];exact hp i e
  ·have : i = l.length := by rw [List.length_append, List.length_singleton] at hi; omega
   subst this
   simp only [List.getElem_append_right (Nat.le_refl _),Nat.sub_self,List.getElem_singleton]
   rw [hl];exact hx
theorem reads_slice {α : Type} {r : Rep α} {good : α → Prop} {size bytes : Nat} (ht : P.underlying t = some (.slice e)) (hs : r.size = size) (h0 : 0 < size) (hc : P.cellsOf e = size) (hb : P.bytesOf e = bytes) (hb0 : 0 < bytes) (hr : ReadsR P e r good) :
  ReadsR P t (sliceR r) (fun l=>(∀x∈l,good x)∧l.length*bytes≤140737488355328):=by
 intro H enc w base sp held fuel cs x h hlt hw
 rcases Deep.open_slice ht h with ⟨rfl,rfl⟩|⟨a,len,cap,m,n,D,Pl,rfl,_,hl,hm,hmm,rfl,hx⟩
 ·exact ⟨[],⟨none,0,rfl,GS.nil _ _ _ _ _⟩,by simp,by simp⟩
 ·have hlen : len * bytes ≤ 140737488355328 := by
   have:=List.all_eq_true.1 hw ((((List.range len).map D).length+((List.range (m-len)).map fun j=>D (len+j)).length)*P.bytesOf e) (by simp [DataW.weights,ht])
   simp only [List.length_map,List.length_range,reachBytes,decide_eq_true_eq,hb] at this
   have h2:=Nat.mul_le_mul_right bytes (Nat.le_add_right len (m-len))
   omega
  have hlm:len≤m:=by rw [hmm];split<;>omega
  obtain ⟨l, hll, hlp⟩ := list_of (p := fun i v => (∃ cs', At w (a.add (i * size)) cs' ∧ a.block < w.heap.size ∧ r.rd (fun b => b < w.heap.size) w cs' v) ∧ good v) len (fun i hi => by
   obtain ⟨cs',h1,h2⟩:=hx i (by omega)
   obtain ⟨_,hcl,hcell⟩:=World.cells?_some h1
   rw [hc] at hcl hcell
   obtain ⟨v, hv, hg⟩ := hr H enc w base sp held n cs' (D i, Pl i) h2 (fun y hy => hlt y (List.mem_append_right _ (List.mem_flatMap.2 ⟨i, List.mem_range.2 (by omega), hy⟩))) (List.all_eq_true.2 (fun z hz => List.all_eq_true.1 hw z (by
    simp only [DataW.weights,ht]
    exact List.mem_cons_of_mem _ (List.mem_append_left _ (weightsAll_mem' (List.mem_map.2 ⟨i,List.mem_range.2 hi,rfl⟩) z hz)))))
   have hat:At w (a.add (i*size)) cs':=fun j u hu=>by
    have hj:=(List.getElem?_eq_some_iff.1 hu).1
    rw [hcell j (by omega)];exact hu
   refine ⟨v,⟨cs',hat, ?_,hv⟩,hg⟩
   have:=hat.lt (by intro e;rw [e] at hcl;simp at hcl;omega)
   rwa [block_add] at this)
  have hlen2:len≤len*bytes:=Nat.le_mul_of_pos_right _ hb0
  refine ⟨l,⟨some a,cap,by rw [hll],⟨by omega,by omega,fun i hi=> ?_⟩⟩, ?_,by rw [hll];exact hlen⟩
  ·obtain ⟨⟨cs', h1, h2, h3⟩, _⟩ := hlp i hi
   exact ⟨a,cs',rfl,h2,h2,by rw [hs];exact h1,h3⟩
  ·intro y hy
   obtain ⟨i,hi,rfl⟩:=List.mem_iff_getElem.1 hy
   exact (hlp i hi).2
theorem reads_field {α : Type} {r : Rep α} {good : α → Prop} {fs : Array Field} {i : Nat} {f : Field} (ht : P.underlying t = some (.struct fs)) (hi : fs[i]? = some f) (hr : ReadsR P f.type r good)
  {H:Type} {enc:TypeId×Value→H} {w:World} {base:Nat} {sp:Nat→Bool} {held:Bool} {fuel:Nat} {cs:List Value} {x:DataW H×List MemPlace} (h:DataW.trod enc P w base sp held fuel t cs=some x)
  (hlt: ∀y∈x.2,y.block<w.heap.size) (hw:(x.1.weights P t).all (· ≤reachBytes)=true): ∃v,r.rd (fun b=>b<w.heap.size) w ((cs.drop f.offset).take (P.cellsOf f.type)) v∧good v:=by
 obtain ⟨xs,n,rfl,rfl,_,hxl,hx⟩:=DataW.trod_struct ht h
 have h1:=hx i f hi
 have hil:i<xs.length:=by rw [hxl];exact (Array.getElem?_eq_some_iff.1 hi).1
 rw [List.getElem?_eq_getElem hil] at h1
 refine hr H enc w base sp held n _ _ h1 (fun y hy=>hlt y (List.mem_flatMap.2 ⟨_,List.getElem_mem hil,hy⟩)) (List.all_eq_true.2 (fun z hz=>List.all_eq_true.1 hw z ?_))
 simp only [DataW.weights,ht]
 refine weightsEach_get (i:=i) (u:=f.type) (d:=xs[i].1) ?_ ?_ z hz
 ·rw [List.getElem?_map,Array.getElem?_toList,hi];rfl
 ·rw [List.getElem?_map,List.getElem?_eq_getElem hil];rfl
theorem trod_structLen {fs : Array Field} (ht : P.underlying t = some (.struct fs))
  {H:Type} {enc:TypeId×Value→H} {w:World} {base:Nat} {sp:Nat→Bool} {held:Bool} {fuel:Nat} {cs:List Value} {x:DataW H×List MemPlace} (h:DataW.trod enc P w base sp held fuel t cs=some x):cs.length=P.cellsOf t:=by
 obtain ⟨xs,n,rfl,rfl,h1,_⟩:=DataW.trod_struct ht h
 exact h1
end
section
variable {H:Type} {enc:TypeId×Value→H} {P:Program} {W:World}
theorem arg_reads {α:Type} {r:Rep α} {good:α→Prop} {base:Nat} {t:TypeId} {v:Value} {d:DataW H} (hr:ReadsR P t r good) (h: ∃p,Arg enc P W base t v d p): ∃x,r.rd (fun b=>b<W.heap.size) W v.cells.toList x∧good x:=by
 obtain ⟨p,h⟩:=h
 obtain ⟨fuel,hf⟩:=h.rd
 exact hr H enc W 0 _ true fuel _ _ hf h.lt h.wt
end
end Go.Eng
namespace Go.Eng
open Go.RowKit Go.ChangeShapes Go.WideShapes Go.ChangeAt
theorem reads_digest {P:Program} {t e:TypeId} (ht:P.underlying t=some (.array 32 e)) (he:P.underlying e=some (.int .u8)) (hc:P.cellsOf e=1) (hct:P.cellsOf t=32):ReadsR P t digR (fun _=>True):=by
 intro H enc w base sp held fuel cs x h hlt hw
 obtain ⟨xs,m,rfl,rfl,hl,hxl,hx⟩:=DataW.trod_array ht h
 rw [hct] at hl
 obtain ⟨l, hll, hlp⟩ := list_of (p := fun i (b : UInt8) => (cs.drop (i * 1)).take 1 = [bv b]) 32 (fun i hi => by
  have h1:=hx i hi
  rw [hc,List.getElem?_eq_getElem (by omega)] at h1
  obtain ⟨b, hb, _⟩ := reads_byte he H enc w base sp held m _ _ h1 (fun y hy => hlt y (List.mem_flatMap.2 ⟨_, List.getElem_mem _, hy⟩)) (List.all_eq_true.2 (fun z hz => List.all_eq_true.1 hw z (by
   simp only [DataW.weights,ht]
   exact weightsAll_mem' (List.mem_map.2 ⟨_,List.getElem_mem _,rfl⟩) z hz)))
  exact ⟨b,hb⟩)
 have hcs:cs=l.map bv:=by
  apply List.ext_getElem
  ·rw [hl,List.length_map,hll]
  ·intro i h1 h2
   have hi:i<l.length:=by rw [hll];omega
   have h3:=congrArg (fun z=>z[0]?) (hlp i hi)
   simp only [Nat.mul_one,List.getElem?_cons_zero] at h3
   rw [List.getElem?_take_of_lt (by omega),List.getElem?_drop,Nat.add_zero,List.getElem?_eq_getElem h1] at h3
   simp only [Option.some.injEq] at h3
   rw [h3,List.getElem_map]
 refine ⟨⟨l,hll⟩, ?_,trivial⟩
 show cs=digC _
 rw [digC_map]
 exact hcs
theorem seg_cons {cs s:List Value} {o n m:Nat} (hm:m=o+n) (hs:(cs.drop o).take n=s):cs.drop o=s++cs.drop m:=by
 subst hm
 rw [←hs,←List.drop_drop,List.take_append_drop]
section
variable {H:Type} {enc:TypeId×Value→H} {P:Program} {W:World}
theorem arg_struct {α : Type} {r : Rep α} {good : α → Prop} {base : Nat} {t : TypeId} {v : Value} {d : DataW H} {fs : Array Field} (ht : P.underlying t = some (.struct fs)) (hr : ReadsR P t r good) (h : ∃ p, Arg enc P W base t v d p) :
  ∃cs x,v= .agg cs.toArray∧r.rd (fun b=>b<W.heap.size) W cs x∧good x:=by
 obtain ⟨x,hx,hg⟩:=arg_reads hr h
 obtain ⟨p,h⟩:=h
 obtain ⟨cs,rfl,_⟩:=okWide_struct ht h.ok
 exact ⟨cs.toList,x,by simp,hx,hg⟩
end
end Go.Eng
namespace Go.Proofs.Tryz
open Go.Eng
theorem cl138:callable prog 138=true:=by kernel_rfl
theorem cl139:callable prog 139=true:=by kernel_rfl
theorem cl140:callable prog 140=true:=by kernel_rfl
theorem cl88:callable prog 88=true:=by kernel_rfl
theorem cl93:callable prog 93=true:=by kernel_rfl
theorem cl94:callable prog 94=true:=by kernel_rfl
theorem cl95:callable prog 95=true:=by kernel_rfl
open Go.Eng Go.RowKit
instance:ClC prog 11:=⟨cl11⟩
instance:ClC prog 137:=⟨cl137⟩
instance:ClC prog 138:=⟨cl138⟩
instance:ClC prog 139:=⟨cl139⟩
instance:ClC prog 140:=⟨cl140⟩
instance:ClC prog 15:=⟨cl15⟩
instance:ClC prog 36:=⟨cl36⟩
instance:ClC prog 37:=⟨cl37⟩
instance:ClC prog 38:=⟨cl38⟩
instance:ClC prog 39:=⟨cl39⟩
instance:ClC prog 41:=⟨cl41⟩
instance:ClC prog 42:=⟨cl42⟩
instance:ClC prog 43:=⟨cl43⟩
instance:ClC prog 44:=⟨cl44⟩
instance:ClC prog 45:=⟨cl45⟩
instance:ClC prog 46:=⟨cl46⟩
instance:ClC prog 47:=⟨cl47⟩
instance:ClC prog 83:=⟨cl83⟩
instance:ClC prog 87:=⟨cl87⟩
instance:ClC prog 89:=⟨cl89⟩
instance:ClC prog 90:=⟨cl90⟩
instance:ClC prog 91:=⟨cl91⟩
instance:ClC prog 92:=⟨cl92⟩
instance:ClC prog 93:=⟨cl93⟩
instance:ClC prog 94:=⟨cl94⟩
instance:ClC prog 95:=⟨cl95⟩
instance:FldC prog 38 6 53:=⟨fld38_6⟩
instance:FldC prog 38 2 2:=⟨fld38_2⟩
instance:FldC prog 38 4 46:=⟨fld38_4⟩
instance:FldC prog 38 5 47:=⟨fld38_5⟩
instance:FldC prog 38 0 0:=⟨fld38_0⟩
instance:FldC prog 38 1 1:=⟨fld38_1⟩
instance:FldC prog 24 0 0:=⟨fld24_0⟩
instance:FldC prog 24 1 1:=⟨fld24_1⟩
instance:FldC prog 38 3 4:=⟨fld38_3⟩
instance:FldC prog 47 0 0:=⟨fld47_0⟩
instance:FldC prog 47 1 1:=⟨fld47_1⟩
instance:FldC prog 47 2 2:=⟨fld47_2⟩
instance:FldC prog 47 3 4:=⟨fld47_3⟩
instance:FldC prog 45 0 0:=⟨fld45_0⟩
instance:FldC prog 45 1 1:=⟨fld45_1⟩
instance:FldC prog 45 2 2:=⟨fld45_2⟩
instance:FldC prog 45 3 35:=⟨fld45_3⟩
instance:FldC prog 45 4 36:=⟨fld45_4⟩
instance:FldC prog 45 5 37:=⟨fld45_5⟩
instance:FldC prog 45 6 38:=⟨fld45_6⟩
instance:FldC prog 45 7 39:=⟨fld45_7⟩
instance:FldC prog 45 8 40:=⟨fld45_8⟩
instance:FldC prog 45 9 41:=⟨fld45_9⟩
instance:UlC prog 43 86:=⟨underlying43⟩
instance:FldC prog 86 0 0:=⟨fld86_0⟩
instance:FldC prog 86 1 32:=⟨fld86_1⟩
instance:FldC prog 47 4 46:=⟨fld47_4⟩
instance:FldC prog 47 5 47:=⟨fld47_5⟩
instance:FldC prog 47 6 53:=⟨fld47_6⟩
instance:FldC prog 33 0 0:=⟨fld33_0⟩
instance:FldC prog 33 1 1:=⟨fld33_1⟩
instance:FldC prog 33 2 2:=⟨fld33_2⟩
instance:FldC prog 33 3 35:=⟨fld33_3⟩
instance:FldC prog 33 4 36:=⟨fld33_4⟩
instance:FldC prog 33 5 37:=⟨fld33_5⟩
instance:FldC prog 33 6 38:=⟨fld33_6⟩
instance:FldC prog 33 7 39:=⟨fld33_7⟩
instance:FldC prog 33 8 40:=⟨fld33_8⟩
instance:FldC prog 33 9 41:=⟨fld33_9⟩
instance:UlC prog 31 89:=⟨underlying31⟩
instance:FldC prog 89 0 0:=⟨fld89_0⟩
instance:FldC prog 89 1 32:=⟨fld89_1⟩
end Go.Proofs.Tryz
namespace Go.Eng
theorem bat_len {x:Bat} (h:batOk x):(batE x).length≤294:=by
 obtain ⟨_,h1,h2⟩:=h
 have e1:=flatE_len witemE x.wishes 64 (fun y hy=>by
  have:=wish_len (h2 y hy)
  have e:=numE_small (n:=((wishE y).length:Int)) (by omega) (by omega)
  unfold witemE strE
  simp only [numE,Int.toNat_natCast] at e
  simp only [List.length_append]
  omega)
 have e2:=numE_small (n:=(x.wishes.length:Int)) (by omega) (by omega)
 have e3:(blistE x.wishes).length≤258:=by
  unfold blistE listE
  simp only [List.length_append]
  omega
 have e4:=strE_len (blistE x.wishes) (by omega)
 have e5:=x.dig.h
 unfold batE batchE digE
 simp only [List.length_append]
 omega
theorem listE_len {α:Type} {e:α→List UInt8} {l:List α} {m k:Nat} (hm:l.length≤m) (h2:m<256) (h: ∀x∈l,(e x).length≤k):(listE e l).length≤2+m*k:=by
 have e1:=flatE_len e l k h
 have e2:=numE_small (n:=(l.length:Int)) (by omega) (by omega)
 have e3:=Nat.mul_le_mul_right k hm
 unfold listE
 simp only [List.length_append]
 omega
theorem yesE_len (x:Bool):(yesE x).length≤2:=by cases x<;>exact numE_small (by decide) (by decide)
theorem rpl_len {r:Rpl} (h:rplOk r):(rplE r).length≤32768:=by
 obtain ⟨h1,h2,h3,⟨h4,h5⟩,⟨i1,_,i3,⟨i4,i5⟩,⟨i6,i7⟩,⟨i8,i9⟩,i10,⟨i11,i12⟩,_,i13,i14⟩,_,h7,h8⟩:=h
 have e1:=numE_len h1.1
 have e2:=numE_len h2.1
 have e3:=numE_len h3.1
 have e4:=listE_len (e:=inodeE) (l:=r.nodes) (m:=7) (k:=8) (by omega) (by decide) (fun x hx=>numE_len (h5 x hx).1)
 have e5:=numE_len i1.1
 have e6:=markE_len i3
 have e7:=listE_len (e:=markE) (l:=r.img.own) (m:=4) (k:=40) (by omega) (by decide) (fun x hx=>markE_len (i5 x hx))
 have st: ∀x,istandOk x→(istandE x).length≤48:=fun x hx=>standE_len ⟨hx.1,trivial,hx.2.2.1⟩
 have e8:=listE_len (e:=istandE) (l:=r.img.p) (m:=8) (k:=48) (by omega) (by decide) (fun x hx=>st x (i7 x hx))
 have e9:=listE_len (e:=istandE) (l:=r.img.q) (m:=32) (k:=48) (by omega) (by decide) (fun x hx=>st x (i9 x hx))
 have e10:=numE_len i10
 have e11:=listE_len (e:=markE) (l:=r.img.done) (m:=8) (k:=40) (by omega) (by decide) (fun x hx=>markE_len (i12 x hx))
 have e12:=listE_len (e:=batE) (l:=r.img.batches) (m:=40) (k:=294) (by omega) (by decide) (fun x hx=>bat_len (i14 x hx))
 have e13:=strE_len r.state (by omega)
 have e14:(optE r.left r.change).length≤2180:=by
  unfold optE
  split
  ·rename_i hl
   unfold optOk at h7
   rw [if_pos hl] at h7
   have a1:=changeE_len (change_fine h7)
   have a2:=strE_len (changeE r.change) (by omega)
   unfold chgTE
   omega
  ·exact Nat.zero_le _
 have y1:=yesE_len r.left
 have y2:=yesE_len r.img.active
 have y3:=yesE_len r.img.ended
 simp only [rplE,imgE,List.length_append]
 omega
end Go.Eng
namespace Go.Eng
open Go.RowKit Go.ChangeShapes Go.WideShapes Go.ChangeAt
abbrev blkD {H:Type} (d:DataW H):Nat:=Go.Proofs.YtmbpneaibmldfaaGreat.Rows.uptoBulk d
theorem blk_one {H:Type} (d:DataW H):1≤blkD d:=by
 cases d with
 |lit l=>cases l<;>simp [blkD,Go.Proofs.YtmbpneaibmldfaaGreat.Rows.uptoBulk]
 |nil=>simp [blkD,Go.Proofs.YtmbpneaibmldfaaGreat.Rows.uptoBulk]
 |ptr d=>simp [blkD,Go.Proofs.YtmbpneaibmldfaaGreat.Rows.uptoBulk]
 |slice elems spare=>simp [blkD,Go.Proofs.YtmbpneaibmldfaaGreat.Rows.uptoBulk]
 |agg parts=>simp [blkD,Go.Proofs.YtmbpneaibmldfaaGreat.Rows.uptoBulk]
 |iface t d=>simp [blkD,Go.Proofs.YtmbpneaibmldfaaGreat.Rows.uptoBulk]
 |map entries=>simp [blkD,Go.Proofs.YtmbpneaibmldfaaGreat.Rows.uptoBulk]
 |held h=>simp [blkD,Go.Proofs.YtmbpneaibmldfaaGreat.Rows.uptoBulk]
theorem blk_mem {H : Type} {d : DataW H} : ∀ {l : List (DataW H)}, d ∈ l → blkD d ≤ Go.Proofs.YtmbpneaibmldfaaGreat.Rows.uptoBulkAll l
 | x :: r, h => by
  simp only [Go.Proofs.YtmbpneaibmldfaaGreat.Rows.uptoBulkAll]
  rcases List.mem_cons.1 h with rfl|h
  ·exact Nat.le_add_right _ _
  ·exact Nat.le_trans (blk_mem h) (Nat.le_add_left _ _)
theorem blk_hd {H:Type} {d:DataW H} {r:List (DataW H)} {n:Nat} (h:Go.Proofs.YtmbpneaibmldfaaGreat.Rows.uptoBulkAll (d::r)≤n):blkD d≤n:=by
 simp only [Go.Proofs.YtmbpneaibmldfaaGreat.Rows.uptoBulkAll] at h
 exact Nat.le_trans (Nat.le_add_right _ _) h
theorem blk_len {H : Type} : ∀ (l : List (DataW H)), l.length ≤ Go.Proofs.YtmbpneaibmldfaaGreat.Rows.uptoBulkAll l
 | []=>Nat.le_refl _
 | x :: r => by
  have h1:=blk_one x
  have h2:=blk_len r
  simp only [Go.Proofs.YtmbpneaibmldfaaGreat.Rows.uptoBulkAll,List.length_cons]
  simp only [blkD] at h1
  omega
section
variable {H:Type} {enc:TypeId×Value→H} {P:Program} {w:World} {base:Nat} {sp:Nat→Bool} {held:Bool} {fuel:Nat} {cs:List Value} {x:DataW H×List MemPlace} {t:TypeId}
theorem trod_len {e:TypeId} {A:Option Addr} {n c:Nat} (ht:P.underlying t=some (.slice e)) (h:DataW.trod enc P w base sp held fuel t cs=some x) (hc:cs= [.slice A n c]):n≤blkD x.1:=by
 rcases Deep.open_slice ht h with ⟨hx,h0⟩|⟨a,len,cap,m,k,D,Pl,hx,_,hl,hm,hmm,h0,_⟩
 ·first
   |(rw [hx] at hc;simp at hc;omega)
   |(rw [h0] at hc;simp at hc;omega)
 ·have hn : n = len := by
   first
    |(rw [hx] at hc;simp at hc;omega)
    |(rw [h0] at hc;simp at hc;omega)
  subst hn
  subst h0
  have h1:=blk_len ((List.range n).map D)
  simp only [List.length_map,List.length_range] at h1
  simp only [blkD,Go.Proofs.YtmbpneaibmldfaaGreat.Rows.uptoBulk]
  omega
theorem trod_field {fs : Array Field} {f : Field} (ht : P.underlying t = some (.struct fs)) (i : Nat) (hi : fs[i]? = some f) (h : DataW.trod enc P w base sp held fuel t cs = some x) :
  ∃k y,DataW.trod enc P w base sp held k f.type ((cs.drop f.offset).take (P.cellsOf f.type))=some y∧blkD y.1≤blkD x.1:=by
 obtain ⟨xs,n,rfl,rfl,_,hxl,hx⟩:=DataW.trod_struct ht h
 have h1:=hx i f hi
 have hil:i<xs.length:=by rw [hxl];exact (Array.getElem?_eq_some_iff.1 hi).1
 rw [List.getElem?_eq_getElem hil] at h1
 refine ⟨n,_,h1, ?_⟩
 have h2:=blk_mem (List.mem_map.2 ⟨xs[i],List.getElem_mem hil,rfl⟩:xs[i].1∈xs.map (·.1))
 show blkD xs[i].1≤Go.Proofs.YtmbpneaibmldfaaGreat.Rows.uptoBulk (.agg (xs.map (·.1)))
 simp only [Go.Proofs.YtmbpneaibmldfaaGreat.Rows.uptoBulk]
 omega
end
section
variable {H:Type} {enc:TypeId×Value→H}
theorem args_consD {P : Program} {W : World} {base : Nat} {t : TypeId} {ts : List TypeId} {vs : List Value} {ds : List (DataW H)} (h : Args enc P W base (t :: ts) vs ds) :
  ∃v vs' d ds',vs=v::vs'∧ds=d::ds'∧(∃p,Arg enc P W base t v d p)∧Args enc P W base ts vs' ds':=by
 cases vs with
 |nil=>cases ds<;>exact h.elim
 | cons v vs' =>
  cases ds with
  |nil=>exact h.elim
  |cons d ds'=>exact ⟨v,vs',d,ds',rfl,rfl,h.1,h.2⟩
theorem law_liftedU {C : Checked} {os : Os} {f : FuncId} {fn : Func} {s : ChangeSpec} {tb : TypeId} {F : Stop.Interp} (own : ownKnob C.prog.godebug = none) (started : os.Started) (noInit : C.prog.inits.idxOf? f = none) (hfn : C.prog.funcs[f]? = some fn)
  (witness : ∃ (w : World) (tape : Tape) (i : Input), w.os = os ∧ (w.forCall tape i).Shaped C.prog ∧ i.vars = [] ∧ Input.okWide C.prog (w.forCall tape i) .any w.heap.size f i ∧
   (Go.Proofs.YtmbpneaibmldfaaGreat.Rows.OpenSpec.upto s).pre6 enc C.prog fn [] false (w.forCall tape i).memory i.args∧({}:Assume).holds C.prog (lone (Frame.enter C.prog f i.args .normal) [] (w.forCall tape i)))
  (hlo:laidOutB C.prog=true) (hrd:readB C.prog fn.params.toList=true) (hvars:s.vars= []) (hres:fn.resultTypes= #[tb]) (htb:C.prog.underlying tb=some .bool)
  (hs: ∀ds:List (DataW H),ds.length=fn.params.toList.length→s.fn H ds={results:= [.lit (.bool true)],args:=ds})
  (walk: ∀(W:World) (base:Nat) (args:Array Value) (ds:List (DataW H)),Args enc C.prog W base fn.params.toList args.toList ds→Go.Proofs.YtmbpneaibmldfaaGreat.Rows.uptoBulkAll ds≤1048576→Ret C.prog f args W fun v w'=>v= .bool true∧Ext W w'):
  ReturnsInHanded {} C os f .any ((Go.Proofs.YtmbpneaibmldfaaGreat.Rows.OpenSpec.upto s).pre6 enc C.prog fn [] false) (((Go.Proofs.YtmbpneaibmldfaaGreat.Rows.OpenSpec.upto s).at F).post enc C.prog fn false true false false):=by
 refine returnsInHanded_of_cond_sized (s:=Go.Proofs.YtmbpneaibmldfaaGreat.Rows.OpenSpec.upto s) (k:=Go.Proofs.YtmbpneaibmldfaaGreat.Rows.uptoSmall) rfl own started noInit hfn witness ?_
 intro W base args ds gs before hval hW _ hk hsz _
 have hW':=hW
 obtain ⟨p,q,hA,hV,rfl,hfz,hnd⟩:=hW
 have hv2:(Go.Proofs.YtmbpneaibmldfaaGreat.Rows.OpenSpec.upto s).vars= []:=hvars
 have hvt:DataSpec.varTypes C.prog (Go.Proofs.YtmbpneaibmldfaaGreat.Rows.OpenSpec.upto s).bare.plain= []:=by
  show s.plain.varTypes C.prog= []
  simp [ChangeSpec.plain,DataSpec.varTypes,hvars]
 rw [hv2] at hV
 obtain ⟨rfl,rfl⟩:=trodVars_none hV
 rw [hvt,List.append_nil,List.append_nil] at hsz
 rw [List.append_nil] at hk
 simp only [List.append_nil] at hW'
 have hb1:=of_decide_eq_true hk
 have hlt: ∀x∈p,x.block<W.heap.size:=fun x hx=>hW'.lt x hx
 have hargs:=args_of fn.params.toList args.toList ds p (fun j t v h1 h2=>hval j t v (by simpa using h1) (by simpa using h2)) hA hlt hsz
 refine Calls.mono (walk W base args ds hargs hb1) fun e W' ⟨v,he,hv,hE⟩=>⟨v,he, ?_⟩
 subst hv
 have hds:=hs ds (trodAll_len _ _ _ _ hA)
 have hb:=hE.below
 show s.post enc C.prog fn false true false false W args _ W'
 refine ⟨ds, [],p, [],p, [],hW', ?_, ?_, ?_,hb.frame _,fun h=>by cases h⟩
 ·rw [List.append_nil, hds, hres]
  exact trodAll_mk1 (shut_bool htb true)
 ·rw [List.append_nil, hds]
  exact trodAll_below hlo hb _ _ _ _ hrd hA hlt
 ·rw [List.append_nil, hds, hvars]
  rfl
end
end Go.Eng
namespace Go.Eng
theorem cntQ_append (a b:List Stn) (s:Int):cntQ (a++b) s=cntQ a s+cntQ b s:=by simp [cntQ]
theorem cntQ_none {a:List Stn} {s:Int} (h: ∀x∈a,x.seq≠s):cntQ a s=0:=by
 unfold cntQ
 rw [List.filter_eq_nil_iff.2 (fun x hx=>by simpa using h x hx)]
 rfl
theorem cntQ_all {a:List Stn} {s:Int} (h: ∀x∈a,x.seq=s):cntQ a s=a.length:=by
 unfold cntQ
 rw [List.filter_eq_self.2 (fun x hx=>by simpa using h x hx)]
theorem RunSt.on {l:List Stn} {k same:Nat} (h:RunSt l k same) (h0:0<k) (hk:(l.getD k stand0).seq=(l.getD (k-1) stand0).seq):RunSt l (k+1) (same+1):=by
 obtain ⟨h1,h3,h4⟩:=h.2.2 h0
 have hle:=h.1
 refine ⟨by omega,by omega,fun _=>⟨by omega,fun i a b=> ?_,fun i a=> ?_⟩⟩
 ·rw [show k + 1 - 1 = k by omega]
  by_cases hi:i=k
  ·rw [hi]
  ·rw [h3 i (by omega) (by omega),hk]
 ·rw [show k + 1 - 1 = k by omega, hk]
  exact h4 i (by omega)
theorem RunSt.cnt {l:List Stn} {k same:Nat} (h:RunSt l k same) (h0:0<k) (hk:k≤l.length):cntQ (l.take k) (l.getD (k-1) stand0).seq=same:=by
 obtain ⟨h1,h3,h4⟩:=h.2.2 h0
 have hle:=h.1
 have e:l.take k=l.take (k-same)++(l.drop (k-same)).take same:=by
  rw [←List.take_append_drop (k-same) (l.take k),List.take_take,List.drop_take,Nat.min_eq_left (by omega),show k-(k-same)=same by omega]
 rw [e,cntQ_append,cntQ_none,cntQ_all]
 ·rw [List.length_take,List.length_drop];omega
 ·intro x hx
  obtain ⟨i,hi,rfl⟩:=List.mem_iff_getElem.1 hx
  rw [List.length_take,List.length_drop] at hi
  have:=h3 (k-same+i) (by omega) (by omega)
  rw [List.getD_eq_getElem?_getD,List.getElem?_eq_getElem (by omega)] at this
  simpa using this
 ·intro x hx
  obtain ⟨i,hi,rfl⟩:=List.mem_iff_getElem.1 hx
  rw [List.length_take] at hi
  have:=h4 i (by omega)
  rw [List.getD_eq_getElem?_getD,List.getElem?_eq_getElem (by omega)] at this
  simp only [Option.getD_some] at this
  rw [List.getElem_take]
  omega
theorem stand_step {l : List Stn} {low view : Int} {many k same : Nat} (hr : RunSt l (k + 1) same) (hk : k < l.length) (h1 : low < (l.getD k stand0).seq) (h2 : (l.getD k stand0).seq ≤ low + 8) (h3 : 0 ≤ (l.getD k stand0).view) (h4 : (l.getD k stand0).view < view)
  (h5:0<k→OrdLt (l.getD (k-1) stand0) (l.getD k stand0)) (h6:same≤many) (h7: ∀j,k+1-same≤j→j<k→(l.getD j stand0).dig≠(l.getD k stand0).dig):StandAt l low view many k:=by
 have hc:=hr.cnt (by omega) (by omega)
 rw [show k+1-1=k by omega] at hc
 obtain ⟨_,_,a4⟩:=hr.2.2 (by omega)
 refine ⟨h1,h2,h3,h4,h5,by omega,fun j hj hh=> ?_⟩
 by_cases hjs:k+1-same≤j
 ·exact h7 j hjs hj hh.2
 ·have := a4 j (by omega)
  rw [show k+1-1=k by omega] at this
  omega
theorem stand_many {l:List Stn} {low view:Int} {many k same:Nat} (hr:RunSt l (k+1) same) (hk:k<l.length) (h:many<same): ¬StandAt l low view many k:=by
 have hc:=hr.cnt (by omega) (by omega)
 rw [show k+1-1=k by omega] at hc
 intro hs
 have:=hs.2.2.2.2.2.1
 omega
theorem stand_twice {l:List Stn} {low view:Int} {many k same j:Nat} (hr:RunSt l (k+1) same) (h1:k+1-same≤j) (h2:j<k) (h:(l.getD j stand0).dig=(l.getD k stand0).dig): ¬StandAt l low view many k:=by
 obtain ⟨_,a3,_⟩:=hr.2.2 (by omega)
 have:=a3 j h1 (by omega)
 rw [show k+1-1=k by omega] at this
 intro hs
 exact hs.2.2.2.2.2.2 j h2 ⟨this,h⟩
theorem stand_order {l:List Stn} {low view:Int} {many k:Nat} (h0:0<k) (h: ¬OrdLt (l.getD (k-1) stand0) (l.getD k stand0)): ¬StandAt l low view many k:=fun hs=>h (hs.2.2.2.2.1 h0)
end Go.Eng
