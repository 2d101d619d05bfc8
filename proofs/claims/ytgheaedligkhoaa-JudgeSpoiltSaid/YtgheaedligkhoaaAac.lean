/- What each of these functions computes, for every argument that its theorem names; a part of what the proof of JudgeFinds stands on. -/
import Derived.Test.YtgheaedligkhoaaAab
namespace Go.Proofs.Ytgheaedligkhoaa
open Go.RowKit Go.Eng Go.Eng _root_.Go.Proofs.Try
set_option maxRecDepth 100000
variable {w0 w : World} {M0 Fz : Nat → Prop} {H : List It} {A : Option Addr} {c : Nat}
def WshI (x : Wsh) : Prop := i64 x.client ∧ i64 x.stamp ∧ i64 x.group ∧ i64 x.epoch ∧ i64 x.kind ∧ i64 x.block ∧ i64 x.old ∧ i64 x.new
def MrkI (x : Mrk) : Prop := i64 x.seq
def AnsI (x : Ans) : Prop := i64 x.err ∧ i64 x.epoch
def EvtI (x : Evt) : Prop := i64 x.time ∧ i64 x.kind ∧ i64 x.a ∧ i64 x.b ∧ i64 x.group ∧ i64 x.epoch ∧ i64 x.seq ∧ i64 x.wish.client ∧ i64 x.wish.stamp ∧ i64 x.wish.group ∧ i64 x.wish.epoch ∧ i64 x.wish.kind ∧ i64 x.wish.block ∧ i64 x.wish.old ∧ i64 x.wish.new ∧ i64 x.ans.err ∧ i64 x.ans.epoch
def PlnI (x : Pln) : Prop := i64 x.faults ∧ i64 x.chunks ∧ i64 x.spares ∧ i64 x.clients ∧ i64 x.bad
def LokI (x : Lok) : Prop := i64 x.p.faults ∧ i64 x.p.chunks ∧ i64 x.p.spares ∧ i64 x.p.clients ∧ i64 x.p.bad
def JobI (x : Job) : Prop := i64 x.wish.client ∧ i64 x.wish.stamp ∧ i64 x.wish.group ∧ i64 x.wish.epoch ∧ i64 x.wish.kind ∧ i64 x.wish.block ∧ i64 x.wish.old ∧ i64 x.wish.new ∧ i64 x.ans.err ∧ i64 x.ans.epoch
def CalI (x : Cal) : Prop := i64 x.wish.client ∧ i64 x.wish.stamp ∧ i64 x.wish.group ∧ i64 x.wish.epoch ∧ i64 x.wish.kind ∧ i64 x.wish.block ∧ i64 x.wish.old ∧ i64 x.wish.new ∧ i64 x.many
theorem mark_inj {x y : Mrk} : x = y ↔ ([.int .i64 x.seq] ++ (digC x.dig) : List Value) = [.int .i64 y.seq] ++ (digC y.dig) := by
 constructor
 ·rintro rfl; rfl
 ·intro h
  simp only [List.cons_append, List.nil_append, List.cons.injEq, Value.int.injEq, true_and] at h
  cases x; cases y
  simp only [Mrk.mk.injEq]
  exact ⟨h.1, digC_inj.2 h.2⟩
end Go.Proofs.Ytgheaedligkhoaa
namespace Go.Proofs.Ytgheaedligkhoaa
open Go.ChangeShapes Go.WideShapes Go.ChangeAt Go.RowKit Go.Eng Go.Eng _root_.Go.Proofs.Try
set_option maxRecDepth 100000
variable {w0 w : World} {M0 Fz : Nat → Prop} {H : List It} {A : Option Addr} {c : Nat}
theorem Try.own : ownKnob Try.prog.godebug = none := by kernel_rfl
theorem Try.laidOut : laidOutB Try.prog = true := by kernel_rfl
theorem Try.ce3 : Try.prog.cellsOf 3 = 1 := by kernel_rfl
theorem Try.ce23 : Try.prog.cellsOf 23 = 5 := by kernel_rfl
theorem Try.ce5 : Try.prog.cellsOf 5 = 1 := by kernel_rfl
theorem Try.ce39 : Try.prog.cellsOf 39 = 32 := by kernel_rfl
theorem Try.by5 : Try.prog.bytesOf 5 = 1 := by kernel_rfl
theorem Try.ce40 : Try.prog.cellsOf 40 = 1 := by kernel_rfl
theorem Try.by3 : Try.prog.bytesOf 3 = 8 := by kernel_rfl
theorem Try.ce33 : Try.prog.cellsOf 33 = 1 := by kernel_rfl
theorem Try.ce42 : Try.prog.cellsOf 42 = 10 := by kernel_rfl
theorem Try.ce25 : Try.prog.cellsOf 25 = 1 := by kernel_rfl
theorem Try.ce44 : Try.prog.cellsOf 44 = 4 := by kernel_rfl
theorem Try.ce46 : Try.prog.cellsOf 46 = 53 := by kernel_rfl
end Go.Proofs.Ytgheaedligkhoaa
namespace Go.Proofs.Ytgheaedligkhoaa
open Go.RowKit Go.Eng Go.Eng _root_.Go.Proofs.Try
set_option maxRecDepth 100000
variable {w0 w : World} {M0 Fz : Nat → Prop} {H : List It} {A : Option Addr} {c : Nat}
theorem eqBytes_ok {A B : Option Addr} {c d : Nat} {la lb : List UInt8} {Sa Sb : Nat → Prop} (ha : BS Sa w A c la) (hb : BS Sb w B d lb) : Ret prog 75 #[.slice A la.length c, .slice B lb.length d] w (fun v w' => v = .bool (decide (la = lb)) ∧ Ext w w') := by
 refine ret_of_wk func75 rfl ntmps75 leB_ ?_
 refine so ?_
 refine Cd ?_ ?_<;>intro hne
 refine so ?_
 refine Pt ?_
 exact ⟨_, rfl, bool_f (fun e => hne (by rw [e])), Chg.refl _ _⟩
 have hll : la.length = lb.length := by omega
 refine so ?_
 refine Lp [0, 1, 5] (fun L' w' mes => ∃ (k : Nat), L' = [(0, .slice A la.length c), (1, .slice B lb.length d), (5, iv (k : Int))] ∧ (k ≤ la.length) ∧ (la.take k = lb.take k) ∧ (Ext w w') ∧ la.length - k = mes) (la.length - 0) ⟨0, rfl, by omega, by simp, Chg.refl _ _, rfl⟩ ?_
 rintro _ wr _ ⟨k, rfl, hk, htk, hE, rfl⟩ KL1 hKL1
 have hmx:=ha.mx
 refine so ?_
 refine Cd ?_ ?_<;>intro hlt
 refine so ?_
 refine wc_drawL [SP.eq (.slice A la.length c), SP.eq (iv (k : Int)), SP.ptr (fun _ => True) [bv (la[k]'(by omega))], SP.eq (bv (la[k]'(by omega))), SP.eq (.slice B lb.length d), SP.eq (iv (k : Int)), SP.ptr (fun _ => True) [bv (lb[k]'(by omega))], SP.eq (bv (lb[k]'(by omega))), SP.eq (.bool (decide (((la[k]'(by omega)).toNat : Int) ≠ ((lb[k]'(by omega)).toNat : Int))))] (by kernel_rfl) (by kernel_rfl) ⟨?_, ?_, ?_, ?_, ?_, ?_, ?_, ?_, ?_, trivial⟩ ?_
 intro F wF hER hk
 have e0:=hk.init 0 _ rfl (by kernel_rfl)
 refine Mv_ e0 ?_
 exact qz ⟨Chg.refl _ _, rfl⟩
 intro F wF hER hk
 have e5:=hk.init 5 _ rfl (by kernel_rfl)
 refine Mv_ e5 ?_
 exact qz ⟨Chg.refl _ _, rfl⟩
 intro F wF hER hk
 obtain ⟨u17, e17, h17⟩ := hk.pred 0 (by kernel_rfl) 17 rfl
 obtain rfl := h17
 obtain ⟨u18, e18, h18⟩ := hk.pred 1 (by kernel_rfl) 18 rfl
 obtain rfl := h18
 refine wl_idx (r := byteR) (by decide) sl40 e17 e18 ((ha.ext hE).ext hER) k rfl (by omega) ?_
 rintro a cs hb1 _ hat rfl
 exact qz ⟨Chg.refl _ _, a, rfl, hb1, trivial, hat⟩
 intro F wF hER hk
 obtain ⟨u19, e19, h19⟩ := hk.pred 2 (by kernel_rfl) 19 rfl
 obtain ⟨a19, rfl, _, _, hat19⟩ := h19
 refine Ld_ sc5 e19 hat19.head ?_
 exact qz ⟨Chg.refl _ _, rfl⟩
 intro F wF hER hk
 have e1:=hk.init 1 _ rfl (by kernel_rfl)
 refine Mv_ e1 ?_
 exact qz ⟨Chg.refl _ _, rfl⟩
 intro F wF hER hk
 have e5:=hk.init 5 _ rfl (by kernel_rfl)
 refine Mv_ e5 ?_
 exact qz ⟨Chg.refl _ _, rfl⟩
 intro F wF hER hk
 obtain ⟨u21, e21, h21⟩ := hk.pred 4 (by kernel_rfl) 21 rfl
 obtain rfl := h21
 obtain ⟨u22, e22, h22⟩ := hk.pred 5 (by kernel_rfl) 22 rfl
 obtain rfl := h22
 refine wl_idx (r := byteR) (by decide) sl40 e21 e22 ((hb.ext hE).ext hER) k rfl (by omega) ?_
 rintro a cs hb1 _ hat rfl
 exact qz ⟨Chg.refl _ _, a, rfl, hb1, trivial, hat⟩
 intro F wF hER hk
 obtain ⟨u23, e23, h23⟩ := hk.pred 6 (by kernel_rfl) 23 rfl
 obtain ⟨a23, rfl, _, _, hat23⟩ := h23
 refine Ld_ sc5 e23 hat23.head ?_
 exact qz ⟨Chg.refl _ _, rfl⟩
 intro F wF hER hk
 obtain ⟨u20, e20, h20⟩ := hk.pred 3 (by kernel_rfl) 20 rfl
 obtain rfl := h20
 obtain ⟨u24, e24, h24⟩ := hk.pred 7 (by kernel_rfl) 24 rfl
 obtain rfl := h24
 refine Ne_ e20 e24 ?_
 exact qz ⟨Chg.refl _ _, rfl⟩
 intro F wD hED hini hdo
 refine wk_drop [(0, _), (1, _), (5, _), (25, _)] ⟨di hini 0, di hini 1, di hini 5, dq hdo 8, trivial⟩ ?_
 clear hini hdo
 refine so ?_
 refine Cd ?_ ?_<;>intro hne2<;>refine so ?_
 refine Pt ?_
 exact ⟨_, rfl, bool_f (fun e => hne2 (by subst e; rfl)), hE.trans hED⟩
 refine Kl [0, 1, 5] hKL1 (la.length - (k + 1)) ⟨(k + 1), rfl, by omega, ?_, hE.trans hED, rfl⟩ (by omega)
 rw [← List.take_append_getElem (by omega : k < la.length), ← List.take_append_getElem (by omega : k < lb.length), htk, UInt8.toNat_inj.1 (by omega : la[k].toNat = lb[k].toNat)]
 have hkl : k = la.length := by omega
 refine so ?_
 refine Pt ?_
 exact ⟨_, rfl, bool_t (by rw [hkl, List.take_length, hll, List.take_length] at htk; exact htk), hE⟩
set_option maxHeartbeats 40000000 in
theorem jeqInts_ok {Aa : Option Addr} {ca : Nat} {a : List Int} {Sa : Nat → Prop} {Ab : Option Addr} {cb : Nat} {b : List Int} {Sb : Nat → Prop} (ha : GS intR Sa w Aa ca a) (hb : GS intR Sb w Ab cb b) : Ret prog 76 #[.slice Aa a.length ca, .slice Ab b.length cb] w (fun v w' => v = .bool (decide (a = b)) ∧ Ext w w') := by
 have mha:=ha.mx
 have mhb:=hb.mx
 refine ret_of_wk func76 rfl ntmps76 leB_ ?_
 refine so ?_
 refine Cd ?_ ?_<;>intro hne
 refine so ?_
 refine Pt ?_
 exact ⟨_, rfl, bool_f (fun e => hne (by rw [e])), me⟩
 have hll : a.length = b.length := by omega
 refine so ?_
 refine Lp [0, 1, 5] (fun L' w' mes => ∃ (k : Nat), L' = [(0, .slice Aa a.length ca), (1, .slice Ab b.length cb), (5, iv (k : Int))] ∧ (k ≤ a.length) ∧ (a.take k = b.take k) ∧ Ext w w' ∧ a.length - k = mes) (a.length - 0) (by
     refine ⟨0, rfl, ?_, ?_, me, rfl⟩
     omega
     simp) ?_
 rintro _ wr _ ⟨k, rfl, hk, htk, hEq0, rfl⟩ KL1 hKL1
 refine so ?_
 refine Cd ?_ ?_<;>intro hlt
 refine so ?_
 obtain ⟨aw2, hAw2, hatw2⟩ := GS.elI (ha.to (w' := wr)) k (by omega)
 obtain ⟨aw6, hAw6, hatw6⟩ := GS.elI (hb.to (w' := wr)) k (by omega)
 refine wdE 9 (fun wD hED => pl) fun wD hED => so ?_
 refine Cd ?_ ?_<;>intro hne2<;>refine so ?_
 refine Pt ?_
 exact ⟨_, rfl, bool_f (fun e => hne2 (by rw [e])), me⟩
 refine Kl [0, 1, 5] hKL1 (a.length - (k + 1)) ⟨(k + 1), rfl, by omega, ?_, me, rfl⟩ (by omega)
 rw [take_snoc 0 (by omega : k < a.length), take_snoc 0 (by omega : k < b.length), htk, Decidable.not_not.1 hne2]
 have hkl : k = a.length := by omega
 refine so ?_
 refine Pt ?_
 exact ⟨_, rfl, bool_t (by rw [hkl, List.take_length, hll, List.take_length] at htk; exact htk), me⟩
set_option maxHeartbeats 40000000 in
theorem seqI_ok {Aa : Option Addr} {ca : Nat} {a : List Int} {Sa : Nat → Prop} {Ab : Option Addr} {cb : Nat} {b : List Int} {Sb : Nat → Prop} (ha : GS intR Sa w Aa ca a) (hb : GS intR Sb w Ab cb b) : Ret prog 78 #[.slice Aa a.length ca, .slice Ab b.length cb] w (fun v w' => v = .bool (decide (a = b)) ∧ Ext w w') := by
 have mha:=ha.mx
 have mhb:=hb.mx
 refine ret_of_wk func78 rfl ntmps78 leB_ ?_
 refine so ?_
 refine Cd ?_ ?_<;>intro hne
 refine so ?_
 refine Pt ?_
 exact ⟨_, rfl, bool_f (fun e => hne (by rw [e])), me⟩
 have hll : a.length = b.length := by omega
 refine so ?_
 refine Lp [0, 1, 12, 13] (fun L' w' mes => ∃ (k : Nat), L' = [(0, .slice Aa a.length ca), (1, .slice Ab b.length cb), (12, iv (a.length : Int)), (13, iv (k : Int))] ∧ (k ≤ a.length) ∧ (a.take k = b.take k) ∧ Ext w w' ∧ a.length - k = mes) (a.length - 0) (by
     refine ⟨0, rfl, ?_, ?_, me, rfl⟩
     omega
     simp) ?_
 rintro _ wr _ ⟨k, rfl, hk, htk, hEq0, rfl⟩ KL1 hKL1
 refine so ?_
 refine Cd ?_ ?_<;>intro hlt
 refine so ?_
 obtain ⟨aw2, hAw2, hatw2⟩ := GS.elI (ha.to (w' := wr)) k (by omega)
 obtain ⟨aw6, hAw6, hatw6⟩ := GS.elI (hb.to (w' := wr)) k (by omega)
 refine wdE 9 (fun wD hED => pl) fun wD hED => so ?_
 refine Cd ?_ ?_<;>intro hne2<;>refine so ?_
 refine Pt ?_
 exact ⟨_, rfl, bool_f (fun e => hne2 (by rw [e])), me⟩
 refine Kl [0, 1, 12, 13] hKL1 (a.length - (k + 1)) ⟨(k + 1), rfl, by omega, ?_, me, rfl⟩ (by omega)
 rw [take_snoc 0 (by omega : k < a.length), take_snoc 0 (by omega : k < b.length), htk, Decidable.not_not.1 hne2]
 have hkl : k = a.length := by omega
 refine so ?_
 refine Pt ?_
 exact ⟨_, rfl, bool_t (by rw [hkl, List.take_length, hll, List.take_length] at htk; exact htk), me⟩
set_option maxHeartbeats 4000000 in
theorem jbequal_ok {Aa : Option Addr} {ca : Nat} {a : List UInt8} {Sa : Nat → Prop} {Ab : Option Addr} {cb : Nat} {b : List UInt8} {Sb : Nat → Prop} {w : World} (ha : GS byteR Sa w Aa ca a) (hb : GS byteR Sb w Ab cb b) : Ret Try.prog 61 #[.slice Aa a.length ca, .slice Ab b.length cb] w (fun v w' => v = .bool (decide (a = b)) ∧ Ext w w') := by
 have mha := ha.mx
 have mhb := hb.mx
 refine ret_of_wk Try.func61 rfl Try.ntmps61 (Nat.le_of_ble_eq_true rfl) ?_
 have hEc : Ext w w := Chg.refl _ _
 refine wc_seq ?_
 refine wc_region ?_
 refine wl_assign (by decide) rfl ?_
 refine wl_nil ?_
 refine wk_norm ?_
 refine wc_seq ?_
 refine wc_region ?_
 refine wl_move (by decide) rfl ?_
 refine wl_b2s (by decide) Try.underlying40 Try.underlying5 Try.underlying9 rfl ha ?_
 refine wl_move (by decide) rfl ?_
 refine wl_b2s (by decide) Try.underlying40 Try.underlying5 Try.underlying9 rfl hb ?_
 refine wl_eqls (by decide) rfl rfl ?_
 refine wl_assign (by decide) rfl ?_
 refine wl_nil ?_
 refine wk_norm ?_
 refine wc_ret ?_
 refine wk_post1 (.inl rfl) Try.results61 rfl ?_
 exact ⟨_, rfl, rfl, hEc⟩
def plain8 (w : Wsh) : List Int := [w.client, w.stamp, w.group, w.epoch, w.kind, w.block, w.old, w.new]
def P8C (w : Wsh) : List Value := [.int .i64 w.client, .int .i64 w.stamp, .int .i64 w.group, .int .i64 w.epoch, .int .i64 w.kind, .int .i64 w.block, .int .i64 w.old, .int .i64 w.new]
set_option maxHeartbeats 40000000 in
theorem jwithin_ok {n : Int} {least : Int} {most : Int}  : Ret prog 47 #[.int .i64 n, .int .i64 least, .int .i64 most] w (fun v w' => v = .bool (decide (least ≤ n ∧ n ≤ most)) ∧ w' = w) := by
 refine ret_of_wk func47 rfl ntmps47 leB_ ?_
 refine so ?_
 refine Gs 10 ?_ ?_<;>intro hg1<;>refine so ?_
 refine Pt ?_
 exact ⟨_, rfl, congrArg Value.bool (decide_eq_decide.2 (by omega)), rfl⟩
 refine Pt ?_
 exact ⟨_, rfl, bool_f (by omega), rfl⟩
end Go.Proofs.Ytgheaedligkhoaa
namespace Go.Proofs.Ytgheaedligkhoaa
open Go.RowKit Go.Eng _root_.Go.Proofs.Try Go.Eng _root_.Go.Proofs.Try
set_option maxRecDepth 100000
variable {w0 w : World} {M0 Fz : Nat → Prop} {H : List It} {A : Option Addr} {c : Nat}
structure JMem where
 g : Nat
 A : Option Addr
 c : Nat
 m1 : Nat
 m2 : Nat
 m3 : Nat
 m4 : Nat
 m5 : Nat
 m6 : Nat
 m7 : Nat
structure JVal where
 time : Int
 down : Int → Bool
 bat : Int → Int → Int → Option Dig
 mrk : Int → Int → Int → Option Dig
 jobs : Int → Int → Int → Int → List Job
 sld : Int → Int → List Mrk
 frst : Int → Option Dig
 calls : Int → Option Cal
abbrev eraV (g ep : Int) : Value := .agg [iv g, iv ep].toArray
abbrev spotV (g ep s : Int) : Value := .agg [iv g, iv ep, iv s].toArray
abbrev ranV (g ep s n : Int) : Value := .agg [iv g, iv ep, iv s, iv n].toArray
abbrev digV (d : Dig) : Value := .agg (digC d).toArray
def markC (m : Mrk) : List Value := [iv m.seq] ++ digC m.dig
def downR (f : Value → Option Value) (v : Int → Bool) : Prop := ∀ a, (f (iv a)).getD (.bool false) = .bool (v a)
abbrev nR : Value → Option (List Value) := fun _ => none
theorem boo4 : boB prog 4 = true := by kernel_rfl
theorem wf64 {a : Int} (h : i64 a) : (Lit.int .i64 a).wf = true := by
 have := fit_int h.1 h.2
 simpa [fitC] using this
theorem kI3 : Go.Maps.Keyed prog 3 := Go.Maps.int_keyed (q := .i64) (by kernel_rfl)
theorem kb87 : keyB prog 6 87 [some .i64, some .i64] = true := by kernel_rfl
theorem kb89 : keyB prog 6 89 [some .i64, some .i64, some .i64] = true := by kernel_rfl
theorem kb91 : keyB prog 6 91 [some .i64, some .i64, some .i64, some .i64] = true := by kernel_rfl
theorem lkV {P : Program} {n : Nat} {L : List (Nat × Value)} {w : World} {Q : Exit → Act → World → Prop} {ops : Array Oper} {rest : List Oper} {ty : TypeId} {pos : String} {af : Array Edge} {d : Nat} {t k e : TypeId} {m : Nat} {f : Value → Option Value} {x ix : Operand} {key z u : Value} {l : Lit} (hv : (f key).getD z = u) (K : Go.Maps.Keyed P k) (hk : keyOf P k key = some l) (hm : MapB P k w m f) (h : WL P n ops Q rest ((d, u) :: L) w) (ht : P.underlying t = some (.map k e) := by kernel_rfl) (hz : (P.info? e).bind (·.zero) = some z := by kernel_rfl) (hx : ev L x = some (.map (some m)) := by rfl) (hi : ev L ix = some key := by rfl) (hd : d < n := by decide) :
  WL P n ops Q ({ dst := some d, op := .lookup t x ix false, type := ty, pos := pos, after := af, guard := none } :: rest) L w := by
 subst hv
 exact wl_lookup hd K ht hz hx hi hk hm h
theorem lkO {P : Program} {n : Nat} {L : List (Nat × Value)} {w : World} {Q : Exit → Act → World → Prop} {ops : Array Oper} {rest : List Oper} {ty : TypeId} {pos : String} {af : Array Edge} {d : Nat} {t k e : TypeId} {m : Nat} {f : Value → Option Value} {x ix : Operand} {key z u : Value} {b : Bool} {l : Lit} (hv : (f key).getD z = u) (hb : (f key).isSome = b) (K : Go.Maps.Keyed P k) (hk : keyOf P k key = some l) (hm : MapB P k w m f) (h : WL P n ops Q rest ((d, .tuple [u, .bool b].toArray) :: L) w) (ht : P.underlying t = some (.map k e) := by kernel_rfl) (hz : (P.info? e).bind (·.zero) = some z := by kernel_rfl) (hx : ev L x = some (.map (some m)) := by rfl) (hi : ev L ix = some key := by rfl) (hd : d < n := by decide) :
  WL P n ops Q ({ dst := some d, op := .lookup t x ix true, type := ty, pos := pos, after := af, guard := none } :: rest) L w := by
 subst hv
 subst hb
 exact wl_lookupOk hd K ht hz hx hi hk hm h
theorem ag87 : agB prog 87 2 = true := by kernel_rfl
theorem ag89 : agB prog 89 3 = true := by kernel_rfl
theorem ag91 : agB prog 91 4 = true := by kernel_rfl
def up3 (t : Int → Int → Int → Option Dig) (g ep s : Int) (d : Dig) : Int → Int → Int → Option Dig := fun a b c => if a = g ∧ b = ep ∧ c = s then some d else t a b c
abbrev wsC (e : Wsh) (A0 : Option Addr) (c0 : Nat) (A1 : Option Addr) (c1 : Nat) : List Value := [.int .i64 e.client, .int .i64 e.stamp, .int .i64 e.group, .int .i64 e.epoch, .int .i64 e.kind, .int .i64 e.block, .slice A0 e.data.length c0, .int .i64 e.old, .int .i64 e.new, .slice A1 e.next.length c1]
abbrev anC (e : Ans) (A2 : Option Addr) (c2 : Nat) (A3 : Option Addr) (c3 : Nat) : List Value := [.int .i64 e.err, .slice A2 e.data.length c2, .int .i64 e.epoch, .slice A3 e.nodes.length c3]
theorem updG_none {α : Type} {f : Value → Option α} {key : Value} (h : f key = none) : updG f key none = f := by
 funext x
 by_cases e : x = key
 ·subst e; rw [updG_same, h]
 ·rw [updG_other _ _ e]
theorem updG_updG {α : Type} (f : Value → Option α) (key : Value) (u v : Option α) : updG (updG f key u) key v = updG f key v := by
 funext x
 by_cases e : x = key
 ·subst e; rw [updG_same, updG_same]
 ·rw [updG_other _ _ e, updG_other _ _ e, updG_other _ _ e]
theorem rowIn {w0 w : World} {M0 Fz : Nat → Prop} {H : List It} {i k e' size m : Nat} {f : Value → Option Value} {rows : Value → Option (List Value)} {key : Value} {xs : List Value} (hp : HP w0 M0 Fz w H) (hi : H[i]? = some (itMR prog k e' size m f rows)) (hx : rows key = some xs) : ∃ A n c, f key = some (.slice A n c) ∧ OwnRow e' size 0 w A n c xs := by
 obtain ⟨K, ⟨B, _, h2, _⟩, _⟩ := hp.focus hi
 obtain ⟨A, n, c, h3, h4, _⟩ := h2.row key xs hx
 exact ⟨A, n, c, h3, h4⟩
def runF (e : Evt) (n : Int) (o : List Evt) (x : Evt) : List Evt := if x.a = n then (if x.kind = 9 then [] else if x.kind = 3 ∧ thereE x e ∧ x.seq = e.seq then o ++ [x] else o) else o
theorem names_take {q : Int → Bool} {m : Nat} : ((List.range (m + 1)).map fun (i : Nat) => (i : Int) + 1).any q = (((List.range m).map fun (i : Nat) => (i : Int) + 1).any q || q ((m : Int) + 1)) := by
 rw [List.range_succ, List.map_append, List.any_append]
 simp
def upc (t : Int → Option Cal) (a : Int) (c : Cal) : Int → Option Cal := fun n => if n = a then some c else t n
theorem addAB {w0 w w' : World} {M0 Fz : Nat → Prop} {H : List It} (h : HP w0 M0 Fz w H) (hE : Ext w w') {gA gB eA eB : Nat} {cs ds : List Value} (hA : Blk w' gA eA cs) (hB : Blk w' gB eB ds) (hne : gA ≠ gB) (lA : w.heap.size ≤ gA) (lB : w.heap.size ≤ gB) : HP w0 M0 Fz w' (itB gA eA cs :: itB gB eB ds :: H) := by
 have h1 := h.add hE (x := ⟨fun w K => (Blk w gA eA cs ∧ Blk w gB eB ds) ∧ ∀ b, K b ↔ b = gA ∨ b = gB, fun hs ⟨⟨a, b⟩, c⟩ => ⟨⟨(hs gA ((c gA).2 (.inl rfl))).trans a, (hs gB ((c gB).2 (.inr rfl))).trans b⟩, c⟩, fun ⟨⟨a, b⟩, c⟩ d hd => by rcases (c d).1 hd with rfl | rfl; exact a.lt; exact b.lt⟩) (K := fun b => b = gA ∨ b = gB) ⟨⟨hA, hB⟩, fun _ => Iff.rfl⟩ (fun b hb => by rcases hb with rfl | rfl; exact lA; exact lB)
 exact h1.split (fun K ⟨⟨a, b⟩, c⟩ => ⟨fun b => b = gA, fun b => b = gB, ⟨a, fun _ => Iff.rfl⟩, ⟨b, fun _ => Iff.rfl⟩, fun x hx => (c x).2 (.inl hx), fun x hx => (c x).2 (.inr hx), fun x h1 h2 => hne (h1.symm.trans h2)⟩)
end Go.Proofs.Ytgheaedligkhoaa
namespace Go.Proofs.Ytgheaedligkhoaa
open Go.RowKit Go.Eng Go.Eng _root_.Go.Proofs.Try
set_option maxRecDepth 100000
variable {w0 w : World} {M0 Fz : Nat → Prop} {H : List It} {A : Option Addr} {c : Nat}
def opR : Rep HOp where
 size := 4
 rd := fun S w cs x => ∃ A c, cs = [.bool x.wr, .slice A x.val.length c, .int .i64 x.b, .int .i64 x.e] ∧ GS byteR S w A c x.val
 len := by rintro _ _ _ _ ⟨_, _, rfl, _⟩; rfl
 one := by
  rintro _ _ _ _ ⟨_, _, rfl, _⟩ u hu
  simp only [List.mem_cons, List.not_mem_nil, or_false] at hu
  rcases hu with rfl | rfl | rfl | rfl <;> rfl
 keep := by rintro _ _ _ _ _ _ ch hm ⟨A, c, rfl, h⟩; exact ⟨A, c, rfl, h.keep ch hm⟩
 mono := by rintro _ _ _ _ _ hs ⟨A, c, rfl, h⟩; exact ⟨A, c, rfl, h.mono hs⟩
abbrev IS (S : Nat → Prop) (w : World) (A : Option Addr) (c : Nat) (l : List Int) : Prop := GS intR S w A c l
theorem whole_no {H : List HOp} {s k : Nat} (hk : k < H.length) (he : 0 < (hop H k).e) (hn : s.testBit k = false) : wholeS H s = false := by
 cases h : wholeS H s
 ·rfl
 ·rw [wholeS, allN_iff] at h
  have := h k hk
  rw [hn, decide_eq_true he] at this
  cases this
theorem whole_yes {H : List HOp} {s : Nat} (h : ∀ j, j < H.length → 0 < (hop H j).e → s.testBit j = true) : wholeS H s = true := by
 rw [wholeS, allN_iff]
 intro k hk
 by_cases he : 0 < (hop H k).e
 ·rw [h k hk he, Bool.or_true]
 ·rw [decide_eq_false he]; rfl
theorem allow_no_bit {H : List HOp} {f : List UInt8} {s i : Nat} {last : Int} (h : s.testBit i = true) : allowS H f s last i = false := by simp [allowS, h]
theorem allow_no_val {H : List HOp} {f : List UInt8} {s i : Nat} {last : Int} (h1 : (hop H i).wr = false) (h2 : ¬ (hop H i).val = valueOf H f last) : allowS H f s last i = false := by simp [allowS, h1, h2]
theorem allow_no_ahead {H : List HOp} {f : List UInt8} {s i k : Nat} {last : Int} (hk : k < H.length) (h1 : 0 < (hop H k).e) (h2 : (hop H k).e < (hop H i).b) (h3 : s.testBit k = false) : allowS H f s last i = false := by
 cases h : allowS H f s last i
 ·rfl
 ·unfold allowS at h
  simp only [Bool.and_eq_true] at h
  have := allN_iff.1 h.1.2 k hk
  simp [ahd, h1, h2, h3] at this
theorem allow_yes {H : List HOp} {f : List UInt8} {s i : Nat} {last : Int} (h1 : s.testBit i = false) (h2 : ∀ j, j < H.length → 0 < (hop H j).e → (hop H j).e < (hop H i).b → s.testBit j = true) (h3 : (hop H i).wr = true ∨ (hop H i).val = valueOf H f last) : allowS H f s last i = true := by
 unfold allowS
 simp only [Bool.and_eq_true]
 refine ⟨⟨by simp [h1], ?_⟩, by simpa using h3⟩
 rw [allN_iff]
 intro k hk
 by_cases h : 0 < (hop H k).e ∧ (hop H k).e < (hop H i).b
 ·simp [h2 k hk h.1 h.2]
 ·simp [ahd, h]
theorem chk_long {H : List HOp} (h : 14 < H.length) : chkH H = 5 := by rw [chkH, if_pos h]
theorem chk_bad {H : List HOp} {k : Nat} (hl : ¬ 14 < H.length) (hk : k < H.length) (hb : badOp (hop H k) = true) : chkH H = 2 := by
 rw [chkH, if_neg hl, if_pos]
 rw [List.any_eq_true]
 exact ⟨hop H k, by rw [hop_get H hk]; exact List.getElem_mem _, hb⟩
theorem chk_ok {H : List HOp} (hl : ¬ 14 < H.length) (hb : ∀ k, k < H.length → badOp (hop H k) = false) : chkH H = 0 := by
 rw [chkH_zero]
 refine ⟨by omega, fun x hx => ?_⟩
 obtain ⟨k, hk, rfl⟩ := List.mem_iff_getElem.1 hx
 rw [← hop_get H hk]
 exact hb k hk
theorem chk1_ok {x : HOp} : Ret prog 99 #[.agg #[.bool x.wr, .slice A x.val.length c, .int .i64 x.b, .int .i64 x.e]] w (fun v w' => v = .bool (badOp x) ∧ Ext w w') := by
 refine ret_of_wk func99 rfl ntmps99 leB_ ?_
 have hp:=HP.begin_ w
 refine so ?_
 refine Bx hp (h := fun gs1 w1 hp hE1 => so ?_)
 refine Gs 6 ?_ ?_<;>intro h5<;>refine so ?_
 refine Pt ?_
 exact ⟨_, rfl, by unfold badOp; refine congrArg Value.bool ?_; first | exact (decide_eq_true (by omega)).symm | exact (decide_eq_false (by omega)).symm | exact decide_eq_decide.2 (by omega), hp.chg⟩
 refine Gs 10 ?_ ?_<;>intro h12<;>refine so ?_
 refine Pt ?_
 exact ⟨_, rfl, by unfold badOp; refine congrArg Value.bool ?_; first | exact (decide_eq_true (by omega)).symm | exact (decide_eq_false (by omega)).symm | exact decide_eq_decide.2 (by omega), hp.chg⟩
 refine Pt ?_
 exact ⟨_, rfl, by unfold badOp; refine congrArg Value.bool ?_; first | exact (decide_eq_true (by omega)).symm | exact (decide_eq_false (by omega)).symm | exact decide_eq_decide.2 (by omega), hp.chg⟩
theorem bequal_ok {A B : Option Addr} {c d : Nat} {la lb : List UInt8} {Sa Sb : Nat → Prop} {w : World} (ha : BS Sa w A c la) (hb : BS Sb w B d lb) : Ret Try.prog 61 #[.slice A la.length c, .slice B lb.length d] w (fun v w' => v = .bool (decide (la = lb)) ∧ Ext w w') := by
 refine ret_of_wk Try.func61 rfl Try.ntmps61 (Nat.le_of_ble_eq_true rfl) ?_
 refine wc_seq ?_
 refine wc_region ?_
 refine wl_assign (by decide) rfl ?_
 refine wl_nil ?_
 refine wk_norm ?_
 refine wc_seq ?_
 refine wc_region ?_
 refine wl_move (by decide) rfl ?_
 refine wl_b2s (by decide) Try.underlying40 Try.underlying5 Try.underlying9 rfl ha ?_
 refine wl_move (by decide) rfl ?_
 refine wl_b2s (by decide) Try.underlying40 Try.underlying5 Try.underlying9 rfl hb ?_
 refine wl_eqls (by decide) rfl rfl ?_
 refine wl_assign (by decide) rfl ?_
 refine wl_nil ?_
 refine wk_norm ?_
 refine wc_ret ?_
 refine wk_post1 (.inl rfl) Try.results61 rfl ?_
 exact ⟨_, rfl, rfl, Chg.refl _ _⟩
def keysC (T : List (Nat × Int)) : List Value := (T.map fun t => [Value.int .i64 (t.1 : Int), .int .i64 t.2]).flatten
def MemoK (H : List HOp) (first : List UInt8) (T : List (Nat × Int)) : Prop := T.Nodup ∧ ∀ t ∈ T, G H first t.1 t.2 = none ∧ t.1 < 16384 ∧ -1 ≤ t.2 ∧ t.2 < 14
def LastK (H : List HOp) (last : Int) : Prop := -1 ≤ last ∧ last < H.length
theorem nodup_map {α β : Type} {f : α → β} : ∀ {l : List α}, l.Nodup → (∀ a ∈ l, ∀ b ∈ l, f a = f b → a = b) → (l.map f).Nodup
 | [], _, _ => by simp
 | x :: t, h, hf => by
  obtain ⟨h1, h2⟩ := List.nodup_cons.1 h
  rw [List.map_cons, List.nodup_cons]
  refine ⟨fun hm => ?_, nodup_map h2 (fun a ha b hb => hf a (by simp [ha]) b (by simp [hb]))⟩
  obtain ⟨y, hy, e⟩ := List.mem_map.1 hm
  exact h1 (hf y (by simp [hy]) x (by simp) e ▸ hy)
def ordS (H : List HOp) (first : List UInt8) : List Nat × Bool × Int :=
 if chkH H = 0 then (match G H first 0 (-1) with | some r => (r, true, 0) | none => ([], false, 0)) else ([], false, chkH H)
def keyV (t : Nat × Int) : Value := .agg #[.int .i64 (t.1 : Int), .int .i64 t.2]
def capV (gE gT gF gL gB gO gf : Nat) : Value := .func (.func 93) #[] #[.pointer (some ⟨gE, 0, none⟩), .pointer (some ⟨gT, 0, none⟩), .pointer (some ⟨gF, 0, none⟩), .pointer (some ⟨gL, 0, none⟩), .pointer (some ⟨gB, 0, none⟩), .pointer (some ⟨gO, 0, none⟩), .pointer (some ⟨gf, 0, none⟩)]
def TriedK (f : Value → Option Value) : Prop := ∀ key v, f key = some v → v = .int .i64 1
theorem befL_get {H : List HOp} {i : Nat} (_hi : i < H.length) (h2 : i < (befL H).length) : (befL H)[i] = ((setN (ahd H i) H.length : Nat) : Int) := by simp [befL]
theorem allow_no_sub {H : List HOp} {first : List UInt8} {s i : Nat} {last : Int} (hl : H.length ≤ 14) (hs : s < 9223372036854775808) (h : subN (setN (ahd H i) H.length) s ≠ 0) : allowS H first s last i = false := by
 cases ha : allowS H first s last i
 ·rfl
 ·exfalso
  apply h
  rw [bef_sub hl hs]
  intro k hk h1 h2
  unfold allowS at ha
  simp only [Bool.and_eq_true] at ha
  have := allN_iff.1 ha.1.2 k hk
  simpa [ahd, h1, h2] using this
end Go.Proofs.Ytgheaedligkhoaa
namespace Go.Proofs.Ytgheaedligkhoaa
open Go.RowKit Go.Eng _root_.Go.Proofs.Try Go.Eng _root_.Go.Proofs.Try
set_option maxRecDepth 100000
variable {w0 w : World} {M0 Fz : Nat → Prop} {H : List It} {A : Option Addr} {c : Nat}
abbrev pairV (c t : Int) : Value := .agg [iv c, iv t].toArray
theorem kb80 : keyB prog 6 80 [some .i64, some .i64] = true := by kernel_rfl
theorem flat_cell {rows : List (List Value)} {mm j o : Nat} {cs : List Value} (hl : ∀ x ∈ rows, x.length = mm) (hj : rows[j]? = some cs) (ho : o < mm) : rows.flatten[j * mm + o]? = cs[o]? := by
 induction rows generalizing j with
 | nil => simp at hj
 | cons x t ih =>
  have hx := hl x (by simp)
  cases j with
  | zero =>
   simp only [List.getElem?_cons_zero, Option.some.injEq] at hj
   subst hj
   rw [List.flatten_cons, Nat.zero_mul, Nat.zero_add, List.getElem?_append_left (by omega)]
  | succ j =>
   simp only [List.getElem?_cons_succ] at hj
   rw [List.flatten_cons, ← ih (fun y hy => hl y (by simp [hy])) hj, List.getElem?_append_right (by rw [Nat.succ_mul]; omega)]
   congr 1
   rw [Nat.succ_mul]
   omega
theorem row_addr {w : World} {e size k c j : Nat} {A : Option Addr} {xs : List Value} (h : OwnRow e size 0 w A k c xs) (hj : j < k) : ∃ g, A = some ⟨g, 0, none⟩ := by
 rcases h.row with ⟨_, h0⟩ | ⟨g, _, hA, _⟩
 ·omega
 ·exact ⟨g, hA⟩
theorem wl_hloadR {P : Program} {n : Nat} {L : List (Nat × Value)} {w0 w : World} {M0 Fz : Nat → Prop} {H : List It} {Q : Exit → Act → World → Prop} {ops : Array Oper} {rest : List Oper} {ty : TypeId} {pos : String} {af : Array Edge} {d i : Nat} {t e size k c g o : Nat} {xs : List Value} {x : Operand} {v : Value} (hd : d < n) (hs : scB P t = true) (hx : ev L x = some (.pointer (some ⟨g, o, none⟩))) (hp : HP w0 M0 Fz w H) (hi : H[i]? = some (itR e size (some ⟨g, 0, none⟩) k c xs)) (hv : xs[o]? = some v)
  (h : WL P n ops Q rest ((d, v) :: L) w) : WL P n ops Q ({ dst := some d, op := .load t x, type := ty, pos := pos, after := af, guard := none } :: rest) L w := by
 have h1 := (hp.rowAt hi).at_ rfl o v hv
 rw [add_lit', Nat.zero_add] at h1
 exact wl_load hd hs hx h1 h
theorem wl_idxR {P : Program} {n : Nat} {L : List (Nat × Value)} {w : World} {Q : Exit → Act → World → Prop} {ops : Array Oper} {rest : List Oper} {ty : TypeId} {pos : String} {af : Array Edge} {d : Nat} {g c t e size bytes m : Nat} {x ix : Operand} {k : IntKind} {i : Int} (hd : d < n) (hT : slB P t e size bytes = true) (hx : ev L x = some (.slice (some ⟨g, 0, none⟩) m c)) (hi : ev L ix = some (.int k i)) (j : Nat) (hj : i = (j : Int)) (hlt : j < m)
  (h : WL P n ops Q rest ((d, .pointer (some ⟨g, j * size, none⟩)) :: L) w) : WL P n ops Q ({ dst := some d, op := .indexAddr t x ix, type := ty, pos := pos, after := af, guard := none } :: rest) L w :=
 wl_idx0 hd hT hx hi rfl j hj hlt (by rw [add_lit', Nat.zero_add]; exact h)
theorem RF.oneC {w : World} {Fz : Nat → Prop} {α : Type} {r : Rep α} {rows : List (List Value)} {l : List α} (h : RF r Fz w rows l) : ∀ u ∈ rows.flatten, u.oneCell' = true := by
 intro u hu
 obtain ⟨x, hx, hux⟩ := List.mem_flatten.1 hu
 obtain ⟨j, hj, rfl⟩ := List.mem_iff_getElem.1 hx
 obtain ⟨cs, h1, h2⟩ := h.2 j (by rw [← h.1]; exact hj)
 rw [List.getElem?_eq_getElem hj] at h1
 rw [Option.some.inj h1] at hux
 exact r.one h2 u hux
theorem RF.modify {w : World} {Fz : Nat → Prop} {α : Type} {r : Rep α} {rows : List (List Value)} {l : List α} {j : Nat} {cs : List Value} {f : α → α} (h : RF r Fz w rows l) (hj : j < l.length) (hr : r.rd Fz w cs (f l[j])) : RF r Fz w (rows.set j cs) (l.modify j f) := by
 refine ⟨by rw [List.length_set, List.length_modify, h.1], fun i hi0 => ?_⟩
 have hi : i < l.length := by rw [List.length_modify] at hi0; exact hi0
 obtain ⟨cs', h1, h2⟩ := h.2 i hi
 by_cases e : i = j
 ·subst e
  exact ⟨cs, by rw [List.getElem?_set_self (by rw [h.1]; exact hi)], by rw [List.getElem_modify, if_pos rfl]; exact hr⟩
 ·exact ⟨cs', by rw [List.getElem?_set_ne (fun x => e x.symm)]; exact h1, by rw [List.getElem_modify, if_neg (fun x => e x.symm)]; exact h2⟩
theorem iv_inj {a b : Int} : iv a = iv b ↔ a = b := ⟨fun h => by cases h; rfl, fun h => h ▸ rfl⟩
theorem hist_l2 {opn : Int → Option Nat} {b : Int} {n : Nat} (h : ∀ a j, opn a = some j → j < n) (a : Int) (j : Nat) (hj : (if a = b then none else opn a) = some j) : j < n := by
 split at hj
 ·cases hj
 ·exact h a j hj
theorem lastT_take {l : List Evt} {i : Nat} (h : i ≤ l.length) : lastT (l.take i) = if 0 < i then (l.getD (i - 1) evt0).time else 0 := by
 cases i with
 | zero => rfl
 | succ i => rw [if_pos (Nat.succ_pos i)]; exact foldl_take _ _ h
theorem _root_.Go.Eng.Frz.nar {F G : Nat → Prop} {w w' : World} (h : Frz F F w w') (hs : ∀ b, G b → F b) : Frz G G w w' := ⟨h.chg.weak (fun b _ hn hg => hn (hs b hg)), fun _ x => x⟩
theorem endS_b (l : List Evt) (a : Int) : ∀ n j m, endS l a j n = some m → j ≤ m ∧ m < j + n
 | 0, _, _, h => by cases h
 | n + 1, j, m, h => by
  rw [endS] at h
  split at h
  ·cases h; omega
  ·have := endS_b l a n (j + 1) m h
   omega
theorem bl_at {bs : List Bool} {j : Nat} (h : j < bs.length) : (bs.map Value.bool)[j]? = some (.bool (bs.getD j false)) := by
 rw [List.getElem?_map, List.getElem?_eq_getElem h, List.getD_eq_getElem?_getD, List.getElem?_eq_getElem h]; rfl
theorem eg98 : prog.eqGuardType prog.depth 98 = false := by kernel_rfl
def upf (t : Int → Option Dig) (g : Int) (d : Dig) : Int → Option Dig := fun a => if a = g then some d else t a
abbrev fv (f : Nat) : Value := .func (.func f) ([] : List Value).toArray ([] : List Value).toArray
theorem jclA : ((List.range 10).all fun j => callable prog (29 + j)) = true := by kernel_rfl
def firstA (f : Nat → Int) : Nat → Nat → Int
 | _, 0 => 0
 | j, n + 1 => if f j = 0 then firstA f (j + 1) n else f j
abbrev nF : Value → Option Value := fun _ => none
theorem P3 {P : Program} {fn : Func} {n : Nat} {L : List (Nat × Value)} {w : World} {R : Ending → World → Prop} {e : Exit} {t u s : Nat} {v x y : Value} (h : R (.returned (.tuple #[v, x, y])) w) (hr : fn.results = #[.tmp t, .tmp u, .tmp s] := by rfl) (hv : lk L t = some v := by rfl) (hx : lk L u = some x := by rfl) (hy : lk L s = some y := by rfl) (he : e = .ret ∨ e = .normal := by first | exact .inl rfl | exact .inr rfl) : WK n (bodyPost P fn R e) L w := wk_post3 he hr hv hx hy h
abbrev find3 (t : Int × Int × Int) : Value := .tuple [iv t.1, iv t.2.1, iv t.2.2].toArray
theorem lastD_step (q : Evt → Bool) {l : List Evt} {k : Nat} (h : k < l.length) : lastD q (l.take (k + 1)) = if q (l.getD k evt0) then some (l.getD k evt0).dig else lastD q (l.take k) := foldl_take _ _ h
theorem lastD_mem (q : Evt → Bool) (pre : List Evt) (d : Dig) (h : lastD q pre = some d) : ∃ x ∈ pre, q x = true ∧ x.dig = d := by
 have : ∀ (l : List Evt) (o : Option Dig), l.foldl (fun d x => if q x then some x.dig else d) o = some d → (∃ x ∈ l, q x = true ∧ x.dig = d) ∨ o = some d := by
  intro l
  induction l with
  | nil => intro o h; exact .inr h
  | cons x l ih =>
   intro o h
   rw [List.foldl_cons] at h
   rcases ih _ h with ⟨y, h1, h2⟩ | h1
   ·exact .inl ⟨y, List.mem_cons_of_mem _ h1, h2⟩
   ·by_cases hq : q x = true
    ·rw [if_pos hq] at h1
     exact .inl ⟨x, List.mem_cons_self, hq, Option.some.inj h1⟩
    ·rw [if_neg hq] at h1
     exact .inr h1
 rcases this pre none h with h | h
 ·exact h
 ·cases h
theorem callS_getD {a : Int} {l : List Evt} {k : Nat} (hk : k ≤ l.length) (h : 0 ≤ (callS a (l.take k)).pos) : ((l.take k).getD (callS a (l.take k)).pos.toNat evt0) = l.getD (callS a (l.take k)).pos.toNat evt0 := by
 have := callS_p a (l.take k)
 rw [List.length_take] at this
 exact getD_take (by omega)
theorem mem_take {l : List Evt} {k : Nat} (h : k < l.length) {x : Evt} : x ∈ l.take (k + 1) ↔ x ∈ l.take k ∨ x = l.getD k evt0 := by
 rw [take_snoc evt0 h, List.mem_append, List.mem_singleton]
structure AG (pre : List Evt) : Prop where
 bat : ∀ kd g ep s, (kd = 3 ∨ kd = 4) → ∀ x ∈ pre, batQ kd g ep s x = true → batS kd g ep s pre = some x.dig
 fst : ∀ g, ∀ x ∈ pre, fstQ g x = true → firstS g pre = some x.dig
theorem othr_iff {o : Option Dig} {d : Dig} : othr o d = true ↔ ∃ x, o = some x ∧ x ≠ d := by
 cases o with
 | none => exact ⟨fun h => (by cases h), fun ⟨_, h, _⟩ => (by cases h)⟩
 | some y => exact ⟨fun h => ⟨y, rfl, of_decide_eq_true h⟩, fun ⟨_, h, k⟩ => by cases h; exact decide_eq_true k⟩
theorem R6_iff {pre : List Evt} {e : Evt} : R6 pre e ↔ P6 pre e := by
 unfold R6 P6
 have : ∀ x, q6 e x = (decide (numbE e) && (sealQ e.group e.epoch x && p6 e ⟨x.seq, x.dig⟩)) := fun x => by
  unfold q6 sealQ p6
  rw [← Bool.decide_and, ← Bool.decide_and]
  refine decide_eq_decide.2 ?_
  have h1 : (⟨x.seq, x.dig⟩ : Mrk) ≠ ⟨e.seq, e.dig⟩ ↔ (x.seq ≠ e.seq ∨ x.dig ≠ e.dig) := by
   rw [Ne, Mrk.mk.injEq]
   exact Decidable.not_and_iff_not_or_not
  rw [h1]
  unfold numbE thereE
  dsimp only
  constructor
  ·rintro ⟨⟨a, b, c⟩, ⟨d | d, f⟩ | ⟨d, f⟩⟩
   ·exact ⟨.inl d, ⟨a, b, c⟩, .inr ⟨by omega, f⟩⟩
   ·exact ⟨.inr (.inl d), ⟨a, b, c⟩, .inr ⟨by omega, f⟩⟩
   ·exact ⟨.inr (.inr d), ⟨a, b, c⟩, .inl ⟨d, f⟩⟩
  ·rintro ⟨hn, ⟨a, b, c⟩, ⟨d, f⟩ | ⟨d, f⟩⟩
   ·exact ⟨⟨a, b, c⟩, .inr ⟨d, f⟩⟩
   ·exact ⟨⟨a, b, c⟩, .inl ⟨by omega, f⟩⟩
 rw [List.any_eq_true]
 unfold sealS
 rw [List.any_map, List.any_filter, List.any_eq_true]
 constructor
 ·rintro ⟨x, hx, hq⟩
  rw [this, Bool.and_eq_true] at hq
  exact ⟨of_decide_eq_true hq.1, x, hx, hq.2⟩
 ·rintro ⟨hn, x, hx, hq⟩
  exact ⟨x, hx, by rw [this, Bool.and_eq_true]; exact ⟨decide_eq_true hn, hq⟩⟩
theorem endS_succ (l : List Evt) (a : Int) : ∀ (n j : Nat), endS l a j (n + 1) = match endS l a j n with | some m => some m | none => if (l.getD (j + n) evt0).kind = 2 ∧ (l.getD (j + n) evt0).a = a then some (j + n) else none
 | 0, j => rfl
 | n + 1, j => by
  rw [endS, endS_succ l a n (j + 1)]
  conv => rhs; rw [endS]
  by_cases h : (l.getD j evt0).kind = 2 ∧ (l.getD j evt0).a = a
  ·rw [if_pos h, if_pos h]
  ·rw [if_neg h, if_neg h, show j + 1 + n = j + (n + 1) from by omega]
def endK (l : List Evt) (k j : Nat) : Option Nat := endS l (l.getD j evt0).a (j + 1) (k - (j + 1))
theorem fm_congr {α : Type} {G G' : Nat → Option α} {k : Nat} (h : ∀ j, j < k → G' j = G j) : (List.range k).filterMap G' = (List.range k).filterMap G := by
 induction k with
 | zero => rfl
 | succ k ih =>
  rw [List.range_succ, List.filterMap_append, List.filterMap_append, ih (fun j hj => h j (by omega))]
  congr 1
  have := h k (by omega)
  cases hG : G k with
  | none => rw [List.filterMap_cons_none hG, List.filterMap_cons_none (this.trans hG)]; rfl
  | some y => rw [List.filterMap_cons_some hG, List.filterMap_cons_some (this.trans hG)]; rfl
theorem callF_cases (a : Int) (s : CSt) (x : Evt) : (x.a = a ∧ x.kind = 1 ∧ callF a s x = ⟨s.n, false, s.many + 1, s.n + 1⟩) ∨ (x.a = a ∧ x.kind = 2 ∧ callF a s x = ⟨s.pos, true, s.many, s.n + 1⟩) ∨ ((¬ x.a = a ∨ (¬ x.kind = 1 ∧ ¬ x.kind = 2)) ∧ callF a s x = ⟨s.pos, s.done, s.many, s.n + 1⟩) := by
 unfold callF
 by_cases ha : x.a = a
 ·rw [if_pos ha]
  by_cases h1 : x.kind = 1
  ·rw [if_pos h1]; exact .inl ⟨ha, h1, rfl⟩
  ·rw [if_neg h1]
   by_cases h2 : x.kind = 2
   ·rw [if_pos h2]; exact .inr (.inl ⟨ha, h2, rfl⟩)
   ·rw [if_neg h2]; exact .inr (.inr ⟨.inr ⟨h1, h2⟩, rfl⟩)
 ·rw [if_neg ha]; exact .inr (.inr ⟨.inl ha, rfl⟩)
theorem callS_len {a : Int} {l : List Evt} {k : Nat} (h : k ≤ l.length) : (callS a (l.take k)).n = k := by rw [callS_n, List.length_take]; omega
theorem iteC {α : Type} {a b : Prop} {_ : Decidable a} {_ : Decidable b} {x x' y y' : α} (h : a ↔ b) (h1 : x = x') (h2 : y = y') : (if a then x else y) = if b then x' else y' := by
 subst h1 h2
 by_cases ha : a
 ·rw [if_pos ha, if_pos (h.1 ha)]
 ·rw [if_neg ha, if_neg (fun z => ha (h.2 z))]
theorem j0 : i64 0 := by unfold i64; omega
theorem j1 : i64 1 := by unfold i64; omega
theorem j2 : i64 2 := by unfold i64; omega
theorem j3 : i64 3 := by unfold i64; omega
def dat (b : UInt8) : List UInt8 := List.replicate 16 b
def dig1 (b : UInt8) : Dig := ⟨b :: List.replicate 31 0, rfl⟩
def callE (w : Wsh) : Evt := ⟨0, 1, w.client, 0, 0, 0, 0, dig0, w, ans0⟩
def doneE (w : Wsh) (a : Ans) : Evt := ⟨0, 2, w.client, 0, 0, 0, 0, dig0, w, a⟩
def planP : Pln := ⟨1, 1, 0, 2, 0⟩
theorem rep_snoc (b : UInt8) (j : Nat) (hj : j < 16) : putL (List.replicate j (bv b) ++ List.replicate (16 - j) (bv 0)) j [bv b] = List.replicate (j + 1) (bv b) ++ List.replicate (16 - (j + 1)) (bv 0) := by
 unfold putL
 rw [List.take_left' (List.length_replicate ..), List.length_singleton, List.drop_append, List.length_replicate, List.drop_eq_nil_of_le (by rw [List.length_replicate]; omega), List.nil_append, List.drop_replicate, List.replicate_succ', List.append_assoc, List.append_assoc, show 16 - j - (j + 1 - j) = 16 - (j + 1) from by omega]
theorem keepE {α : Type} {r : Rep α} {S : Nat → Prop} {w w' : World} {cs : List Value} {x : α} (h : r.rd S w cs x) (E : Ext w w') : r.rd S w' cs x := r.keep E (fun _ _ _ x => x) h
theorem rfc {α : Type} {r : Rep α} {S : Nat → Prop} {w : World} {cs : List Value} {x : α} {css : List (List Value)} {l : List α} (h : r.rd S w cs x) (t : RF r S w css l) : RF r S w (cs :: css) (x :: l) :=
 RF.append (rows := [cs]) (l := [x]) (RF.one h) t
end Go.Proofs.Ytgheaedligkhoaa
