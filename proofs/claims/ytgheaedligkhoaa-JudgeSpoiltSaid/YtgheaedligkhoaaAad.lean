/- What each of these functions computes, for every argument that its theorem names; a part of what the proof of JudgeFinds stands on. -/
import Derived.Test.YtgheaedligkhoaaAab
import Derived.Test.YtgheaedligkhoaaAac
namespace Go.Proofs.Ytgheaedligkhoaa
open Go.RowKit Go.Eng Go.Eng _root_.Go.Proofs.Try
set_option maxRecDepth 100000
variable {w0 w : World} {M0 Fz : Nat → Prop} {H : List It} {A : Option Addr} {c : Nat}
def wishR : Rep Wsh where
 size := 10
 rd := fun S w cs x => WshI x ∧ ∃ A0 c0 A1 c1, cs = [.int .i64 x.client, .int .i64 x.stamp, .int .i64 x.group, .int .i64 x.epoch, .int .i64 x.kind, .int .i64 x.block, .slice A0 x.data.length c0, .int .i64 x.old, .int .i64 x.new, .slice A1 x.next.length c1] ∧ GS byteR S w A0 c0 x.data ∧ GS intR S w A1 c1 x.next
 len := by rintro _ _ _ _ ⟨hI, A0, c0, A1, c1, rfl, k0, k1⟩; rfl
 one := by rintro _ _ _ _ ⟨hI, A0, c0, A1, c1, rfl, k0, k1⟩; exact List.all_eq_true.1 rfl
 keep := by rintro _ _ _ _ _ _ ch hm ⟨hI, A0, c0, A1, c1, rfl, k0, k1⟩; exact ⟨hI, _, _, _, _, rfl, k0.keep ch hm, k1.keep ch hm⟩
 mono := by rintro _ _ _ _ _ hs ⟨hI, A0, c0, A1, c1, rfl, k0, k1⟩; exact ⟨hI, _, _, _, _, rfl, k0.mono hs, k1.mono hs⟩
def markR : Rep Mrk where
 size := 33
 rd := fun S w cs x => MrkI x ∧ cs = [.int .i64 x.seq] ++ (digC x.dig)
 len := by rintro _ _ _ _ ⟨hI, rfl⟩; rfl
 one := by rintro _ _ _ _ ⟨hI, rfl⟩; exact List.all_eq_true.1 rfl
 keep := by rintro _ _ _ _ _ _ ch hm ⟨hI, rfl⟩; exact ⟨hI, rfl⟩
 mono := by rintro _ _ _ _ _ hs ⟨hI, rfl⟩; exact ⟨hI, rfl⟩
def ansR : Rep Ans where
 size := 4
 rd := fun S w cs x => AnsI x ∧ ∃ A0 c0 A1 c1, cs = [.int .i64 x.err, .slice A0 x.data.length c0, .int .i64 x.epoch, .slice A1 x.nodes.length c1] ∧ GS byteR S w A0 c0 x.data ∧ GS intR S w A1 c1 x.nodes
 len := by rintro _ _ _ _ ⟨hI, A0, c0, A1, c1, rfl, k0, k1⟩; rfl
 one := by rintro _ _ _ _ ⟨hI, A0, c0, A1, c1, rfl, k0, k1⟩; exact List.all_eq_true.1 rfl
 keep := by rintro _ _ _ _ _ _ ch hm ⟨hI, A0, c0, A1, c1, rfl, k0, k1⟩; exact ⟨hI, _, _, _, _, rfl, k0.keep ch hm, k1.keep ch hm⟩
 mono := by rintro _ _ _ _ _ hs ⟨hI, A0, c0, A1, c1, rfl, k0, k1⟩; exact ⟨hI, _, _, _, _, rfl, k0.mono hs, k1.mono hs⟩
def evtR : Rep Evt where
 size := 53
 rd := fun S w cs x => EvtI x ∧ ∃ A0 c0 A1 c1 A2 c2 A3 c3, cs = [.int .i64 x.time, .int .i64 x.kind, .int .i64 x.a, .int .i64 x.b, .int .i64 x.group, .int .i64 x.epoch, .int .i64 x.seq] ++ (digC x.dig ++ ([.int .i64 x.wish.client, .int .i64 x.wish.stamp, .int .i64 x.wish.group, .int .i64 x.wish.epoch, .int .i64 x.wish.kind, .int .i64 x.wish.block, .slice A0 x.wish.data.length c0, .int .i64 x.wish.old, .int .i64 x.wish.new, .slice A1 x.wish.next.length c1, .int .i64 x.ans.err, .slice A2 x.ans.data.length c2, .int .i64 x.ans.epoch, .slice A3 x.ans.nodes.length c3])) ∧ GS byteR S w A0 c0 x.wish.data ∧ GS intR S w A1 c1 x.wish.next ∧ GS byteR S w A2 c2 x.ans.data ∧ GS intR S w A3 c3 x.ans.nodes
 len := by rintro _ _ _ _ ⟨hI, A0, c0, A1, c1, A2, c2, A3, c3, rfl, k0, k1, k2, k3⟩; rfl
 one := by rintro _ _ _ _ ⟨hI, A0, c0, A1, c1, A2, c2, A3, c3, rfl, k0, k1, k2, k3⟩; exact List.all_eq_true.1 rfl
 keep := by rintro _ _ _ _ _ _ ch hm ⟨hI, A0, c0, A1, c1, A2, c2, A3, c3, rfl, k0, k1, k2, k3⟩; exact ⟨hI, _, _, _, _, _, _, _, _, rfl, k0.keep ch hm, k1.keep ch hm, k2.keep ch hm, k3.keep ch hm⟩
 mono := by rintro _ _ _ _ _ hs ⟨hI, A0, c0, A1, c1, A2, c2, A3, c3, rfl, k0, k1, k2, k3⟩; exact ⟨hI, _, _, _, _, _, _, _, _, rfl, k0.mono hs, k1.mono hs, k2.mono hs, k3.mono hs⟩
def plnR : Rep Pln where
 size := 5
 rd := fun S w cs x => PlnI x ∧ cs = [.int .i64 x.faults, .int .i64 x.chunks, .int .i64 x.spares, .int .i64 x.clients, .int .i64 x.bad]
 len := by rintro _ _ _ _ ⟨hI, rfl⟩; rfl
 one := by rintro _ _ _ _ ⟨hI, rfl⟩; exact List.all_eq_true.1 rfl
 keep := by rintro _ _ _ _ _ _ ch hm ⟨hI, rfl⟩; exact ⟨hI, rfl⟩
 mono := by rintro _ _ _ _ _ hs ⟨hI, rfl⟩; exact ⟨hI, rfl⟩
def jobR : Rep Job where
 size := 14
 rd := fun S w cs x => JobI x ∧ ∃ A0 c0 A1 c1 A2 c2 A3 c3, cs = [.int .i64 x.wish.client, .int .i64 x.wish.stamp, .int .i64 x.wish.group, .int .i64 x.wish.epoch, .int .i64 x.wish.kind, .int .i64 x.wish.block, .slice A0 x.wish.data.length c0, .int .i64 x.wish.old, .int .i64 x.wish.new, .slice A1 x.wish.next.length c1, .int .i64 x.ans.err, .slice A2 x.ans.data.length c2, .int .i64 x.ans.epoch, .slice A3 x.ans.nodes.length c3] ∧ GS byteR S w A0 c0 x.wish.data ∧ GS intR S w A1 c1 x.wish.next ∧ GS byteR S w A2 c2 x.ans.data ∧ GS intR S w A3 c3 x.ans.nodes
 len := by rintro _ _ _ _ ⟨hI, A0, c0, A1, c1, A2, c2, A3, c3, rfl, k0, k1, k2, k3⟩; rfl
 one := by rintro _ _ _ _ ⟨hI, A0, c0, A1, c1, A2, c2, A3, c3, rfl, k0, k1, k2, k3⟩; exact List.all_eq_true.1 rfl
 keep := by rintro _ _ _ _ _ _ ch hm ⟨hI, A0, c0, A1, c1, A2, c2, A3, c3, rfl, k0, k1, k2, k3⟩; exact ⟨hI, _, _, _, _, _, _, _, _, rfl, k0.keep ch hm, k1.keep ch hm, k2.keep ch hm, k3.keep ch hm⟩
 mono := by rintro _ _ _ _ _ hs ⟨hI, A0, c0, A1, c1, A2, c2, A3, c3, rfl, k0, k1, k2, k3⟩; exact ⟨hI, _, _, _, _, _, _, _, _, rfl, k0.mono hs, k1.mono hs, k2.mono hs, k3.mono hs⟩
theorem CalI0 : CalI cal0 := by unfold CalI i64; decide
def calR : Rep Cal where
 size := 12
 rd := fun S w cs x => CalI x ∧ ∃ A0 c0 A1 c1, cs = [.int .i64 x.wish.client, .int .i64 x.wish.stamp, .int .i64 x.wish.group, .int .i64 x.wish.epoch, .int .i64 x.wish.kind, .int .i64 x.wish.block, .slice A0 x.wish.data.length c0, .int .i64 x.wish.old, .int .i64 x.wish.new, .slice A1 x.wish.next.length c1, .bool x.opn, .int .i64 x.many] ∧ GS byteR S w A0 c0 x.wish.data ∧ GS intR S w A1 c1 x.wish.next
 len := by rintro _ _ _ _ ⟨hI, A0, c0, A1, c1, rfl, k0, k1⟩; rfl
 one := by rintro _ _ _ _ ⟨hI, A0, c0, A1, c1, rfl, k0, k1⟩; exact List.all_eq_true.1 rfl
 keep := by rintro _ _ _ _ _ _ ch hm ⟨hI, A0, c0, A1, c1, rfl, k0, k1⟩; exact ⟨hI, _, _, _, _, rfl, k0.keep ch hm, k1.keep ch hm⟩
 mono := by rintro _ _ _ _ _ hs ⟨hI, A0, c0, A1, c1, rfl, k0, k1⟩; exact ⟨hI, _, _, _, _, rfl, k0.mono hs, k1.mono hs⟩
theorem EvtI.wish {n : Evt} (h : EvtI n) : WshI n.wish := by unfold EvtI i64 at h; unfold WshI i64; omega
theorem EvtI.ans {n : Evt} (h : EvtI n) : AnsI n.ans := by unfold EvtI i64 at h; unfold AnsI i64; omega
theorem MrkI.fit {x : Mrk} (h : MrkI x) : FitK (some .i64 :: List.replicate 32 (some .u8)) ([.int .i64 x.seq] ++ (digC x.dig)) := FitK.cons (fit_int h.1 h.2) (digC_fit x.dig)
theorem LokI.p {n : Lok} (h : LokI n) : PlnI n.p := by unfold LokI i64 at h; unfold PlnI i64; omega
end Go.Proofs.Ytgheaedligkhoaa
namespace Go.Proofs.Ytgheaedligkhoaa
open Go.ChangeShapes Go.WideShapes Go.ChangeAt Go.RowKit Go.Eng Go.Eng _root_.Go.Proofs.Try
set_option maxRecDepth 100000
variable {w0 w : World} {M0 Fz : Nat → Prop} {H : List It} {A : Option Addr} {c : Nat}
theorem reads_t39 : ReadsR Try.prog 39 digR (fun _ => True) := reads_digest (e := 5) Try.underlying39 Try.underlying5 Try.ce5 Try.ce39
theorem reads_t40 : ReadsR Try.prog 40 (sliceR byteR) (fun l => l.length * 1 ≤ 140737488355328) := fun H enc w base sp held fuel cs x h hl hw => by
 obtain ⟨v, h1, h2⟩ := reads_slice (size := 1) (bytes := 1) Try.underlying40 rfl (by decide) Try.ce5 Try.by5 (by decide) (reads_byte Try.underlying5) H enc w base sp held fuel cs x h hl hw
 exact ⟨v, h1, h2.2⟩
theorem reads_t33 : ReadsR Try.prog 33 (sliceR intR) (fun l => l.length * 8 ≤ 140737488355328) := fun H enc w base sp held fuel cs x h hl hw => by
 obtain ⟨v, h1, h2⟩ := reads_slice (size := 1) (bytes := 8) Try.underlying33 rfl (by decide) Try.ce3 Try.by3 (by decide) (reads_int Try.underlying3) H enc w base sp held fuel cs x h hl hw
 exact ⟨v, h1, h2.2⟩
end Go.Proofs.Ytgheaedligkhoaa
namespace Go.Proofs.Ytgheaedligkhoaa
open Go.RowKit Go.Eng Go.Eng _root_.Go.Proofs.Try
set_option maxRecDepth 100000
variable {w0 w : World} {M0 Fz : Nat → Prop} {H : List It} {A : Option Addr} {c : Nat}
theorem plain8_inj {a b : Wsh} : plain8 a = plain8 b ↔ P8C a = P8C b := by simp [plain8, P8C]
theorem plain8_iff {a b : Wsh} : plain8 a = plain8 b ↔ a.client = b.client ∧ a.stamp = b.stamp ∧ a.group = b.group ∧ a.epoch = b.epoch ∧ a.kind = b.kind ∧ a.block = b.block ∧ a.old = b.old ∧ a.new = b.new := by simp [plain8]
end Go.Proofs.Ytgheaedligkhoaa
namespace Go.Proofs.Ytgheaedligkhoaa
open Go.RowKit Go.Eng _root_.Go.Proofs.Try Go.Eng _root_.Go.Proofs.Try
set_option maxRecDepth 100000
variable {w0 w : World} {M0 Fz : Nat → Prop} {H : List It} {A : Option Addr} {c : Nat}
def batR (f : Value → Option Value) (v : Int → Int → Int → Option Dig) : Prop := ∀ g ep s, f (spotV g ep s) = (v g ep s).map digV
def sealR (f : Value → Option Value) (r : Value → Option (List Value)) (v : Int → Int → List Mrk) : Prop :=
 ∀ g ep, (v g ep = [] ∧ f (eraV g ep) = none ∧ r (eraV g ep) = none) ∨ ∃ A c, f (eraV g ep) = some (.slice A (v g ep).length c) ∧ r (eraV g ep) = some ((v g ep).map markC).flatten ∧ ∀ m ∈ v g ep, MrkI m
def firstR (f : Value → Option Value) (v : Int → Option Dig) : Prop := ∀ g, f (iv g) = (v g).map digV
theorem kof3 {a : Int} (h : i64 a) : keyOf prog 3 (iv a) = some (.int .i64 a) := Go.Maps.keyOf_int_mk (q := .i64) (by kernel_rfl) (wf64 h)
theorem kofE {g ep : Int} (h1 : i64 g) (h2 : i64 ep) : ∃ l, keyOf prog 87 (eraV g ep) = some l := keyOf_of kb87 (FitK.cons (fit_int h1.1 h1.2) (FitK.cons (fit_int h2.1 h2.2) FitK.nil))
theorem kofS {g ep s : Int} (h1 : i64 g) (h2 : i64 ep) (h3 : i64 s) : ∃ l, keyOf prog 89 (spotV g ep s) = some l := keyOf_of kb89 (FitK.cons (fit_int h1.1 h1.2) (FitK.cons (fit_int h2.1 h2.2) (FitK.cons (fit_int h3.1 h3.2) FitK.nil)))
theorem kofR {g ep s n : Int} (h1 : i64 g) (h2 : i64 ep) (h3 : i64 s) (h4 : i64 n) : ∃ l, keyOf prog 91 (ranV g ep s n) = some l := keyOf_of kb91 (FitK.cons (fit_int h1.1 h1.2) (FitK.cons (fit_int h2.1 h2.2) (FitK.cons (fit_int h3.1 h3.2) (FitK.cons (fit_int h4.1 h4.2) FitK.nil))))
theorem spotV_inj {a b c a' b' c' : Int} (h : spotV a b c = spotV a' b' c') : a = a' ∧ b = b' ∧ c = c' := by
 simpa [spotV] using h
theorem ranV_inj {a b c d a' b' c' d' : Int} (h : ranV a b c d = ranV a' b' c' d') : a = a' ∧ b = b' ∧ c = c' ∧ d = d' := by
 simpa [ranV] using h
theorem eraV_inj {a b a' b' : Int} (h : eraV a b = eraV a' b') : a = a' ∧ b = b' := by
 simpa [eraV] using h
def V2 (v : JVal) (e : Evt) : Prop := ¬ clientE e ∧ v.down e.a ≠ decide (e.kind = 9)
def u2 (v : JVal) (e : Evt) : JVal := if clientE e then v else { v with down := fun n => if n = e.a then decide (e.kind = 8) else v.down n, jobs := if e.kind = 9 then (fun g ep s n => if n = e.a then [] else v.jobs g ep s n) else v.jobs }
theorem kd39 : (prog.info? 39).bind (·.zero) = some (digV dig0) := by kernel_rfl
def V4 (v : JVal) (e : Evt) : Prop := (e.kind = 3 ∧ othr (v.bat e.group e.epoch e.seq) e.dig = true) ∨ (e.kind = 4 ∧ othr (v.mrk e.group e.epoch e.seq) e.dig = true)
def u4 (v : JVal) (e : Evt) : JVal := if e.kind = 3 then { v with bat := up3 v.bat e.group e.epoch e.seq e.dig } else if e.kind = 4 then { v with mrk := up3 v.mrk e.group e.epoch e.seq e.dig } else v
theorem runsE_step {e : Evt} {n : Int} {l : List Evt} {k : Nat} (h : k < l.length) : runsE e n (l.take (k + 1)) = runF e n (runsE e n (l.take k)) (l.getD k evt0) := foldl_take _ _ h
theorem runsE_len (e : Evt) (n : Int) (l : List Evt) : (runsE e n l).length ≤ l.length := by
 have : ∀ (l : List Evt) (o : List Evt), (l.foldl (runF e n) o).length ≤ o.length + l.length := by
  intro l
  induction l with
  | nil => intro o; simp
  | cons x l ih =>
   intro o
   have h := ih (runF e n o x)
   have h2 : (runF e n o x).length ≤ o.length + 1 := by
    unfold runF
    split
    ·split
     ·simp
     ·split <;> simp
    ·simp
   rw [List.foldl_cons, List.length_cons]
   omega
 have h := this l []
 simp only [List.length_nil, Nat.zero_add] at h
 exact h
def calOf (v : JVal) (a : Int) : Cal := (v.calls a).getD cal0
theorem kd42 : (prog.info? 42).bind (·.zero) = some (.agg (wsC wish0 none 0 none 0).toArray) := by kernel_rfl
end Go.Proofs.Ytgheaedligkhoaa
namespace Go.Proofs.Ytgheaedligkhoaa
open Go.RowKit Go.Eng Go.Eng _root_.Go.Proofs.Try
set_option maxRecDepth 100000
variable {w0 w : World} {M0 Fz : Nat → Prop} {H : List It} {A : Option Addr} {c : Nat}
abbrev HS (S : Nat → Prop) (w : World) (A : Option Addr) (c : Nat) (H : List HOp) : Prop := GS opR S w A c H
theorem has_ok {l : List Int} {i : Int} {S : Nat → Prop} (h : IS S w A c l) : Ret prog 106 #[.slice A l.length c, .int .i64 i] w (fun v w' => v = .bool (decide (i ∈ l)) ∧ Ext w w') := by
 refine ret_of_wk func106 rfl ntmps106 leB_ ?_
 refine so ?_
 refine Lp [0, 1, 5] (fun L' w' mes => ∃ (k : Nat), L' = [(0, .slice A l.length c), (1, iv i), (5, iv (k : Int))] ∧ (k ≤ l.length) ∧ (i ∉ l.take k) ∧ (w = w') ∧ l.length - k = mes) (l.length - 0) (by
     refine ⟨0, rfl, by omega, by simp, ?_, rfl⟩
     rfl) ?_
 rintro _ wr _ ⟨k, rfl, hk, hno, hw, rfl⟩ KL1 hKL1
 subst hw
 have hmx:=h.mx
 refine so ?_
 refine Cd ?_ ?_<;>intro hlt
 obtain ⟨aL, hAL, hatL⟩ := GS.el1 h k (by omega)
 refine so ?_
 refine Cd ?_ ?_<;>intro he<;>refine so ?_
 refine Pt ?_
 exact ⟨_, rfl, bool_t (by rw [← he]; exact List.getElem_mem _), Chg.refl _ _⟩
 refine Kl [0, 1, 5] hKL1 (l.length - (k + 1)) ⟨(k + 1), rfl, by omega, ?_, ?_, rfl⟩ (by omega)
 rw [← List.take_append_getElem (by omega : k < l.length)]
 simp only [List.mem_append, List.mem_singleton]
 rintro (h1 | h1)
 exact hno h1
 exact he h1.symm
 rfl
 have hkl : k = l.length := by omega
 refine so ?_
 refine Pt ?_
 exact ⟨_, rfl, bool_f (by rw [hkl, List.take_length] at hno; exact hno), Chg.refl _ _⟩
theorem copyInts_ok {A : Option Addr} {c : Nat} {l : List Int} {Sa : Nat → Prop} {w : World} (h : IS Sa w A c l) (hlen : l.length * 8 ≤ 140737488355328) : Ret Try.prog 42 #[.slice A l.length c] w (fun v w' => ∃ A' c', v = .slice A' l.length c' ∧ OwnE (fun z : Int => .int .i64 z) 3 w.heap.size w' A' c' l ∧ Ext w w') := by
 refine ret_of_wk Try.func42 rfl Try.ntmps42 (Nat.le_of_ble_eq_true rfl) ?_
 refine wc_seq ?_
 refine wc_region ?_
 refine wl_assign (by decide) rfl ?_
 refine wl_nil ?_
 refine wk_norm ?_
 refine wc_seq ?_
 refine wc_region ?_
 refine wl_assign (by decide) rfl ?_
 refine wl_nil ?_
 refine wk_norm ?_
 refine wc_seq ?_
 refine wc_region ?_
 refine wl_move (by decide) rfl ?_
 refine wl_move (by decide) rfl ?_
 refine wl_appendE (enc := fun z : Int => .int .i64 z) (he := fun _ => rfl) (l := []) (by decide) Try.sl33 rfl rfl (OwnRow.nil _ _ _ _ _) h (by simp; omega) (Nat.le_refl _) ?_
 rintro A1 c1 w1 ho ch _
 refine wl_assign (by decide) rfl ?_
 refine wl_nil ?_
 refine wk_norm ?_
 refine wc_seq ?_
 refine wc_region ?_
 refine wl_move (by decide) rfl ?_
 refine wl_assign (by decide) rfl ?_
 refine wl_nil ?_
 refine wk_norm ?_
 refine wc_ret ?_
 refine wk_post1 (.inl rfl) Try.results42 rfl ?_
 exact ⟨_, rfl, A1, c1, rfl, ho, ch.off (fun _ _ x => absurd rfl x.1)⟩
theorem keysC_el (T : List (Nat × Int)) (i : Nat) (hi : i < T.length) : ((keysC T).drop (i * 2)).take 2 = [.int .i64 ((T[i].1 : Nat) : Int), .int .i64 T[i].2] := by
 induction T generalizing i with
 | nil => simp at hi
 | cons t r ih =>
  cases i with
  | zero => simp [keysC]
  | succ i =>
   have := ih i (by simpa using hi)
   rw [show (i + 1) * 2 = i * 2 + 2 by omega]
   simpa [keysC] using this
theorem keysC_snoc (T : List (Nat × Int)) (t : Nat × Int) : keysC (T ++ [t]) = keysC T ++ [.int .i64 (t.1 : Int), .int .i64 t.2] := by simp [keysC]
theorem memo_len {H : List HOp} {first : List UInt8} {T : List (Nat × Int)} (h : MemoK H first T) : T.length ≤ 245760 := by
 have hp : POK 245760 (T.map fun t => t.1 * 15 + (t.2 + 1).toNat) := by
  refine ⟨?_, fun i hi => ?_⟩
  ·refine nodup_map h.1 ?_
   intro a ha b hb e
   have h1 := h.2 a ha
   have h2 := h.2 b hb
   obtain ⟨a1, a2⟩ := a
   obtain ⟨b1, b2⟩ := b
   simp only at e h1 h2
   have : a1 = b1 := by omega
   have : a2 = b2 := by omega
   subst_vars; rfl
  ·obtain ⟨t, ht, rfl⟩ := List.mem_map.1 hi
   have := h.2 t ht
   omega
 have := hp.len
 simpa using this
theorem ordS_bad {H : List HOp} {first : List UInt8} (h : ¬ chkH H = 0) : ordS H first = ([], false, chkH H) := by rw [ordS, if_neg h]
theorem ordS_some {H : List HOp} {first : List UInt8} {r : List Nat} (h : chkH H = 0) (hg : G H first 0 (-1) = some r) : ordS H first = (r, true, 0) := by rw [ordS, if_pos h, hg]
theorem ordS_none {H : List HOp} {first : List UInt8} (h : chkH H = 0) (hg : G H first 0 (-1) = none) : ordS H first = ([], false, 0) := by rw [ordS, if_pos h, hg]
theorem tried_val {f : Value → Option Value} (h : TriedK f) (key : Value) : (f key).getD (.int .i64 0) = .int .i64 (if (f key).isSome then 1 else 0) := by
 cases hk : f key with
 | none => rfl
 | some v => rw [h key v hk]; rfl
theorem keyV_inj {a b : Nat × Int} (h : keyV a = keyV b) : a = b := by
 unfold keyV at h
 injection h with h
 have h2 := congrArg Array.toList h
 simp only [List.cons.injEq, Value.int.injEq, true_and, and_true, Int.ofNat_inj] at h2
 exact Prod.ext h2.1 h2.2
end Go.Proofs.Ytgheaedligkhoaa
namespace Go.Proofs.Ytgheaedligkhoaa
open Go.RowKit Go.Eng _root_.Go.Proofs.Try Go.Eng _root_.Go.Proofs.Try
set_option maxRecDepth 100000
variable {w0 w : World} {M0 Fz : Nat → Prop} {H : List It} {A : Option Addr} {c : Nat}
theorem kofP {c t : Int} (h1 : i64 c) (h2 : i64 t) : ∃ l, keyOf prog 80 (pairV c t) = some l := keyOf_of kb80 (FitK.cons (fit_int h1.1 h1.2) (FitK.cons (fit_int h2.1 h2.2) FitK.nil))
structure HR (F : Nat → Prop) (w : World) (s : HSt) (rows rowsF : List (List Value)) (fo fs : Value → Option Value) : Prop where
 o : RF opR F w rows s.out
 f : RF opR F w rowsF s.forged
 m : ∀ a, fo (iv a) = (s.opn a).map (fun j => iv (j : Int))
 lt : ∀ a j, s.opn a = some j → j < s.out.length
 sn : ∀ c t, (fs (pairV c t)).getD (iv 0) = iv (if s.seen (c, t) = true then 1 else 0)
theorem hist_m1 {opn : Int → Option Nat} {fo : Value → Option Value} {b : Int} {n : Nat} (h : ∀ a, fo (iv a) = (opn a).map (fun j => iv (j : Int))) (a : Int) : updF fo (iv b) (iv (n : Int)) (iv a) = (if a = b then some n else opn a).map (fun j => iv (j : Int)) := by
 by_cases e : a = b
 ·subst e; rw [updF_same, if_pos rfl]; rfl
 ·rw [updF_other fo (fun x => e (iv_inj.1 x)), if_neg e]; exact h a
theorem hist_m2 {opn : Int → Option Nat} {fo : Value → Option Value} {b : Int} (h : ∀ a, fo (iv a) = (opn a).map (fun j => iv (j : Int))) (a : Int) : updG fo (iv b) none (iv a) = (if a = b then none else opn a).map (fun j => iv (j : Int)) := by
 by_cases e : a = b
 ·subst e; rw [updG_same, if_pos rfl]; rfl
 ·rw [updG_other fo none (fun x => e (iv_inj.1 x)), if_neg e]; exact h a
theorem pairV_inj {a b c d : Int} (h : pairV a b = pairV c d) : (a, b) = (c, d) := by
 have h1 : [iv a, iv b] = [iv c, iv d] := by simpa [pairV] using h
 simp only [List.cons.injEq, iv_inj] at h1
 rw [h1.1, h1.2.1]
def V6 (v : JVal) (e : Evt) : Prop := numbE e ∧ (v.sld e.group e.epoch).any (p6 e) = true
def ups (v : JVal) (e : Evt) : Int → Int → List Mrk := fun g ep => if g = e.group ∧ ep = e.epoch then v.sld g ep ++ [⟨e.seq, e.dig⟩] else v.sld g ep
def V7 (v : JVal) (e : Evt) : Prop := e.kind = 7 ∧ (e.epoch = 0 ∧ othr (v.frst e.group) e.dig = true ∨ e.epoch ≠ 0 ∧ (v.sld e.group (e.epoch - 1)).any (fun m => decide (m.dig = e.dig)) = false)
def u7 (v : JVal) (e : Evt) : JVal := if e.kind = 7 ∧ e.epoch = 0 then { v with frst := upf v.frst e.group e.dig } else v
def val0 : JVal := ⟨0, fun _ => false, fun _ _ _ => none, fun _ _ _ => none, fun _ _ _ _ => [], fun _ _ => [], fun _ => none, fun _ => none⟩
theorem jcl (j : Nat) (h : j < 10) : callable prog (29 + j) = true := List.all_eq_true.1 jclA j (List.mem_range.2 h)
theorem firstA_at {f : Nat → Int} : ∀ {n j k : Nat}, (∀ i, j ≤ i → i < j + k → f i = 0) → k < n → f (j + k) ≠ 0 → firstA f j n = f (j + k)
 | 0, _, _, _, h, _ => absurd h (Nat.not_lt_zero _)
 | n + 1, j, 0, _, _, h => by rw [firstA, if_neg (show ¬ f j = 0 from h)]; rfl
 | n + 1, j, k + 1, h0, hk, h => by
  rw [firstA, if_pos (h0 j (Nat.le_refl _) (by omega)), show j + (k + 1) = (j + 1) + k from by omega]
  exact firstA_at (fun i h1 h2 => h0 i (by omega) (by omega)) (by omega) (by rw [show (j + 1) + k = j + (k + 1) from by omega]; exact h)
theorem firstA_no {f : Nat → Int} : ∀ {n j : Nat}, (∀ i, j ≤ i → i < j + n → f i = 0) → firstA f j n = 0
 | 0, _, _ => rfl
 | n + 1, j, h0 => by
  rw [firstA, if_pos (h0 j (Nat.le_refl _) (by omega))]
  exact firstA_no (fun i h1 h2 => h0 i (by omega) (by omega))
abbrev jfs : List Value := (List.range 10).map fun j => fv (29 + j)
theorem firstA_if {f : Nat → Int} {j n : Nat} {b : Prop} [Decidable b] {m : Int} (h : f j = if b then m else 0) (hm : m ≠ 0) : firstA f j (n + 1) = if b then m else firstA f (j + 1) n := by
 rw [firstA, h]
 by_cases hb : b
 ·rw [if_pos hb, if_neg hm, if_pos hb]
 ·rw [if_neg hb, if_pos rfl, if_neg hb]
theorem R4_iff {pre : List Evt} {e : Evt} (h : AG pre) : R4 pre e ↔ P4 pre e := by
 unfold R4 P4
 refine and_congr_right (fun hk => ?_)
 rw [othr_iff]
 constructor
 ·intro ha
  obtain ⟨x, hx, hq⟩ := List.any_eq_true.1 ha
  have e2 := of_decide_eq_true hq
  exact ⟨x.dig, h.bat _ _ _ _ hk x hx (decide_eq_true ⟨e2.1, e2.2.1.1, e2.2.1.2, e2.2.2.1⟩), e2.2.2.2⟩
 ·rintro ⟨d, h1, h2⟩
  obtain ⟨x, hx, hq, rfl⟩ := lastD_mem _ _ _ h1
  have e2 := of_decide_eq_true hq
  exact List.any_eq_true.2 ⟨x, hx, decide_eq_true ⟨e2.1, ⟨e2.2.1, e2.2.2.1⟩, e2.2.2.2, h2⟩⟩
theorem R7_iff {pre : List Evt} {e : Evt} (h : AG pre) (h0 : e.kind = 7 → 0 ≤ e.epoch) : R7 pre e ↔ P7 pre e := by
 unfold R7 P7
 refine and_congr_right (fun hk => ?_)
 have he := h0 hk
 refine or_congr (and_congr_right (fun hz => ?_)) ?_
 ·rw [othr_iff]
  constructor
  ·intro ha
   obtain ⟨x, hx, hq⟩ := List.any_eq_true.1 ha
   have e2 := of_decide_eq_true hq
   exact ⟨x.dig, h.fst _ x hx (decide_eq_true ⟨e2.1, e2.2.1.2.trans hz, e2.2.1.1⟩), e2.2.2⟩
  ·rintro ⟨d, h1, h2⟩
   obtain ⟨x, hx, hq, rfl⟩ := lastD_mem _ _ _ h1
   have e2 := of_decide_eq_true hq
   exact List.any_eq_true.2 ⟨x, hx, decide_eq_true ⟨e2.1, ⟨e2.2.2, e2.2.1.trans hz.symm⟩, h2⟩⟩
 ·have : pre.any (q7b e) = (sealS e.group (e.epoch - 1) pre).any (fun m => decide (m.dig = e.dig)) := by
   unfold sealS
   rw [List.any_map, List.any_filter]
   congr 1
   funext x
   unfold q7b sealQ
   simp only [Function.comp]
   rw [← Bool.decide_and]
   exact decide_eq_decide.2 ⟨fun h => ⟨⟨h.1, h.2.1, h.2.2.1⟩, h.2.2.2⟩, fun h => ⟨h.1.1, h.1.2.1, h.1.2.2, h.2⟩⟩
  rw [this]
  exact and_congr_left' (by omega)
theorem endK_step {l : List Evt} {k j : Nat} (h : j < k) : endK l (k + 1) j = match endK l k j with | some m => some m | none => if (l.getD k evt0).kind = 2 ∧ (l.getD k evt0).a = (l.getD j evt0).a then some k else none := by
 unfold endK
 rw [show k + 1 - (j + 1) = (k - (j + 1)) + 1 from by omega, endS_succ, show j + 1 + (k - (j + 1)) = k from by omega] <;> rfl
theorem endK_own (l : List Evt) (k : Nat) : endK l (k + 1) k = none := by unfold endK; rw [Nat.sub_self]; rfl
theorem mod_left {α : Type} {f : α → α} : ∀ {A B : List α} {i : Nat}, i < A.length → (A ++ B).modify i f = A.modify i f ++ B
 | [], _, _, h => absurd h (Nat.not_lt_zero _)
 | a :: A, B, 0, _ => by simp
 | a :: A, B, i + 1, h => by
  rw [List.cons_append, List.modify_succ_cons, List.modify_succ_cons, mod_left (by simpa using h), List.cons_append]
theorem mod_at {α : Type} {f : α → α} {y : α} {B : List α} : ∀ {A : List α}, (A ++ y :: B).modify A.length f = A ++ f y :: B
 | [] => by simp
 | a :: A => by
  rw [List.cons_append, List.length_cons, List.modify_succ_cons, mod_at, List.cons_append]
theorem pos_kind {l : List Evt} {a : Int} : ∀ {k : Nat}, k ≤ l.length → 0 ≤ (callS a (l.take k)).pos → (l.getD (callS a (l.take k)).pos.toNat evt0).kind = 1 ∧ (l.getD (callS a (l.take k)).pos.toNat evt0).a = a
 | 0, _, h => absurd (show (0 : Int) ≤ -1 from h) (by decide)
 | k + 1, hk, h => by
  have ih := pos_kind (l := l) (a := a) (k := k) (by omega)
  rw [callS_step a (by omega)] at h ⊢
  rcases callF_cases a (callS a (l.take k)) (l.getD k evt0) with ⟨h1, h2, h3⟩ | ⟨h1, h2, h3⟩ | ⟨h1, h3⟩
  ·rw [h3]
   dsimp only
   rw [callS_len (by omega), Int.toNat_natCast]
   exact ⟨h2, h1⟩
  ·rw [h3] at h ⊢
   exact ih h
  ·rw [h3] at h ⊢
   exact ih h
theorem callF_other {a : Int} {s : CSt} {x : Evt} (h : ¬ x.a = a ∨ (¬ x.kind = 1 ∧ ¬ x.kind = 2)) : (callF a s x).pos = s.pos ∧ (callF a s x).done = s.done := by
 rcases callF_cases a s x with ⟨h1, h2, h3⟩ | ⟨h1, h2, h3⟩ | ⟨h1, h3⟩
 ·rcases h with h | h
  ·exact absurd h1 h
  ·exact absurd h2 h.1
 ·rcases h with h | h
  ·exact absurd h1 h
  ·exact absurd h2 h.2
 ·rw [h3]; exact ⟨rfl, rfl⟩
def wrW (c t bl : Int) (b : UInt8) : Wsh := ⟨c, t, 1, 0, 2, bl, dat b, 0, 0, []⟩
def runE (a s : Int) (d : UInt8) (w : Wsh) : Evt := ⟨0, 3, a, 0, 1, 0, s, dig1 d, w, ans0⟩
def nodeE (k a ep s : Int) (d : UInt8) : Evt := ⟨0, k, a, 0, 1, ep, s, dig1 d, wish0, ans0⟩
end Go.Proofs.Ytgheaedligkhoaa
