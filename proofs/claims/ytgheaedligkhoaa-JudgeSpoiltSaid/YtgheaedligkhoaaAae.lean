/- What each of these functions computes, for every argument that its theorem names; a part of what the proof of JudgeFinds stands on. -/
import Derived.Test.YtgheaedligkhoaaAab
import Derived.Test.YtgheaedligkhoaaAac
import Derived.Test.YtgheaedligkhoaaAad
namespace Go.Proofs.Ytgheaedligkhoaa
open Go.RowKit Go.Eng Go.Eng _root_.Go.Proofs.Try
set_option maxRecDepth 100000
variable {w0 w : World} {M0 Fz : Nat → Prop} {H : List It} {A : Option Addr} {c : Nat}
theorem wishR_el {S : Nat → Prop} {w : World} {A : Option Addr} {c : Nat} {l : List Wsh} (h : GS wishR S w A c l) (i : Nat) (hi : i < l.length) : ∃ a A0 c0 A1 c1, A = some a ∧ AtF S w (a.add (i * 10)) ([.int .i64 (l.getD i wish0).client, .int .i64 (l.getD i wish0).stamp, .int .i64 (l.getD i wish0).group, .int .i64 (l.getD i wish0).epoch, .int .i64 (l.getD i wish0).kind, .int .i64 (l.getD i wish0).block, .slice A0 (l.getD i wish0).data.length c0, .int .i64 (l.getD i wish0).old, .int .i64 (l.getD i wish0).new, .slice A1 (l.getD i wish0).next.length c1]) ∧ WshI (l.getD i wish0) ∧ GS byteR S w A0 c0 (l.getD i wish0).data ∧ GS intR S w A1 c1 (l.getD i wish0).next := by
 obtain ⟨a, cs, h1, h2, hI, A0, c0, A1, c1, rfl, k0, k1⟩ := GS.el h i hi
 have e : (l.getD i wish0) = l[i] := by rw [List.getD_eq_getElem?_getD, List.getElem?_eq_getElem hi]; rfl
 rw [e]
 exact ⟨a, _, _, _, _, h1, h2, hI, k0, k1⟩
theorem markR_el {S : Nat → Prop} {w : World} {A : Option Addr} {c : Nat} {l : List Mrk} (h : GS markR S w A c l) (i : Nat) (hi : i < l.length) : ∃ a, A = some a ∧ AtF S w (a.add (i * 33)) ([.int .i64 (l.getD i mark0).seq] ++ (digC (l.getD i mark0).dig)) ∧ MrkI (l.getD i mark0) := by
 obtain ⟨a, cs, h1, h2, hI, rfl⟩ := GS.el h i hi
 have e : (l.getD i mark0) = l[i] := by rw [List.getD_eq_getElem?_getD, List.getElem?_eq_getElem hi]; rfl
 rw [e]
 exact ⟨a, h1, h2, hI⟩
theorem evtR_el {S : Nat → Prop} {l : List Evt} (h : GS evtR S w A c l) (i : Nat) (hi : i < l.length) : ∃ a A0 c0 A1 c1 A2 c2 A3 c3, A = some a ∧ AtF S w (a.add (i * 53)) ([.int .i64 (l.getD i evt0).time, .int .i64 (l.getD i evt0).kind, .int .i64 (l.getD i evt0).a, .int .i64 (l.getD i evt0).b, .int .i64 (l.getD i evt0).group, .int .i64 (l.getD i evt0).epoch, .int .i64 (l.getD i evt0).seq] ++ (digC (l.getD i evt0).dig ++ ([.int .i64 (l.getD i evt0).wish.client, .int .i64 (l.getD i evt0).wish.stamp, .int .i64 (l.getD i evt0).wish.group, .int .i64 (l.getD i evt0).wish.epoch, .int .i64 (l.getD i evt0).wish.kind, .int .i64 (l.getD i evt0).wish.block, .slice A0 (l.getD i evt0).wish.data.length c0, .int .i64 (l.getD i evt0).wish.old, .int .i64 (l.getD i evt0).wish.new, .slice A1 (l.getD i evt0).wish.next.length c1, .int .i64 (l.getD i evt0).ans.err, .slice A2 (l.getD i evt0).ans.data.length c2, .int .i64 (l.getD i evt0).ans.epoch, .slice A3 (l.getD i evt0).ans.nodes.length c3]))) ∧ EvtI (l.getD i evt0) ∧ GS byteR S w A0 c0 (l.getD i evt0).wish.data ∧ GS intR S w A1 c1 (l.getD i evt0).wish.next ∧ GS byteR S w A2 c2 (l.getD i evt0).ans.data ∧ GS intR S w A3 c3 (l.getD i evt0).ans.nodes := by
 obtain ⟨a, cs, h1, h2, hI, A0, c0, A1, c1, A2, c2, A3, c3, rfl, k0, k1, k2, k3⟩ := GS.el h i hi
 have e : (l.getD i evt0) = l[i] := by rw [List.getD_eq_getElem?_getD, List.getElem?_eq_getElem hi]; rfl
 rw [e]
 exact ⟨a, _, _, _, _, _, _, _, _, h1, h2, hI, k0, k1, k2, k3⟩
def lokR : Rep Lok where
 size := 6
 rd := fun S w cs x => LokI x ∧ ∃ A0 c0, cs = [.int .i64 x.p.faults, .int .i64 x.p.chunks, .int .i64 x.p.spares, .int .i64 x.p.clients, .int .i64 x.p.bad, .slice A0 x.l.length c0] ∧ GS evtR S w A0 c0 x.l
 len := by rintro _ _ _ _ ⟨hI, A0, c0, rfl, k0⟩; rfl
 one := by rintro _ _ _ _ ⟨hI, A0, c0, rfl, k0⟩; exact List.all_eq_true.1 rfl
 keep := by rintro _ _ _ _ _ _ ch hm ⟨hI, A0, c0, rfl, k0⟩; exact ⟨hI, _, _, rfl, k0.keep ch hm⟩
 mono := by rintro _ _ _ _ _ hs ⟨hI, A0, c0, rfl, k0⟩; exact ⟨hI, _, _, rfl, k0.mono hs⟩
theorem jobR_el {S : Nat → Prop} {w : World} {A : Option Addr} {c : Nat} {l : List Job} (h : GS jobR S w A c l) (i : Nat) (hi : i < l.length) : ∃ a A0 c0 A1 c1 A2 c2 A3 c3, A = some a ∧ AtF S w (a.add (i * 14)) ([.int .i64 (l.getD i job0).wish.client, .int .i64 (l.getD i job0).wish.stamp, .int .i64 (l.getD i job0).wish.group, .int .i64 (l.getD i job0).wish.epoch, .int .i64 (l.getD i job0).wish.kind, .int .i64 (l.getD i job0).wish.block, .slice A0 (l.getD i job0).wish.data.length c0, .int .i64 (l.getD i job0).wish.old, .int .i64 (l.getD i job0).wish.new, .slice A1 (l.getD i job0).wish.next.length c1, .int .i64 (l.getD i job0).ans.err, .slice A2 (l.getD i job0).ans.data.length c2, .int .i64 (l.getD i job0).ans.epoch, .slice A3 (l.getD i job0).ans.nodes.length c3]) ∧ JobI (l.getD i job0) ∧ GS byteR S w A0 c0 (l.getD i job0).wish.data ∧ GS intR S w A1 c1 (l.getD i job0).wish.next ∧ GS byteR S w A2 c2 (l.getD i job0).ans.data ∧ GS intR S w A3 c3 (l.getD i job0).ans.nodes := by
 obtain ⟨a, cs, h1, h2, hI, A0, c0, A1, c1, A2, c2, A3, c3, rfl, k0, k1, k2, k3⟩ := GS.el h i hi
 have e : (l.getD i job0) = l[i] := by rw [List.getD_eq_getElem?_getD, List.getElem?_eq_getElem hi]; rfl
 rw [e]
 exact ⟨a, _, _, _, _, _, _, _, _, h1, h2, hI, k0, k1, k2, k3⟩
theorem JobI.wish {n : Job} (h : JobI n) : WshI n.wish := by unfold JobI i64 at h; unfold WshI i64; omega
theorem JobI.ans {n : Job} (h : JobI n) : AnsI n.ans := by unfold JobI i64 at h; unfold AnsI i64; omega
end Go.Proofs.Ytgheaedligkhoaa
namespace Go.Proofs.Ytgheaedligkhoaa
open Go.ChangeShapes Go.WideShapes Go.ChangeAt Go.RowKit Go.Eng Go.Eng _root_.Go.Proofs.Try
set_option maxRecDepth 100000
variable {w0 w : World} {M0 Fz : Nat → Prop} {H : List It} {A : Option Addr} {c : Nat}
theorem reads_Pln : ReadsR Try.prog 23 plnR (fun _ => True) := by
  intro H enc w base sp held fuel cs x h hlt hw
  have hlen := trod_structLen Try.underlying23 h
  rw [Try.ce23] at hlen
  obtain ⟨v0, h0, g0⟩ := reads_field Try.underlying23 (i := 0) rfl (reads_int Try.underlying3) h hlt hw
  replace h0 : intR.rd _ _ ((cs.drop 0).take (Try.prog.cellsOf 3)) v0 := h0
  rw [Try.ce3] at h0
  have e0 : (cs.drop 0).take 1 = [.int .i64 v0] := h0
  obtain ⟨v1, h1, g1⟩ := reads_field Try.underlying23 (i := 1) rfl (reads_int Try.underlying3) h hlt hw
  replace h1 : intR.rd _ _ ((cs.drop 1).take (Try.prog.cellsOf 3)) v1 := h1
  rw [Try.ce3] at h1
  have e1 : (cs.drop 1).take 1 = [.int .i64 v1] := h1
  obtain ⟨v2, h2, g2⟩ := reads_field Try.underlying23 (i := 2) rfl (reads_int Try.underlying3) h hlt hw
  replace h2 : intR.rd _ _ ((cs.drop 2).take (Try.prog.cellsOf 3)) v2 := h2
  rw [Try.ce3] at h2
  have e2 : (cs.drop 2).take 1 = [.int .i64 v2] := h2
  obtain ⟨v3, h3, g3⟩ := reads_field Try.underlying23 (i := 3) rfl (reads_int Try.underlying3) h hlt hw
  replace h3 : intR.rd _ _ ((cs.drop 3).take (Try.prog.cellsOf 3)) v3 := h3
  rw [Try.ce3] at h3
  have e3 : (cs.drop 3).take 1 = [.int .i64 v3] := h3
  obtain ⟨v4, h4, g4⟩ := reads_field Try.underlying23 (i := 4) rfl (reads_int Try.underlying3) h hlt hw
  replace h4 : intR.rd _ _ ((cs.drop 4).take (Try.prog.cellsOf 3)) v4 := h4
  rw [Try.ce3] at h4
  have e4 : (cs.drop 4).take 1 = [.int .i64 v4] := h4
  have e := (List.drop_zero (l := cs)).symm
  rw [seg_cons (m := 1) rfl e0] at e
  rw [seg_cons (m := 2) rfl e1] at e
  rw [seg_cons (m := 3) rfl e2] at e
  rw [seg_cons (m := 4) rfl e3] at e
  rw [seg_cons (m := 5) rfl e4] at e
  rw [List.drop_eq_nil_of_le (by rw [hlen]; exact Nat.le_refl _)] at e
  refine ⟨{ faults := v0, chunks := v1, spares := v2, clients := v3, bad := v4 }, ?_, trivial⟩
  refine ⟨by unfold PlnI i64; dsimp only; omega, e.trans (by (try simp only [List.cons_append, List.nil_append, List.append_nil]); try rfl)⟩
theorem reads_Wsh : ReadsR Try.prog 42 wishR (fun x => x.next.length * 8 ≤ 140737488355328) := by
  intro H enc w base sp held fuel cs x h hlt hw
  have hlen := trod_structLen Try.underlying42 h
  rw [Try.ce42] at hlen
  obtain ⟨v0, h0, g0⟩ := reads_field Try.underlying42 (i := 0) rfl (reads_int Try.underlying3) h hlt hw
  replace h0 : intR.rd _ _ ((cs.drop 0).take (Try.prog.cellsOf 3)) v0 := h0
  rw [Try.ce3] at h0
  have e0 : (cs.drop 0).take 1 = [.int .i64 v0] := h0
  obtain ⟨v1, h1, g1⟩ := reads_field Try.underlying42 (i := 1) rfl (reads_int Try.underlying3) h hlt hw
  replace h1 : intR.rd _ _ ((cs.drop 1).take (Try.prog.cellsOf 3)) v1 := h1
  rw [Try.ce3] at h1
  have e1 : (cs.drop 1).take 1 = [.int .i64 v1] := h1
  obtain ⟨v2, h2, g2⟩ := reads_field Try.underlying42 (i := 2) rfl (reads_int Try.underlying3) h hlt hw
  replace h2 : intR.rd _ _ ((cs.drop 2).take (Try.prog.cellsOf 3)) v2 := h2
  rw [Try.ce3] at h2
  have e2 : (cs.drop 2).take 1 = [.int .i64 v2] := h2
  obtain ⟨v3, h3, g3⟩ := reads_field Try.underlying42 (i := 3) rfl (reads_int Try.underlying3) h hlt hw
  replace h3 : intR.rd _ _ ((cs.drop 3).take (Try.prog.cellsOf 3)) v3 := h3
  rw [Try.ce3] at h3
  have e3 : (cs.drop 3).take 1 = [.int .i64 v3] := h3
  obtain ⟨v4, h4, g4⟩ := reads_field Try.underlying42 (i := 4) rfl (reads_int Try.underlying3) h hlt hw
  replace h4 : intR.rd _ _ ((cs.drop 4).take (Try.prog.cellsOf 3)) v4 := h4
  rw [Try.ce3] at h4
  have e4 : (cs.drop 4).take 1 = [.int .i64 v4] := h4
  obtain ⟨v5, h5, g5⟩ := reads_field Try.underlying42 (i := 5) rfl (reads_int Try.underlying3) h hlt hw
  replace h5 : intR.rd _ _ ((cs.drop 5).take (Try.prog.cellsOf 3)) v5 := h5
  rw [Try.ce3] at h5
  have e5 : (cs.drop 5).take 1 = [.int .i64 v5] := h5
  obtain ⟨v6, h6, g6⟩ := reads_field Try.underlying42 (i := 6) rfl reads_t40 h hlt hw
  replace h6 : (sliceR byteR).rd _ _ ((cs.drop 6).take (Try.prog.cellsOf 40)) v6 := h6
  rw [Try.ce40] at h6
  obtain ⟨A6, c6, e6, k6⟩ := h6
  obtain ⟨v7, h7, g7⟩ := reads_field Try.underlying42 (i := 7) rfl (reads_int Try.underlying3) h hlt hw
  replace h7 : intR.rd _ _ ((cs.drop 7).take (Try.prog.cellsOf 3)) v7 := h7
  rw [Try.ce3] at h7
  have e7 : (cs.drop 7).take 1 = [.int .i64 v7] := h7
  obtain ⟨v8, h8, g8⟩ := reads_field Try.underlying42 (i := 8) rfl (reads_int Try.underlying3) h hlt hw
  replace h8 : intR.rd _ _ ((cs.drop 8).take (Try.prog.cellsOf 3)) v8 := h8
  rw [Try.ce3] at h8
  have e8 : (cs.drop 8).take 1 = [.int .i64 v8] := h8
  obtain ⟨v9, h9, g9⟩ := reads_field Try.underlying42 (i := 9) rfl reads_t33 h hlt hw
  replace h9 : (sliceR intR).rd _ _ ((cs.drop 9).take (Try.prog.cellsOf 33)) v9 := h9
  rw [Try.ce33] at h9
  obtain ⟨A9, c9, e9, k9⟩ := h9
  have e := (List.drop_zero (l := cs)).symm
  rw [seg_cons (m := 1) rfl e0] at e
  rw [seg_cons (m := 2) rfl e1] at e
  rw [seg_cons (m := 3) rfl e2] at e
  rw [seg_cons (m := 4) rfl e3] at e
  rw [seg_cons (m := 5) rfl e4] at e
  rw [seg_cons (m := 6) rfl e5] at e
  rw [seg_cons (m := 7) rfl e6] at e
  rw [seg_cons (m := 8) rfl e7] at e
  rw [seg_cons (m := 9) rfl e8] at e
  rw [seg_cons (m := 10) rfl e9] at e
  rw [List.drop_eq_nil_of_le (by rw [hlen]; exact Nat.le_refl _)] at e
  refine ⟨{ client := v0, stamp := v1, group := v2, epoch := v3, kind := v4, block := v5, data := v6, old := v7, new := v8, next := v9 }, ?_, g9⟩
  refine ⟨by unfold WshI i64; dsimp only; omega, _, _, _, _, e.trans (by (try simp only [List.cons_append, List.nil_append, List.append_nil]); try rfl), k6, k9⟩
theorem reads_Ans : ReadsR Try.prog 44 ansR (fun x => x.nodes.length * 8 ≤ 140737488355328) := by
  intro H enc w base sp held fuel cs x h hlt hw
  have hlen := trod_structLen Try.underlying44 h
  rw [Try.ce44] at hlen
  obtain ⟨v0, h0, g0⟩ := reads_field Try.underlying44 (i := 0) rfl (reads_int Try.underlying25) h hlt hw
  replace h0 : intR.rd _ _ ((cs.drop 0).take (Try.prog.cellsOf 25)) v0 := h0
  rw [Try.ce25] at h0
  have e0 : (cs.drop 0).take 1 = [.int .i64 v0] := h0
  obtain ⟨v1, h1, g1⟩ := reads_field Try.underlying44 (i := 1) rfl reads_t40 h hlt hw
  replace h1 : (sliceR byteR).rd _ _ ((cs.drop 1).take (Try.prog.cellsOf 40)) v1 := h1
  rw [Try.ce40] at h1
  obtain ⟨A1, c1, e1, k1⟩ := h1
  obtain ⟨v2, h2, g2⟩ := reads_field Try.underlying44 (i := 2) rfl (reads_int Try.underlying3) h hlt hw
  replace h2 : intR.rd _ _ ((cs.drop 2).take (Try.prog.cellsOf 3)) v2 := h2
  rw [Try.ce3] at h2
  have e2 : (cs.drop 2).take 1 = [.int .i64 v2] := h2
  obtain ⟨v3, h3, g3⟩ := reads_field Try.underlying44 (i := 3) rfl reads_t33 h hlt hw
  replace h3 : (sliceR intR).rd _ _ ((cs.drop 3).take (Try.prog.cellsOf 33)) v3 := h3
  rw [Try.ce33] at h3
  obtain ⟨A3, c3, e3, k3⟩ := h3
  have e := (List.drop_zero (l := cs)).symm
  rw [seg_cons (m := 1) rfl e0] at e
  rw [seg_cons (m := 2) rfl e1] at e
  rw [seg_cons (m := 3) rfl e2] at e
  rw [seg_cons (m := 4) rfl e3] at e
  rw [List.drop_eq_nil_of_le (by rw [hlen]; exact Nat.le_refl _)] at e
  refine ⟨{ err := v0, data := v1, epoch := v2, nodes := v3 }, ?_, g3⟩
  refine ⟨by unfold AnsI i64; dsimp only; omega, _, _, _, _, e.trans (by (try simp only [List.cons_append, List.nil_append, List.append_nil]); try rfl), k1, k3⟩
end Go.Proofs.Ytgheaedligkhoaa
namespace Go.Proofs.Ytgheaedligkhoaa
open Go.RowKit Go.Eng Go.Eng _root_.Go.Proofs.Try
set_option maxRecDepth 100000
variable {w0 w : World} {M0 Fz : Nat → Prop} {H : List It} {A : Option Addr} {c : Nat}
theorem WshI.fit {w : Wsh} (h : WshI w) : FitK [some .i64, some .i64, some .i64, some .i64, some .i64, some .i64, some .i64, some .i64] (P8C w) := by
 obtain ⟨h1, h2, h3, h4, h5, h6, h7, h8⟩ := h
 exact FitK.cons (fit_int h1.1 h1.2) (FitK.cons (fit_int h2.1 h2.2) (FitK.cons (fit_int h3.1 h3.2) (FitK.cons (fit_int h4.1 h4.2) (FitK.cons (fit_int h5.1 h5.2) (FitK.cons (fit_int h6.1 h6.2) (FitK.cons (fit_int h7.1 h7.2) (FitK.cons (fit_int h8.1 h8.2) FitK.nil)))))))
set_option maxHeartbeats 40000000 in
theorem jsame1_ok {csw0 : List Value} {w0 : Wsh} {Sw0 : Nat → Prop} (hw0 : wishR.rd Sw0 w csw0 w0) : Ret prog 77 #[.agg csw0.toArray] w (fun v w' => v = .agg (P8C w0).toArray ∧ Ext w w') := by
 obtain ⟨hIw0, Aw00, cw00, Aw01, cw01, rfl, hw00, hw01⟩ := hw0
 refine ret_of_wk func77 rfl ntmps77 leB_ ?_
 have hp:=HP.begin_ w
 refine so ?_
 refine Bx hp (h := fun gs1 w1 hp hE1 => ?_)
 refine Alo hp (h := fun gs2 w2 hp hE2 => so ?_)
 refine wl_builtS (ps := [(0, .tmp 4), (1, .tmp 6), (2, .tmp 8), (3, .tmp 10), (4, .tmp 12), (5, .tmp 14), (6, .tmp 16), (7, .tmp 18)]) (by decide) bld113 rfl rfl ?_
 refine Hs 0 hp (h := fun w3 hp hC3 => so ?_)
 refine wk_postR (rs := [.cell 2 113]) (.inl rfl) results77 ⟨_, _, _, rfl, rfl, loadVar_agg ag113 (hp.blkAt (i := 0) rfl).at0 rfl, rfl⟩ ?_
 exact ⟨_, rfl, rfl, hp.chg⟩
set_option maxHeartbeats 40000000 in
theorem r11Same_ok {csa : List Value} {a : Wsh} {Sa : Nat → Prop} {csb : List Value} {b : Wsh} {Sb : Nat → Prop} (ha : wishR.rd Sa w csa a) (hb : wishR.rd Sb w csb b) : Ret prog 44 #[.agg csa.toArray, .agg csb.toArray] w (fun v w' => v = .bool (decide (a = b)) ∧ Ext w w') := by
 obtain ⟨hIa, Aa0, ca0, Aa1, ca1, rfl, ha0, ha1⟩ := ha
 obtain ⟨hIb, Ab0, cb0, Ab1, cb1, rfl, hb0, hb1⟩ := hb
 refine ret_of_wk func44 rfl ntmps44 leB_ ?_
 have hp:=HP.begin_ w
 refine so ?_
 refine Bx hp (h := fun gs2 w1 hp hE1 => ?_)
 refine Bx hp (h := fun gs3 w2 hp hE2 => so ?_)
 refine Gs 10 ?_ ?_<;>intro hg1<;>refine so ?_
 refine Gs 17 ?_ ?_<;>intro hg2<;>refine so ?_
 refine Gs 24 ?_ ?_<;>intro hg3<;>refine so ?_
 refine Gs 31 ?_ ?_<;>intro hg4<;>refine so ?_
 refine Gs 38 ?_ ?_<;>intro hg5<;>refine so ?_
 refine Gs 45 ?_ ?_<;>intro hg6<;>refine so ?_
 refine Cx hp (eqBytes_ok ha0.tn hb0.tn) fun w3 hp hE3 => so ?_
 refine Gs 52 ?_ ?_<;>intro hg7<;>refine so ?_
 refine Gs 59 ?_ ?_<;>intro hg8<;>refine so ?_
 refine Gs 66 ?_ ?_<;>intro hg9<;>refine so ?_
 refine Cx hp (jeqInts_ok ha1.tn hb1.tn) fun w4 hp hE4 => so ?_
 refine Pt ?_
 exact ⟨_, rfl, congrArg Value.bool (decide_eq_decide.2 (by rw [Wsh_eq]; simp_all)), hp.chg⟩
 refine Pt ?_
 exact ⟨_, rfl, bool_f (by rw [Wsh_eq]; simp_all), hp.chg⟩
 refine Pt ?_
 exact ⟨_, rfl, bool_f (by rw [Wsh_eq]; simp_all), hp.chg⟩
 refine Pt ?_
 exact ⟨_, rfl, bool_f (by rw [Wsh_eq]; simp_all), hp.chg⟩
 refine Pt ?_
 exact ⟨_, rfl, bool_f (by rw [Wsh_eq]; simp_all), hp.chg⟩
 refine Pt ?_
 exact ⟨_, rfl, bool_f (by rw [Wsh_eq]; simp_all), hp.chg⟩
 refine Pt ?_
 exact ⟨_, rfl, bool_f (by rw [Wsh_eq]; simp_all), hp.chg⟩
 refine Pt ?_
 exact ⟨_, rfl, bool_f (by rw [Wsh_eq]; simp_all), hp.chg⟩
 refine Pt ?_
 exact ⟨_, rfl, bool_f (by rw [Wsh_eq]; simp_all), hp.chg⟩
 refine Pt ?_
 exact ⟨_, rfl, bool_f (by rw [Wsh_eq]; simp_all), hp.chg⟩
set_option maxHeartbeats 40000000 in
theorem jSameA_ok {csa : List Value} {a : Ans} {Sa : Nat → Prop} {csb : List Value} {b : Ans} {Sb : Nat → Prop} (ha : ansR.rd Sa w csa a) (hb : ansR.rd Sb w csb b) : Ret prog 54 #[.agg csa.toArray, .agg csb.toArray] w (fun v w' => v = .bool (decide (a = b)) ∧ Ext w w') := by
 obtain ⟨hIa, Aa0, ca0, Aa1, ca1, rfl, ha0, ha1⟩ := ha
 obtain ⟨hIb, Ab0, cb0, Ab1, cb1, rfl, hb0, hb1⟩ := hb
 refine ret_of_wk func54 rfl ntmps54 leB_ ?_
 have hp:=HP.begin_ w
 refine so ?_
 refine Bx hp (h := fun gs2 w1 hp hE1 => ?_)
 refine Bx hp (h := fun gs3 w2 hp hE2 => so ?_)
 refine Gs 10 ?_ ?_<;>intro hg1<;>refine so ?_
 refine Gs 17 ?_ ?_<;>intro hg2<;>refine so ?_
 refine Cx hp (jbequal_ok ha0.tn hb0.tn) fun w3 hp hE3 => so ?_
 refine Gs 24 ?_ ?_<;>intro hg3<;>refine so ?_
 refine Cx hp (seqI_ok ha1.tn hb1.tn) fun w4 hp hE4 => so ?_
 refine Pt ?_
 exact ⟨_, rfl, congrArg Value.bool (decide_eq_decide.2 (by rw [Ans_eq]; simp_all)), hp.chg⟩
 refine Pt ?_
 exact ⟨_, rfl, bool_f (by rw [Ans_eq]; simp_all), hp.chg⟩
 refine Pt ?_
 exact ⟨_, rfl, bool_f (by rw [Ans_eq]; simp_all), hp.chg⟩
 refine Pt ?_
 exact ⟨_, rfl, bool_f (by rw [Ans_eq]; simp_all), hp.chg⟩
set_option maxHeartbeats 40000000 in
theorem r16Same_ok {csa : List Value} {a : Ans} {Sa : Nat → Prop} {csb : List Value} {b : Ans} {Sb : Nat → Prop} (ha : ansR.rd Sa w csa a) (hb : ansR.rd Sb w csb b) : Ret prog 45 #[.agg csa.toArray, .agg csb.toArray] w (fun v w' => v = .bool (decide (a = b)) ∧ Ext w w') := by
 obtain ⟨hIa, Aa0, ca0, Aa1, ca1, rfl, ha0, ha1⟩ := ha
 obtain ⟨hIb, Ab0, cb0, Ab1, cb1, rfl, hb0, hb1⟩ := hb
 refine ret_of_wk func45 rfl ntmps45 leB_ ?_
 have hp:=HP.begin_ w
 refine so ?_
 refine Bx hp (h := fun gs2 w1 hp hE1 => ?_)
 refine Bx hp (h := fun gs3 w2 hp hE2 => so ?_)
 refine Gs 10 ?_ ?_<;>intro hg1<;>refine so ?_
 refine Cx hp (eqBytes_ok ha0.tn hb0.tn) fun w3 hp hE3 => so ?_
 refine Gs 17 ?_ ?_<;>intro hg2<;>refine so ?_
 refine Gs 24 ?_ ?_<;>intro hg3<;>refine so ?_
 refine Cx hp (jeqInts_ok ha1.tn hb1.tn) fun w4 hp hE4 => so ?_
 refine Pt ?_
 exact ⟨_, rfl, congrArg Value.bool (decide_eq_decide.2 (by rw [Ans_eq]; simp_all)), hp.chg⟩
 refine Pt ?_
 exact ⟨_, rfl, bool_f (by rw [Ans_eq]; simp_all), hp.chg⟩
 refine Pt ?_
 exact ⟨_, rfl, bool_f (by rw [Ans_eq]; simp_all), hp.chg⟩
 refine Pt ?_
 exact ⟨_, rfl, bool_f (by rw [Ans_eq]; simp_all), hp.chg⟩
set_option maxHeartbeats 40000000 in
theorem jclient_ok {cse : List Value} {e : Evt} {Se : Nat → Prop} (he : evtR.rd Se w cse e) : Ret prog 49 #[.agg cse.toArray] w (fun v w' => v = .bool (decide (clientE e)) ∧ Ext w w') := by
 obtain ⟨hIe, Ae0, ce0, Ae1, ce1, Ae2, ce2, Ae3, ce3, rfl, he0, he1, he2, he3⟩ := he
 refine ret_of_wk func49 rfl ntmps49 leB_ ?_
 have hp:=HP.begin_ w
 refine so ?_
 refine Bx hp (h := fun gs1 w1 hp hE1 => so ?_)
 refine Gs 6 ?_ ?_<;>intro hg1<;>refine so ?_
 refine Pt ?_
 exact ⟨_, rfl, bool_t (by unfold clientE; omega), hp.chg⟩
 refine Pt ?_
 exact ⟨_, rfl, congrArg Value.bool (decide_eq_decide.2 (by unfold clientE; omega)), hp.chg⟩
set_option maxHeartbeats 40000000 in
theorem rclient_ok {cse : List Value} {e : Evt} {Se : Nat → Prop} (he : evtR.rd Se w cse e) : Ret prog 82 #[.agg cse.toArray] w (fun v w' => v = .bool (decide (clientE e)) ∧ Ext w w') := by
 obtain ⟨hIe, Ae0, ce0, Ae1, ce1, Ae2, ce2, Ae3, ce3, rfl, he0, he1, he2, he3⟩ := he
 refine ret_of_wk func82 rfl ntmps82 leB_ ?_
 have hp:=HP.begin_ w
 refine so ?_
 refine Bx hp (h := fun gs1 w1 hp hE1 => so ?_)
 refine Gs 6 ?_ ?_<;>intro hg1<;>refine so ?_
 refine Pt ?_
 exact ⟨_, rfl, bool_t (by unfold clientE; omega), hp.chg⟩
 refine Pt ?_
 exact ⟨_, rfl, congrArg Value.bool (decide_eq_decide.2 (by unfold clientE; omega)), hp.chg⟩
set_option maxHeartbeats 40000000 in
theorem jnumb_ok {cse : List Value} {e : Evt} {Se : Nat → Prop} (he : evtR.rd Se w cse e) : Ret prog 51 #[.agg cse.toArray] w (fun v w' => v = .bool (decide (numbE e)) ∧ Ext w w') := by
 obtain ⟨hIe, Ae0, ce0, Ae1, ce1, Ae2, ce2, Ae3, ce3, rfl, he0, he1, he2, he3⟩ := he
 refine ret_of_wk func51 rfl ntmps51 leB_ ?_
 have hp:=HP.begin_ w
 refine so ?_
 refine Bx hp (h := fun gs1 w1 hp hE1 => so ?_)
 refine Gs 6 ?_ ?_<;>intro hg1<;>refine so ?_
 refine Pt ?_
 exact ⟨_, rfl, bool_t (by unfold numbE; omega), hp.chg⟩
 refine Gs 11 ?_ ?_<;>intro hg2<;>refine so ?_
 refine Pt ?_
 exact ⟨_, rfl, bool_t (by unfold numbE; omega), hp.chg⟩
 refine Pt ?_
 exact ⟨_, rfl, congrArg Value.bool (decide_eq_decide.2 (by unfold numbE; omega)), hp.chg⟩
set_option maxHeartbeats 40000000 in
theorem rnumb_ok {cse : List Value} {e : Evt} {Se : Nat → Prop} (he : evtR.rd Se w cse e) : Ret prog 84 #[.agg cse.toArray] w (fun v w' => v = .bool (decide (numbE e)) ∧ Ext w w') := by
 obtain ⟨hIe, Ae0, ce0, Ae1, ce1, Ae2, ce2, Ae3, ce3, rfl, he0, he1, he2, he3⟩ := he
 refine ret_of_wk func84 rfl ntmps84 leB_ ?_
 have hp:=HP.begin_ w
 refine so ?_
 refine Bx hp (h := fun gs1 w1 hp hE1 => so ?_)
 refine Gs 6 ?_ ?_<;>intro hg1<;>refine so ?_
 refine Pt ?_
 exact ⟨_, rfl, bool_t (by unfold numbE; omega), hp.chg⟩
 refine Gs 11 ?_ ?_<;>intro hg2<;>refine so ?_
 refine Pt ?_
 exact ⟨_, rfl, bool_t (by unfold numbE; omega), hp.chg⟩
 refine Pt ?_
 exact ⟨_, rfl, congrArg Value.bool (decide_eq_decide.2 (by unfold numbE; omega)), hp.chg⟩
set_option maxHeartbeats 40000000 in
theorem there_ok {csa : List Value} {a : Evt} {Sa : Nat → Prop} {csb : List Value} {b : Evt} {Sb : Nat → Prop} (ha : evtR.rd Sa w csa a) (hb : evtR.rd Sb w csb b) : Ret prog 85 #[.agg csa.toArray, .agg csb.toArray] w (fun v w' => v = .bool (decide (thereE a b)) ∧ Ext w w') := by
 obtain ⟨hIa, Aa0, ca0, Aa1, ca1, Aa2, ca2, Aa3, ca3, rfl, ha0, ha1, ha2, ha3⟩ := ha
 obtain ⟨hIb, Ab0, cb0, Ab1, cb1, Ab2, cb2, Ab3, cb3, rfl, hb0, hb1, hb2, hb3⟩ := hb
 refine ret_of_wk func85 rfl ntmps85 leB_ ?_
 have hp:=HP.begin_ w
 refine so ?_
 refine Bx hp (h := fun gs2 w1 hp hE1 => ?_)
 refine Bx hp (h := fun gs3 w2 hp hE2 => so ?_)
 refine Gs 10 ?_ ?_<;>intro hg1<;>refine so ?_
 refine Pt ?_
 exact ⟨_, rfl, congrArg Value.bool (decide_eq_decide.2 (by unfold thereE; omega)), hp.chg⟩
 refine Pt ?_
 exact ⟨_, rfl, bool_f (by unfold thereE; omega), hp.chg⟩
set_option maxHeartbeats 40000000 in
theorem well_ok {cse : List Value} {e : Evt} {Se : Nat → Prop} (he : evtR.rd Se w cse e) : Ret prog 88 #[.agg cse.toArray] w (fun v w' => v = .bool (decide (wellE e)) ∧ Ext w w') := by
 obtain ⟨hIe, Ae0, ce0, Ae1, ce1, Ae2, ce2, Ae3, ce3, rfl, he0, he1, he2, he3⟩ := he
 refine ret_of_wk func88 rfl ntmps88 leB_ ?_
 have hp:=HP.begin_ w
 refine so ?_
 refine Bx hp (h := fun gs1 w1 hp hE1 => so ?_)
 refine Gs 6 ?_ ?_<;>intro hg1<;>refine so ?_
 refine Pt ?_
 exact ⟨_, rfl, congrArg Value.bool (decide_eq_decide.2 (by unfold wellE; omega)), hp.chg⟩
 refine Pt ?_
 exact ⟨_, rfl, bool_f (by unfold wellE; omega), hp.chg⟩
set_option maxHeartbeats 40000000 in
theorem rours_ok {csx : List Value} {x : Wsh} {Sx : Nat → Prop} {cso : List Value} {o : Wsh} {So : Nat → Prop} (hx : wishR.rd Sx w csx x) (ho : wishR.rd So w cso o) : Ret prog 95 #[.agg csx.toArray, .agg cso.toArray] w (fun v w' => v = .bool (decide (oursW x o)) ∧ Ext w w') := by
 obtain ⟨hIx, Ax0, cx0, Ax1, cx1, rfl, hx0, hx1⟩ := hx
 obtain ⟨hIo, Ao0, co0, Ao1, co1, rfl, ho0, ho1⟩ := ho
 refine ret_of_wk func95 rfl ntmps95 leB_ ?_
 have hp:=HP.begin_ w
 refine so ?_
 refine Bx hp (h := fun gs2 w1 hp hE1 => ?_)
 refine Bx hp (h := fun gs3 w2 hp hE2 => so ?_)
 refine Gs 8 ?_ ?_<;>intro hg1<;>refine so ?_
 refine Gs 20 ?_ ?_<;>intro hg2<;>refine so ?_
 refine Pt ?_
 exact ⟨_, rfl, congrArg Value.bool (decide_eq_decide.2 (by unfold oursW; omega)), hp.chg⟩
 refine Pt ?_
 exact ⟨_, rfl, bool_f (by unfold oursW; omega), hp.chg⟩
 refine Gs 13 ?_ ?_<;>intro hg3<;>refine so ?_
 refine Gs 20 ?_ ?_<;>intro hg4<;>refine so ?_
 refine Pt ?_
 exact ⟨_, rfl, congrArg Value.bool (decide_eq_decide.2 (by unfold oursW; omega)), hp.chg⟩
 refine Pt ?_
 exact ⟨_, rfl, bool_f (by unfold oursW; omega), hp.chg⟩
 refine Pt ?_
 exact ⟨_, rfl, bool_f (by unfold oursW; omega), hp.chg⟩
set_option maxHeartbeats 40000000 in
theorem jours_ok {csx : List Value} {x : Wsh} {Sx : Nat → Prop} {cso : List Value} {o : Wsh} {So : Nat → Prop} (hx : wishR.rd Sx w csx x) (ho : wishR.rd So w cso o) : Ret prog 60 #[.agg csx.toArray, .agg cso.toArray] w (fun v w' => v = .bool (decide (oursW x o)) ∧ Ext w w') := by
 obtain ⟨hIx, Ax0, cx0, Ax1, cx1, rfl, hx0, hx1⟩ := hx
 obtain ⟨hIo, Ao0, co0, Ao1, co1, rfl, ho0, ho1⟩ := ho
 refine ret_of_wk func60 rfl ntmps60 leB_ ?_
 have hp:=HP.begin_ w
 refine so ?_
 refine Bx hp (h := fun gs2 w1 hp hE1 => ?_)
 refine Bx hp (h := fun gs3 w2 hp hE2 => so ?_)
 refine Gs 8 ?_ ?_<;>intro hg1<;>refine so ?_
 refine Gs 20 ?_ ?_<;>intro hg2<;>refine so ?_
 refine Pt ?_
 exact ⟨_, rfl, congrArg Value.bool (decide_eq_decide.2 (by unfold oursW; omega)), hp.chg⟩
 refine Pt ?_
 exact ⟨_, rfl, bool_f (by unfold oursW; omega), hp.chg⟩
 refine Gs 13 ?_ ?_<;>intro hg3<;>refine so ?_
 refine Gs 20 ?_ ?_<;>intro hg4<;>refine so ?_
 refine Pt ?_
 exact ⟨_, rfl, congrArg Value.bool (decide_eq_decide.2 (by unfold oursW; omega)), hp.chg⟩
 refine Pt ?_
 exact ⟨_, rfl, bool_f (by unfold oursW; omega), hp.chg⟩
 refine Pt ?_
 exact ⟨_, rfl, bool_f (by unfold oursW; omega), hp.chg⟩
set_option maxHeartbeats 40000000 in
theorem jnodes_ok {csp : List Value} {p : Pln} {Sp : Nat → Prop} (hp : plnR.rd Sp w csp p)(h1 : 0 ≤ p.faults ∧ p.faults ≤ 2) (h2 : 0 ≤ p.chunks ∧ p.chunks ≤ 2) (h3 : 0 ≤ p.spares ∧ p.spares ≤ 28) : Ret prog 48 #[.agg csp.toArray] w (fun v w' => v = .int .i64 (nodesP p) ∧ Ext w w') := by
 obtain ⟨hIp, rfl⟩ := hp
 have hm:=nodesP_le h1 h2
 refine ret_of_wk func48 rfl ntmps48 leB_ ?_
 have hp:=HP.begin_ w
 refine so ?_
 refine Bx hp (h := fun gs1 w1 hp hE1 => so ?_)
 refine wl_mul (by decide) rfl rfl (w64 (by omega) (by omega)) ?_
 refine so ?_
 refine wl_mul (by decide) rfl rfl (w64 (by omega) (by omega)) ?_
 refine so ?_
 refine Pt ?_
 exact ⟨_, rfl, by unfold nodesP; rfl, hp.chg⟩
set_option maxHeartbeats 40000000 in
theorem rnodes_ok {csp : List Value} {p : Pln} {Sp : Nat → Prop} (hp : plnR.rd Sp w csp p)(h1 : 0 ≤ p.faults ∧ p.faults ≤ 2) (h2 : 0 ≤ p.chunks ∧ p.chunks ≤ 2) (h3 : 0 ≤ p.spares ∧ p.spares ≤ 28) : Ret prog 39 #[.agg csp.toArray] w (fun v w' => v = .int .i64 (nodesP p) ∧ Ext w w') := by
 obtain ⟨hIp, rfl⟩ := hp
 have hm:=nodesP_le h1 h2
 refine ret_of_wk func39 rfl ntmps39 leB_ ?_
 have hp:=HP.begin_ w
 refine so ?_
 refine Bx hp (h := fun gs1 w1 hp hE1 => so ?_)
 refine wl_mul (by decide) rfl rfl (w64 (by omega) (by omega)) ?_
 refine so ?_
 refine wl_mul (by decide) rfl rfl (w64 (by omega) (by omega)) ?_
 refine so ?_
 refine Pt ?_
 exact ⟨_, rfl, by unfold nodesP; rfl, hp.chg⟩
end Go.Proofs.Ytgheaedligkhoaa
namespace Go.Proofs.Ytgheaedligkhoaa
open Go.RowKit Go.Eng _root_.Go.Proofs.Try Go.Eng _root_.Go.Proofs.Try
set_option maxRecDepth 100000
variable {w0 w : World} {M0 Fz : Nat → Prop} {H : List It} {A : Option Addr} {c : Nat}
abbrev lookC (p : Pln) (q : JMem) (ln : Nat) (here time : Int) : List Value := [iv p.faults, iv p.chunks, iv p.spares, iv p.clients, iv p.bad, .slice q.A ln q.c, iv here, iv time, .map (some q.m1), .map (some q.m2), .map (some q.m3), .map (some q.m4), .map (some q.m5), .map (some q.m6), .map (some q.m7)]
def jobsR (Fz : Nat → Prop) (w : World) (f : Value → Option Value) (r : Value → Option (List Value)) (v : Int → Int → Int → Int → List Job) : Prop :=
 (∀ key u, f key = some u → ∃ g ep s n, key = ranV g ep s n) ∧ ∀ g ep s n, (v g ep s n = [] ∧ f (ranV g ep s n) = none ∧ r (ranV g ep s n) = none) ∨ ∃ A c rs, f (ranV g ep s n) = some (.slice A (v g ep s n).length c) ∧ r (ranV g ep s n) = some rs.flatten ∧ RF jobR Fz w rs (v g ep s n)
def callsR (Fz : Nat → Prop) (w : World) (f : Value → Option Value) (v : Int → Option Cal) : Prop := ∀ a, (v a = none ∧ f (iv a) = none) ∨ ∃ x cs, v a = some x ∧ f (iv a) = some (.agg (cs : List Value).toArray) ∧ calR.rd Fz w cs x
set_option maxHeartbeats 4000000 in
theorem jbad_ok {w0 w : World} {M0 Fz : Nat → Prop} {H : List It} {g : Nat} {cs : List Value} {p : Pln} {n : Int} (hp : HP w0 M0 Fz w (itB g 64 ([iv p.faults, iv p.chunks, iv p.spares, iv p.clients, iv p.bad] ++ cs) :: H)) : Ret prog 50 #[pt g 0, iv n] w (fun v w' => v = .bool (decide (badP p n)) ∧ w' = w) := by
 refine ret_of_wk func50 rfl ntmps50 leB_ ?_
 replace hp := hp.as_ (H' := itB g 64 (iv p.faults :: iv p.chunks :: iv p.spares :: iv p.clients :: iv p.bad :: cs) :: H) rfl
 refine so ?_
 refine Cs jwithin_ok ?_
 refine so ?_
 refine Gs 7 ?_ ?_ <;> intro h0 <;> refine so ?_
 ·refine wl_shr (by decide) rfl rfl h0.1 (shrI h0.1 (by omega)) ?_
  refine so ?_
  refine wl_and (by decide) rfl rfl (and1I _) ?_
  refine so ?_
  refine Gs 18 ?_ ?_ <;> intro h1 <;> refine so ?_
  ·refine Pt ?_
   exact ⟨_, rfl, congrArg Value.bool (decide_eq_true (show badP p n from .inl ⟨h0, h1⟩)).symm, rfl⟩
  ·refine Gs 21 ?_ ?_ <;> intro h2 <;> refine so ?_
   ·refine Pt ?_
    exact ⟨_, rfl, congrArg Value.bool (decide_eq_decide.2 (by unfold badP bitP; omega)), rfl⟩
   ·refine Pt ?_
    exact ⟨_, rfl, congrArg Value.bool (decide_eq_false (by unfold badP bitP; omega)).symm, rfl⟩
 ·refine Gs 21 ?_ ?_ <;> intro h2 <;> refine so ?_
  ·exact absurd ⟨by omega, by omega⟩ h0
  ·refine Pt ?_
   exact ⟨_, rfl, congrArg Value.bool (decide_eq_false (by unfold badP bitP; omega)).symm, rfl⟩
theorem era_ok {w : World} {cs : List Value} {e : Evt} {S : Nat → Prop} (he : evtR.rd S w cs e) : Ret prog 55 #[.agg cs.toArray] w (fun v w' => v = eraV e.group e.epoch ∧ Ext w w') := by
 obtain ⟨hI, A0, c0, A1, c1, A2, c2, A3, c3, rfl, h0, h1, h2, h3⟩ := he
 refine ret_of_wk func55 rfl ntmps55 leB_ ?_
 have hp := HP.begin_ w
 refine so ?_
 refine Bx hp (h := fun g3 w1 hp E1 => so ?_)
 refine Alo hp (h := fun g2 w2 hp E2 => so ?_)
 refine wl_builtS (ps := [(0, .tmp 4), (1, .tmp 6)]) (by decide) bld87 rfl rfl ?_
 refine so ?_
 refine Hs 0 hp (h := fun w3 hp C3 => so ?_)
 refine wk_postR (rs := [.cell 2 87]) (.inl rfl) results55 ⟨_, _, _, rfl, rfl, loadVar_agg ag87 (hp.blkAt (i := 0) rfl).at0 rfl, rfl⟩ ?_
 exact ⟨_, rfl, rfl, hp.chg⟩
theorem batR.up {f : Value → Option Value} {t : Int → Int → Int → Option Dig} (h : batR f t) (g ep s : Int) (d : Dig) : batR (updF f (spotV g ep s) (digV d)) (up3 t g ep s d) := by
 intro a b c
 unfold up3
 by_cases hk : a = g ∧ b = ep ∧ c = s
 ·obtain ⟨rfl, rfl, rfl⟩ := hk
  rw [updF_same, if_pos ⟨rfl, rfl, rfl⟩]
  rfl
 ·rw [updF_other _ (fun hs => hk (spotV_inj hs)), if_neg hk]
  exact h a b c
theorem runsE_own {l : List Evt} {i : Nat} (h : i < l.length) (h3 : (l.getD i evt0).kind = 3) : 1 ≤ (runsE (l.getD i evt0) (l.getD i evt0).a (l.take (i + 1))).length := by
 rw [runsE_step h, runF, if_pos rfl, if_neg (by omega), if_pos ⟨h3, ⟨rfl, rfl⟩, rfl⟩, List.length_append]
 simp
set_option maxHeartbeats 4000000 in
theorem idxM_ok {w : World} {A : Option Addr} {c fid : Nat} {l : List Mrk} {S : Nat → Prop} {cap : Value} {pr : Mrk → Bool} (h0 : callable prog fid = true) (hg : GS markR S w A c l) (hf : ∀ w' x cs, Ext w w' → markR.rd S w' cs x → Ret prog fid #[.agg (cs : List Value).toArray, cap] w' (fun v w'' => v = .bool (pr x) ∧ Ext w' w'')) : Ret prog 79 #[.slice A l.length c, .func (.func fid) ([] : List Value).toArray [cap].toArray] w (fun v w' => ∃ r : Int, v = .int .i64 r ∧ decide (0 ≤ r) = l.any pr ∧ Ext w w') := by
 have hmx := hg.mx
 refine ret_of_wk func79 rfl ntmps79 leB_ ?_
 refine so ?_
 refine Lp [0, 1, 7, 8] (fun L' w' mes => ∃ k : Nat, L' = [(0, .slice A l.length c), (1, .func (.func fid) ([] : List Value).toArray [cap].toArray), (7, iv (l.length : Int)), (8, iv (k : Int))] ∧ k ≤ l.length ∧ Ext w w' ∧ (l.take k).any pr = false ∧ mes = l.length - k) (l.length - 0) ⟨0, rfl, Nat.zero_le _, Chg.refl _ _, rfl, rfl⟩ ?_
 rintro _ wr _ ⟨k, rfl, hk, hE, hno, rfl⟩ KL hKL
 refine so ?_
 refine Cd ?_ ?_ <;> intro hc
 ·have hk9 : k < l.length := by omega
  obtain ⟨aj, cs, hAj, hat, hrd⟩ := GS.el (hg.ext hE) k hk9
  have hlc := markR.len hrd
  refine so ?_
  refine wl_loadA (by decide) ag98 rfl hat.at_ hlc ?_
  refine wl_callv (f := fid) (first := []) (cap := [cap]) (vs := [.agg cs.toArray]) (by decide) h0 rfl rfl (hf wr _ cs hE hrd) ?_
  rintro _ w2 ⟨rfl, E2⟩
  refine so ?_
  have hsn : (l.take (k + 1)).any pr = pr l[k] := by rw [← List.take_append_getElem hk9, List.any_append, hno]; simp
  cases hp : pr l[k]
  ·refine aF (so ?_)
   exact Kl [0, 1, 7, 8] hKL (l.length - (k + 1)) ⟨k + 1, rfl, by omega, hE.trans E2, by rw [hsn, hp], rfl⟩ (by omega)
  ·refine aT (so ?_)
   refine Pt ⟨_, rfl, (k : Int), rfl, ?_, hE.trans E2⟩
   rw [decide_eq_true (by omega : (0 : Int) ≤ (k : Int)), eq_comm, List.any_eq_true]
   exact ⟨l[k], List.getElem_mem hk9, hp⟩
 ·obtain rfl : k = l.length := by omega
  refine so ?_
  rw [List.take_length] at hno
  exact Pt ⟨_, rfl, -1, rfl, by rw [hno]; rfl, hE⟩
set_option maxHeartbeats 4000000 in
theorem idxE_ok {w : World} {A : Option Addr} {c fid : Nat} {l : List Evt} {S : Nat → Prop} {cap : Value} {pr : Evt → Bool} (h0 : callable prog fid = true) (hg : GS evtR S w A c l) (hf : ∀ w' x cs, Ext w w' → evtR.rd S w' cs x → Ret prog fid #[.agg (cs : List Value).toArray, cap] w' (fun v w'' => v = .bool (pr x) ∧ Ext w' w'')) : Ret prog 80 #[.slice A l.length c, .func (.func fid) ([] : List Value).toArray [cap].toArray] w (fun v w' => ∃ r : Int, v = .int .i64 r ∧ decide (0 ≤ r) = l.any pr ∧ Ext w w') := by
 have hmx := hg.mx
 refine ret_of_wk func80 rfl ntmps80 leB_ ?_
 refine so ?_
 refine Lp [0, 1, 7, 8] (fun L' w' mes => ∃ k : Nat, L' = [(0, .slice A l.length c), (1, .func (.func fid) ([] : List Value).toArray [cap].toArray), (7, iv (l.length : Int)), (8, iv (k : Int))] ∧ k ≤ l.length ∧ Ext w w' ∧ (l.take k).any pr = false ∧ mes = l.length - k) (l.length - 0) ⟨0, rfl, Nat.zero_le _, Chg.refl _ _, rfl, rfl⟩ ?_
 rintro _ wr _ ⟨k, rfl, hk, hE, hno, rfl⟩ KL hKL
 refine so ?_
 refine Cd ?_ ?_ <;> intro hc
 ·have hk9 : k < l.length := by omega
  obtain ⟨aj, cs, hAj, hat, hrd⟩ := GS.el (hg.ext hE) k hk9
  have hlc := evtR.len hrd
  refine so ?_
  refine wl_loadA (by decide) ag46 rfl hat.at_ hlc ?_
  refine wl_callv (f := fid) (first := []) (cap := [cap]) (vs := [.agg cs.toArray]) (by decide) h0 rfl rfl (hf wr _ cs hE hrd) ?_
  rintro _ w2 ⟨rfl, E2⟩
  refine so ?_
  have hsn : (l.take (k + 1)).any pr = pr l[k] := by rw [← List.take_append_getElem hk9, List.any_append, hno]; simp
  cases hp : pr l[k]
  ·refine aF (so ?_)
   exact Kl [0, 1, 7, 8] hKL (l.length - (k + 1)) ⟨k + 1, rfl, by omega, hE.trans E2, by rw [hsn, hp], rfl⟩ (by omega)
  ·refine aT (so ?_)
   refine Pt ⟨_, rfl, (k : Int), rfl, ?_, hE.trans E2⟩
   rw [decide_eq_true (by omega : (0 : Int) ≤ (k : Int)), eq_comm, List.any_eq_true]
   exact ⟨l[k], List.getElem_mem hk9, hp⟩
 ·obtain rfl : k = l.length := by omega
  refine so ?_
  rw [List.take_length] at hno
  exact Pt ⟨_, rfl, -1, rfl, by rw [hno]; rfl, hE⟩
end Go.Proofs.Ytgheaedligkhoaa
namespace Go.Proofs.Ytgheaedligkhoaa
open Go.RowKit Go.Eng Go.Eng _root_.Go.Proofs.Try
set_option maxRecDepth 100000
variable {w0 w : World} {M0 Fz : Nat → Prop} {H : List It} {A : Option Addr} {c : Nat}
theorem HS.el {S : Nat → Prop} {w : World} {A : Option Addr} {c : Nat} {H : List HOp} (h : HS S w A c H) (i : Nat) (hi : i < H.length) :
  ∃ a B d, A = some a ∧ AtF S w (a.add (i * 4)) [.bool (hop H i).wr, .slice B (hop H i).val.length d, .int .i64 (hop H i).b, .int .i64 (hop H i).e] ∧ BS S w B d (hop H i).val := by
 obtain ⟨a, cs, h1, h2, B, d, rfl, h3⟩ := GS.el h i hi
 rw [hop_get H hi]
 exact ⟨a, B, d, h1, h2, h3⟩
theorem bits_ok {p : List Nat} {S : Nat → Prop} (h : IS S w A c (nats p)) (hb : ∀ i ∈ p, i < 14) (hl14 : p.length ≤ 14) : Ret prog 104 #[.slice A (nats p).length c] w (fun v w' => v = .int .i64 (bitsS p : Int) ∧ w' = w) := by
 refine ret_of_wk func104 rfl ntmps104 leB_ ?_
 refine so ?_
 refine Lp [0, 3, 4] (fun L' w' mes => ∃ (k : Nat), L' = [(0, .slice A (nats p).length c), (3, iv (bitsS (p.take k) : Int)), (4, iv (k : Int))] ∧ (k ≤ p.length) ∧ (w = w') ∧ p.length - k = mes) (p.length - 0) (by
     refine ⟨0, rfl, by omega, ?_, rfl⟩
     rfl) ?_
 rintro _ wr _ ⟨k, rfl, hk, hw, rfl⟩ KL1 hKL1
 subst hw
 have hmx:=h.mx
 have hnl:=nats_len p
 refine so ?_
 refine Cd ?_ ?_<;>intro hlt
 obtain ⟨aL, hAL, hatL⟩ := GS.el1 h k (by omega)
 have hpk : (nats p)[k]'(by omega) = ((p[k]'(by omega) : Nat) : Int) := by simp [nats]
 rw [hpk] at hatL
 have hpb:=hb (p[k]'(by omega)) (List.getElem_mem _)
 have hsum : bitsS (p.take (k + 1)) = bitsS (p.take k) + 1 <<< (p[k]'(by omega)) := by rw [← List.take_append_getElem (by omega : k < p.length), bitsS_append]; simp [bitsS]
 have hle:=bitsS_le (p := p.take (k + 1)) (m := 13) (fun i hi => by have := hb i (List.mem_of_mem_take hi); omega)
 have hl2 : (p.take (k + 1)).length ≤ 14 := by rw [List.length_take]; omega
 have hle2 : bitsS (p.take (k + 1)) ≤ 14 * 2 ^ 13 := Nat.le_trans hle (Nat.mul_le_mul_right _ hl2)
 rw [hsum] at hle2
 refine so ?_
 refine wl_shl (by decide) rfl rfl (by omega) (shlN (k := p[k]) (by omega)) ?_
 refine sl ?_
 refine wc_region ?_
 refine sl ?_
 refine wk_drop [(0, .slice A (nats p).length c), (3, iv (bitsS (p.take (k + 1)) : Int)), (4, iv ((k + 1) : Int))] ⟨rfl, (by rw [hsum]; rfl), rfl, trivial⟩ (hKL1 _ _ (m2 := p.length - (k + 1)) ?_ ?_)
 refine ⟨(k + 1), rfl, by omega, ?_, rfl⟩
 rfl
 omega
 have hkl : k = p.length := by omega
 refine so ?_
 refine Pt ?_
 exact ⟨_, rfl, by rw [hkl, List.take_length], rfl⟩
theorem bitsS_lt {n : Nat} {p : List Nat} (h : POK n p) : bitsS p < 2 ^ n := by
 refine Nat.lt_pow_two_of_testBit _ (fun i hi => ?_)
 rw [bitsS_tb h.1, decide_eq_false_iff_not]
 intro hm
 have := h.2 i hm
 omega
def RFindPost (H : List HOp) (first : List UInt8) (w0 : World) (M0 Fz : Nat → Prop) (w : World) (F : List It) (gT : Nat) (T : List (Nat × Int)) (p : List Nat) (last : Int) (v : Value) (w' : World) : Prop :=
 ∃ A' c' q b T' AT' cT' Fz', v = .tuple #[.slice A' (nats q).length c', .bool b] ∧ HP w0 M0 Fz' w' (itB gT 147 [.slice AT' T'.length cT'] :: itR 80 2 AT' T'.length cT' (keysC T') :: F) ∧ (∀ x, Fz x → Fz' x) ∧ Chg (fun x => ¬ Fz x) w w' ∧
  IS Fz' w' A' c' (nats q) ∧ MemoK H first T' ∧ (∀ t ∈ T', t ∈ T ∨ bitsS p ≤ t.1) ∧ (match G H first (bitsS p) last with | some r => b = true ∧ q = p ++ r | none => b = false ∧ q = [])
def PFindPost (H : List HOp) (first : List UInt8) (w0 : World) (M0 Fz : Nat → Prop) (w : World) (FR : List It) (f : Value → Option Value) (p : List Nat) (last : Int) (A0 A1 AB : Option Addr) (c0 c1 cB gE gT gF gL gB gO gf m : Nat) (v : Value) (w' : World) : Prop :=
 ∃ b f' AO' cO' Fz' r, v = .bool b ∧ HP w0 M0 Fz' w' (itB gO 33 [.slice AO' r.length cO'] :: itR 3 1 AO' r.length cO' ((nats r).map fun z : Int => Value.int .i64 z) :: itM Try.prog 137 m f' :: itB gE 3 [.int .i64 (endN H : Int)] :: itB gT 134 [.map (some m)] :: itB gF 40 [.slice A1 first.length c1] :: itB gL 107 [.slice A0 H.length c0] :: itB gB 33 [.slice AB (befL H).length cB] :: itB gf 135 [capV gE gT gF gL gB gO gf] :: FR) ∧ (∀ x, Fz x → Fz' x) ∧ Chg (fun x => ¬ Fz x) w w' ∧ TriedK f' ∧
  (match G H first (bitsS p) last with | some q => b = true ∧ r = p ++ q | none => b = false ∧ r = p ∧ ∀ t, (f' (keyV t)).isSome = true → (f (keyV t)).isSome = true ∨ G H first t.1 t.2 = none)
end Go.Proofs.Ytgheaedligkhoaa
namespace Go.Proofs.Ytgheaedligkhoaa
open Go.RowKit Go.Eng _root_.Go.Proofs.Try Go.Eng _root_.Go.Proofs.Try
set_option maxRecDepth 100000
variable {w0 w : World} {M0 Fz : Nat → Prop} {H : List It} {A : Option Addr} {c : Nat}
theorem histT_n (p : Pln) (o : Wsh) (l : List Evt) : (histT p o l).n = l.length ∧ (histT p o l).out.length ≤ l.length ∧ (histT p o l).forged.length ≤ l.length := by
 have : ∀ (l : List Evt) (s : HSt), (l.foldl (histF p o) s).n = s.n + l.length ∧ (l.foldl (histF p o) s).out.length ≤ s.out.length + l.length ∧ (l.foldl (histF p o) s).forged.length ≤ s.forged.length + l.length := by
  intro l
  induction l with
  | nil => intro s; simp
  | cons x l ih =>
   intro s
   rw [List.foldl_cons, List.length_cons]
   have h := ih (histF p o s x)
   have h2 : (histF p o s x).n = s.n + 1 ∧ (histF p o s x).out.length ≤ s.out.length + 1 ∧ (histF p o s x).forged.length ≤ s.forged.length + 1 := by
    unfold histF
    split
    ·simp
    ·split
     ·split
      ·dsimp only; split <;> simp
      ·simp
     ·split <;> simp
   omega
 have h := this l hst0
 simpa [histT, hst0] using h
theorem histT_step {p : Pln} {o : Wsh} {l : List Evt} {k : Nat} (h : k < l.length) : histT p o (l.take (k + 1)) = histF p o (histT p o (l.take k)) (l.getD k evt0) := foldl_take _ _ h
theorem hist_sn {seen : Int × Int → Bool} {fs : Value → Option Value} {b1 b2 : Int} (h : ∀ c t, (fs (pairV c t)).getD (iv 0) = iv (if seen (c, t) = true then 1 else 0)) (c t : Int) : ((updF fs (pairV b1 b2) (iv 1)) (pairV c t)).getD (iv 0) = iv (if (if (c, t) = (b1, b2) then true else seen (c, t)) = true then 1 else 0) := by
 by_cases e : (c, t) = (b1, b2)
 ·cases e; rw [updF_same, if_pos rfl]; rfl
 ·rw [updF_other fs (fun x => e (pairV_inj x)), if_neg e]; exact h c t
theorem linO_ord (H : List HOp) (f : List UInt8) : linO H f = ((ordS H f).2.1, (ordS H f).2.2) := by
 unfold linO
 by_cases h : chkH H = 0
 ·rw [if_pos h]
  cases hg : G H f 0 (-1) with
  | none => rw [ordS_none h hg]; rfl
  | some r => rw [ordS_some h hg]; rfl
 ·rw [if_neg h, ordS_bad h]
theorem forgS_len (p : Pln) (o : Wsh) (l : List Evt) : (forgS p o l).1.length ≤ l.length ∧ (forgS p o l).2.length ≤ l.length := by
 have : ∀ (l : List Evt) (s : List Wsh × List HOp), (l.foldl (forgF p o) s).1.length ≤ s.1.length + l.length ∧ (l.foldl (forgF p o) s).2.length ≤ s.2.length + l.length := by
  intro l
  induction l with
  | nil => intro s; simp
  | cons x l ih =>
   intro s
   have h := ih (forgF p o s x)
   have h2 : (forgF p o s x).1.length ≤ s.1.length + 1 ∧ (forgF p o s x).2.length ≤ s.2.length + 1 := by
    unfold forgF
    split <;> simp
   rw [List.foldl_cons, List.length_cons]
   omega
 have h := this l ([], [])
 simp only [List.length_nil, Nat.zero_add] at h
 exact h
theorem forgS_st (p : Pln) (o : Wsh) {l : List Evt} {k : Nat} (h : k < l.length) : forgS p o (l.take (k + 1)) = forgF p o (forgS p o (l.take k)) (l.getD k evt0) := foldl_take _ _ h
def V1 (p : Pln) (v : JVal) (e : Evt) : Prop := e.time < v.time ∨ e.kind < 1 ∨ 9 < e.kind ∨ ¬ whoE p e ∨ badP p e.a
def u6 (v : JVal) (e : Evt) : JVal := if e.kind = 6 then { v with sld := ups v e } else v
theorem marksRF {w : World} : ∀ {l : List Mrk}, (∀ m ∈ l, MrkI m) → RF markR (fun _ => True) w (l.map markC) l := by
 intro l h
 refine ⟨by simp, fun i hi => ⟨markC l[i], by simp [hi], h _ (List.getElem_mem hi), rfl⟩⟩
structure ValB (v : JVal) (n : Nat) : Prop where
 j : ∀ g ep s a, (v.jobs g ep s a).length ≤ n
 s : ∀ g ep, (v.sld g ep).length ≤ n
 m : ∀ a, 0 ≤ (calOf v a).many ∧ (calOf v a).many ≤ n
theorem firstB_at {p : Pln} {l : List Evt} : ∀ {n j k : Nat}, (∀ i, j ≤ i → i < j + k → broken p l i = 0) → k < n → broken p l (j + k) ≠ 0 → firstB p l j n = (broken p l (j + k), ((j + k : Nat) : Int))
 | 0, _, _, _, h, _ => absurd h (Nat.not_lt_zero _)
 | n + 1, j, 0, _, _, h => by rw [firstB, if_neg (show ¬ broken p l j = 0 from h)]; rfl
 | n + 1, j, k + 1, h0, hk, h => by
  rw [firstB, if_pos (h0 j (Nat.le_refl _) (by omega)), show j + (k + 1) = (j + 1) + k from by omega]
  exact firstB_at (fun i h1 h2 => h0 i (by omega) (by omega)) (by omega) (by rw [show (j + 1) + k = j + (k + 1) from by omega]; exact h)
theorem firstB_no {p : Pln} {l : List Evt} : ∀ {n j : Nat}, (∀ i, j ≤ i → i < j + n → broken p l i = 0) → firstB p l j n = (0, 0)
 | 0, _, _ => rfl
 | n + 1, j, h0 => by
  rw [firstB, if_pos (h0 j (Nat.le_refl _) (by omega))]
  exact firstB_no (fun i h1 h2 => h0 i (by omega) (by omega))
theorem jfs_at {j : Nat} (h : j < 10) : jfs[j]? = some (fv (29 + j)) := by
 rw [List.getElem?_map, List.getElem?_range h]; rfl
theorem broken_no {p : Pln} {l : List Evt} {i : Nat} (h : broken p l i = 0) : ¬ R2 (l.take i) (l.getD i evt0) ∧ ¬ R4 (l.take i) (l.getD i evt0) ∧ ¬ R7 (l.take i) (l.getD i evt0) ∧ ¬ R8 (l.take i) (l.getD i evt0) ∧ ¬ R9 (l.take i) (l.getD i evt0) := by
 unfold broken at h
 by_cases h1 : R1 p (l.take i) (l.getD i evt0)
 ·rw [if_pos h1] at h; cases h
 rw [if_neg h1] at h
 by_cases h2 : R2 (l.take i) (l.getD i evt0)
 ·rw [if_pos h2] at h; cases h
 rw [if_neg h2] at h
 by_cases h3 : R3 p (l.getD i evt0)
 ·rw [if_pos h3] at h; cases h
 rw [if_neg h3] at h
 by_cases h4 : R4 (l.take i) (l.getD i evt0)
 ·rw [if_pos h4] at h; cases h
 rw [if_neg h4] at h
 by_cases h5 : R5 p (l.take (i + 1)) (l.getD i evt0)
 ·rw [if_pos h5] at h; cases h
 rw [if_neg h5] at h
 by_cases h6 : R6 (l.take i) (l.getD i evt0)
 ·rw [if_pos h6] at h; cases h
 rw [if_neg h6] at h
 by_cases h7 : R7 (l.take i) (l.getD i evt0)
 ·rw [if_pos h7] at h; cases h
 rw [if_neg h7] at h
 by_cases h8 : R8 (l.take i) (l.getD i evt0)
 ·rw [if_pos h8] at h; cases h
 rw [if_neg h8] at h
 by_cases h9 : R9 (l.take i) (l.getD i evt0)
 ·rw [if_pos h9] at h; cases h
 exact ⟨h2, h4, h7, h8, h9⟩
theorem fm_modify {α : Type} {G G' : Nat → Option α} {f : α → α} {q : Nat} {y : α} (hG : G q = some y) (hG' : G' q = some (f y)) : ∀ {k : Nat}, q < k → (∀ j, j < k → j ≠ q → G' j = G j) → (List.range k).filterMap G' = ((List.range k).filterMap G).modify ((List.range q).filterMap G).length f := by
 intro k
 induction k with
 | zero => intro h; omega
 | succ k ih =>
  intro hq hc
  rw [List.range_succ, List.filterMap_append, List.filterMap_append]
  by_cases e : q = k
  ·subst e
   rw [fm_congr (G := G) (G' := G') (fun j hj => hc j (by omega) (by omega)), List.filterMap_cons_some hG, List.filterMap_cons_some hG', mod_at]
   rfl
  ·have hlt : ((List.range q).filterMap G).length < ((List.range k).filterMap G).length := by
    have e1 : List.range k = List.range q ++ (q :: ((List.range (k - (q + 1))).map (fun i => q + 1 + i))) := by
     rw [show k = q + 1 + (k - (q + 1)) from by omega, List.range_add, List.range_succ, List.append_assoc, show q + 1 + (k - (q + 1)) - (q + 1) = k - (q + 1) from by omega]
     rfl
    rw [e1, List.filterMap_append, List.filterMap_cons_some hG, List.length_append, List.length_cons]
    omega
   rw [ih (by omega) (fun j hj hn => hc j (by omega) hn), mod_left hlt]
   congr 1
   have := hc k (by omega) (fun x => e x.symm)
   cases hGk : G k with
   | none => rw [List.filterMap_cons_none hGk, List.filterMap_cons_none (this.trans hGk)]; rfl
   | some z => rw [List.filterMap_cons_some hGk, List.filterMap_cons_some (this.trans hGk)]; rfl
theorem end_iff {l : List Evt} : ∀ {k : Nat}, k ≤ l.length → (∀ j, j < k → ¬ R8 (l.take j) (l.getD j evt0)) → ∀ j, j < k → (l.getD j evt0).kind = 1 → (endK l k j = none ↔ ((j : Int) = (callS (l.getD j evt0).a (l.take k)).pos ∧ (callS (l.getD j evt0).a (l.take k)).done = false))
 | 0, _, _, _, h, _ => absurd h (Nat.not_lt_zero _)
 | k + 1, hk, h8, j, hj, hkj => by
  have hn : (callS (l.getD j evt0).a (l.take k)).n = k := callS_len (by omega)
  rw [callS_step _ (by omega)]
  by_cases e : j = k
  ·subst e
   rw [endK_own]
   rcases callF_cases (l.getD j evt0).a (callS (l.getD j evt0).a (l.take j)) (l.getD j evt0) with ⟨h1, h2, h3⟩ | ⟨h1, h2, h3⟩ | ⟨h1, h3⟩
   ·rw [h3, hn]; exact ⟨fun _ => ⟨rfl, rfl⟩, fun _ => rfl⟩
   ·omega
   ·rcases h1 with h1 | h1
    ·exact absurd rfl h1
    ·exact absurd hkj h1.1
  ·have hjk : j < k := by omega
   have ih := end_iff (k := k) (by omega) (fun i hi => h8 i (by omega)) j hjk hkj
   rw [endK_step hjk]
   have hk8 := h8 k (by omega)
   rcases callF_cases (l.getD j evt0).a (callS (l.getD j evt0).a (l.take k)) (l.getD k evt0) with ⟨h1, h2, h3⟩ | ⟨h1, h2, h3⟩ | ⟨h1, h3⟩
   ·rw [h3, hn]
    cases he : endK l k j with
    | some m => exact ⟨fun x => (by cases x), fun x => by have := x.1; dsimp only at this; omega⟩
    | none =>
     have := ih.1 he
     exact absurd ⟨h2, .inl ⟨by rw [h1]; omega, by rw [h1]; exact this.2⟩⟩ hk8
   ·rw [h3]
    cases he : endK l k j with
    | some m => exact ⟨fun x => (by cases x), fun x => (by cases x.2)⟩
    | none =>
     dsimp only
     rw [if_pos ⟨h2, h1⟩]
     exact ⟨fun x => (by cases x), fun x => (by cases x.2)⟩
   ·rw [h3]
    have hno : ¬ ((l.getD k evt0).kind = 2 ∧ (l.getD k evt0).a = (l.getD j evt0).a) := fun x => h1.elim (fun y => y x.2) (fun y => y.2 x.1)
    rw [if_neg hno]
    rw [← ih]
    cases endK l k j <;> exact Iff.rfl
theorem forgS_step (p : Pln) (o : Wsh) {l : List Evt} {k : Nat} (h : k < l.length) : forgS p o (l.take (k + 1)) = forgF p o (forgS p o (l.take k)) (l.getD k evt0) := foldl_take _ _ h
theorem endK_not2 {l : List Evt} {k j : Nat} (h : j < k) (h2 : ¬ ((l.getD k evt0).kind = 2 ∧ (l.getD k evt0).a = (l.getD j evt0).a)) : endK l (k + 1) j = endK l k j := by
 rw [endK_step h, if_neg h2]
 cases endK l k j <;> rfl
theorem forgF_no {p : Pln} {o : Wsh} {s : List Wsh × List HOp} {x : Evt} (h : ¬ x.kind = 3) : forgF p o s x = s := by
 unfold forgF; rw [if_neg (fun y => h y.1.1)]
abbrev plnC (p : Pln) : List Value := [iv p.faults, iv p.chunks, iv p.spares, iv p.clients, iv p.bad]
theorem works_ok_f1 : findS planP [(callE (wrW 31 1 3 7)), (runE 5 1 1 (wrW 31 1 3 7)), (doneE (wrW 31 1 3 7) ans0)] = (0, 0, 0) := by kernel_rfl
theorem works_ok_f2 : findS planP [(callE (wrW 31 1 3 7)), (doneE (wrW 31 1 3 7) ans0)] = (10, 1, 0) := by kernel_rfl
theorem works_ok_f3 : findS planP [(runE 5 1 1 (wrW 31 1 3 7)), (runE 6 1 2 (wrW 31 1 3 7))] = (4, 1, 0) := by kernel_rfl
theorem works_ok_f4 : findS planP [(nodeE 6 5 0 4 9), (nodeE 7 9 1 0 9)] = (1, 1, 0) := by kernel_rfl
theorem works_ok_f5 : findS planP [(nodeE 6 5 0 4 9), (runE 6 5 1 (wrW 31 1 3 7))] = (6, 1, 0) := by kernel_rfl
end Go.Proofs.Ytgheaedligkhoaa
