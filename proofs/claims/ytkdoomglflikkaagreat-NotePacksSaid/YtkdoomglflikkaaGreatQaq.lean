/- What each of these functions computes, for every argument that its theorem names; a part of what the proof of NotePacks stands on. -/
import Derived.Test.YtkdoomglflikkaaGreatQac
import Derived.Test.YtkdoomglflikkaaGreatQad
import Derived.Test.YtkdoomglflikkaaGreatQag
import Derived.Test.YtkdoomglflikkaaGreatQah
import Derived.Test.YtkdoomglflikkaaGreatQan
namespace Go.Proofs.YtkdoomglflikkaaGreat
open Go.RowKit Go.Eng Go.Eng _root_.Go.Proofs.Tryz
set_option maxRecDepth 100000
variable {w0 w : World} {M0 Fz : Nat → Prop} {H : List It} {A : Option Addr} {c : Nat}
theorem t0_own12_ok {p : Prop} (h : p := by exact ⟨(by unfold NteI i64; (try simp only [note0, ans0, change0]); omega), _, _, _, _, _, _, _, _, _, _, _, _, _, _, _, _, _, _, _, _, _, _, rfl, (hn0.to.wid (fun _ => And.left)), gsn, gsn, gsn, gsn, gsn, gsn, gsn, gsn, gsn, gsn⟩) : p := h
theorem t1_own12_ok {p : Prop} (h : p := by exact ⟨(by unfold NteI i64; (try simp only [note0, ans0, change0]); omega), _, _, _, _, _, _, _, _, _, _, _, _, _, _, _, _, _, _, _, _, _, _, rfl, gsn, gsn, gsn, gsn, gsn, gsn, gsn, gsn, gsn, gsn, gsn⟩) : p := h
theorem t2_own12_ok {p : Prop} (h : p := by unfold NteI i64; (try simp only [note0, ans0, change0]); omega) : p := h
set_option maxHeartbeats 40000000 in
theorem own12_ok {S : Nat → Prop} {csn : List Value} {n : Nte} (hn : noteR.rd S w csn n) : Ret prog 55 #[.agg csn.toArray] w (fun v w' => ∃ cs, v = .agg cs.toArray ∧ noteR.rd S w' cs (ownN n) ∧ Ext w w') := by
 obtain ⟨hIn, An0, cn0, An1, cn1, An2, cn2, An3, cn3, An4, cn4, An5, cn5, An6, cn6, An7, cn7, An8, cn8, An9, cn9, An10, cn10, rfl, hn0, hn1, hn2, hn3, hn4, hn5, hn6, hn7, hn8, hn9, hn10⟩ := hn
 have hJn:=hIn
 unfold NteI i64 at hJn
 refine ret_of_wk func55 rfl ntmps55 leB_ ?_
 have hp:=HP.beginS w S
 replace hn0:=hn0.nowS
 replace hn1:=hn1.nowS
 replace hn2:=hn2.nowS
 replace hn3:=hn3.nowS
 replace hn4:=hn4.nowS
 replace hn5:=hn5.nowS
 replace hn6:=hn6.nowS
 replace hn7:=hn7.nowS
 replace hn8:=hn8.nowS
 replace hn9:=hn9.nowS
 replace hn10:=hn10.nowS
 refine so ?_
 refine Bx hp (h := fun gs1 w1 hp hE1 => ?_)
 refine Alo hp (h := fun gs2 w2 hp hE2 => so ?_)
 refine wl_builtS (ps := [(0, .tmp 5), (1, .tmp 7), (2, .tmp 9), (3, .tmp 11)]) (by decide) bld38 rfl rfl ?_
 refine Alo hp (h := fun gs3 w3 hp hE3 => ?_)
 refine Hs 0 hp (h := fun w4 hp hC4 => so ?_)
 refine Cd ?_ ?_<;>intro hc1<;>refine so ?_
 refine Cd ?_ ?_<;>intro hc2<;>refine so ?_
 refine H1 0 hp (h := fun w5 hp hC5 => so ?_)
 refine Hs 1 hp (h := fun w6 hp hC6 => so ?_)
 refine wk_postR (rs := [.cell 2 38]) (.inl rfl) results55 ⟨_, _, _, rfl, rfl, loadVar_agg ag38 (hp.blkAt (i := 1) rfl).at0 rfl, rfl⟩ ?_
 refine ⟨_, rfl, _, rfl, ?_, hp.chg⟩
 have e9 : ownN n = ({ ({ note0 with kind := n.kind, from_ := n.from_, group := n.group, epoch := n.epoch } : Nte) with batch := n.batch } : Nte) := by unfold ownN; first | (simp only [hc1, or_false, or_self, if_true, if_false, Int.reduceEq]; done) | (rw [Nte_eq]; simp [hc1, hc2])
 rw [e9]
 exact t0_own12_ok
 exact absurd hc1 hc2
 refine Cd ?_ ?_<;>intro hc3<;>refine so ?_
 refine H1 0 hp (h := fun w7 hp hC7 => so ?_)
 refine Hs 1 hp (h := fun w8 hp hC8 => so ?_)
 refine wk_postR (rs := [.cell 2 38]) (.inl rfl) results55 ⟨_, _, _, rfl, rfl, loadVar_agg ag38 (hp.blkAt (i := 1) rfl).at0 rfl, rfl⟩ ?_
 refine ⟨_, rfl, _, rfl, ?_, hp.chg⟩
 have e9 : ownN n = ({ ({ note0 with kind := n.kind, from_ := n.from_, group := n.group, epoch := n.epoch } : Nte) with batch := n.batch } : Nte) := by unfold ownN; first | (simp only [hc3, or_true, or_false, or_self, if_true, if_false, Int.reduceEq]; done) | (rw [Nte_eq]; simp [hc1, hc3])
 rw [e9]
 exact t0_own12_ok
 refine Cd ?_ ?_<;>intro hc4<;>refine so ?_
 refine H1 0 hp (h := fun w9 hp hC9 => so ?_)
 refine H1 0 hp (h := fun w10 hp hC10 => so ?_)
 refine Hs 0 hp (h := fun w11 hp hC11 => so ?_)
 refine Hs 1 hp (h := fun w12 hp hC12 => so ?_)
 refine wk_postR (rs := [.cell 2 38]) (.inl rfl) results55 ⟨_, _, _, rfl, rfl, loadVar_agg ag38 (hp.blkAt (i := 1) rfl).at0 rfl, rfl⟩ ?_
 refine ⟨_, rfl, _, rfl, ?_, hp.chg⟩
 have e9 : ownN n = ({ ({ note0 with kind := n.kind, from_ := n.from_, group := n.group, epoch := n.epoch } : Nte) with ans.err := n.ans.err, ans.data := n.ans.data, ans.epoch := n.ans.epoch, ans.nodes := n.ans.nodes, stamp := n.stamp, node := n.node } : Nte) := by unfold ownN; first | (simp only [hc4, or_self, if_true, if_false, Int.reduceEq]; done) | (rw [Nte_eq]; simp [hc1, hc3, hc4])
 rw [e9]
 exact ⟨t2_own12_ok, _, _, _, _, _, _, _, _, _, _, _, _, _, _, _, _, _, _, _, _, _, _, rfl, gsn, (hn1.to.wid (fun _ => And.left)), (hn2.to.wid (fun _ => And.left)), gsn, gsn, gsn, gsn, gsn, gsn, gsn, gsn⟩
 refine Cd ?_ ?_<;>intro hc5<;>refine so ?_
 refine H1 0 hp (h := fun w13 hp hC13 => so ?_)
 refine H1 0 hp (h := fun w14 hp hC14 => so ?_)
 refine H1 0 hp (h := fun w15 hp hC15 => so ?_)
 refine Hs 1 hp (h := fun w16 hp hC16 => so ?_)
 refine wk_postR (rs := [.cell 2 38]) (.inl rfl) results55 ⟨_, _, _, rfl, rfl, loadVar_agg ag38 (hp.blkAt (i := 1) rfl).at0 rfl, rfl⟩ ?_
 refine ⟨_, rfl, _, rfl, ?_, hp.chg⟩
 have e9 : ownN n = ({ ({ note0 with kind := n.kind, from_ := n.from_, group := n.group, epoch := n.epoch } : Nte) with view := n.view, seq := n.seq, batch := n.batch } : Nte) := by unfold ownN; first | (simp only [hc5, or_self, if_true, if_false, Int.reduceEq]; done) | (rw [Nte_eq]; simp [hc1, hc3, hc4, hc5])
 rw [e9]
 exact t0_own12_ok
 refine Cd ?_ ?_<;>intro hc6<;>refine so ?_
 refine Cd ?_ ?_<;>intro hc7<;>refine so ?_
 refine H1 0 hp (h := fun w17 hp hC17 => so ?_)
 refine H1 0 hp (h := fun w18 hp hC18 => so ?_)
 refine Hs 0 hp (h := fun w19 hp hC19 => so ?_)
 refine Hs 1 hp (h := fun w20 hp hC20 => so ?_)
 refine wk_postR (rs := [.cell 2 38]) (.inl rfl) results55 ⟨_, _, _, rfl, rfl, loadVar_agg ag38 (hp.blkAt (i := 1) rfl).at0 rfl, rfl⟩ ?_
 refine ⟨_, rfl, _, rfl, ?_, hp.chg⟩
 have e9 : ownN n = ({ ({ note0 with kind := n.kind, from_ := n.from_, group := n.group, epoch := n.epoch } : Nte) with view := n.view, seq := n.seq, dig := n.dig } : Nte) := by unfold ownN; first | (simp only [hc6, or_false, or_self, if_true, if_false, Int.reduceEq]; done) | (rw [Nte_eq]; simp [hc1, hc3, hc4, hc5, hc6, hc7])
 rw [e9]
 exact t1_own12_ok
 exact absurd hc6 hc7
 refine Cd ?_ ?_<;>intro hc8<;>refine so ?_
 refine H1 0 hp (h := fun w21 hp hC21 => so ?_)
 refine H1 0 hp (h := fun w22 hp hC22 => so ?_)
 refine Hs 0 hp (h := fun w23 hp hC23 => so ?_)
 refine Hs 1 hp (h := fun w24 hp hC24 => so ?_)
 refine wk_postR (rs := [.cell 2 38]) (.inl rfl) results55 ⟨_, _, _, rfl, rfl, loadVar_agg ag38 (hp.blkAt (i := 1) rfl).at0 rfl, rfl⟩ ?_
 refine ⟨_, rfl, _, rfl, ?_, hp.chg⟩
 have e9 : ownN n = ({ ({ note0 with kind := n.kind, from_ := n.from_, group := n.group, epoch := n.epoch } : Nte) with view := n.view, seq := n.seq, dig := n.dig } : Nte) := by unfold ownN; first | (simp only [hc8, or_true, or_self, if_true, if_false, Int.reduceEq]; done) | (rw [Nte_eq]; simp [hc1, hc3, hc4, hc5, hc6, hc8])
 rw [e9]
 exact t1_own12_ok
 refine Cd ?_ ?_<;>intro hc9<;>refine so ?_
 refine Cd ?_ ?_<;>intro hc10<;>refine so ?_
 refine H1 0 hp (h := fun w25 hp hC25 => so ?_)
 refine Hs 0 hp (h := fun w26 hp hC26 => so ?_)
 refine Hs 1 hp (h := fun w27 hp hC27 => so ?_)
 refine wk_postR (rs := [.cell 2 38]) (.inl rfl) results55 ⟨_, _, _, rfl, rfl, loadVar_agg ag38 (hp.blkAt (i := 1) rfl).at0 rfl, rfl⟩ ?_
 refine ⟨_, rfl, _, rfl, ?_, hp.chg⟩
 have e9 : ownN n = ({ ({ note0 with kind := n.kind, from_ := n.from_, group := n.group, epoch := n.epoch } : Nte) with seq := n.seq, dig := n.dig } : Nte) := by unfold ownN; first | (simp only [hc9, or_false, or_self, if_true, if_false, Int.reduceEq]; done) | (rw [Nte_eq]; simp [hc1, hc3, hc4, hc5, hc6, hc8, hc9, hc10])
 rw [e9]
 exact t1_own12_ok
 exact absurd hc9 hc10
 refine Cd ?_ ?_<;>intro hc11<;>refine so ?_
 refine H1 0 hp (h := fun w28 hp hC28 => so ?_)
 refine Hs 0 hp (h := fun w29 hp hC29 => so ?_)
 refine Hs 1 hp (h := fun w30 hp hC30 => so ?_)
 refine wk_postR (rs := [.cell 2 38]) (.inl rfl) results55 ⟨_, _, _, rfl, rfl, loadVar_agg ag38 (hp.blkAt (i := 1) rfl).at0 rfl, rfl⟩ ?_
 refine ⟨_, rfl, _, rfl, ?_, hp.chg⟩
 have e9 : ownN n = ({ ({ note0 with kind := n.kind, from_ := n.from_, group := n.group, epoch := n.epoch } : Nte) with seq := n.seq, dig := n.dig } : Nte) := by unfold ownN; first | (simp only [hc11, or_true, or_self, if_true, if_false, Int.reduceEq]; done) | (rw [Nte_eq]; simp [hc1, hc3, hc4, hc5, hc6, hc8, hc9, hc11])
 rw [e9]
 exact t1_own12_ok
 refine Cd ?_ ?_<;>intro hc12<;>refine so ?_
 refine Hs 0 hp (h := fun w31 hp hC31 => so ?_)
 refine Hs 1 hp (h := fun w32 hp hC32 => so ?_)
 refine wk_postR (rs := [.cell 2 38]) (.inl rfl) results55 ⟨_, _, _, rfl, rfl, loadVar_agg ag38 (hp.blkAt (i := 1) rfl).at0 rfl, rfl⟩ ?_
 refine ⟨_, rfl, _, rfl, ?_, hp.chg⟩
 have e9 : ownN n = ({ ({ note0 with kind := n.kind, from_ := n.from_, group := n.group, epoch := n.epoch } : Nte) with change.node := n.change.node, change.view := n.change.view, change.low := n.change.low, change.marks := n.change.marks, change.p := n.change.p, change.q := n.change.q } : Nte) := by unfold ownN; first | (simp only [hc12, or_self, if_true, if_false, Int.reduceEq]; done) | (rw [Nte_eq]; simp [hc1, hc3, hc4, hc5, hc6, hc8, hc9, hc11, hc12])
 rw [e9]
 exact ⟨t2_own12_ok, _, _, _, _, _, _, _, _, _, _, _, _, _, _, _, _, _, _, _, _, _, _, rfl, gsn, gsn, gsn, (hn3.to.wid (fun _ => And.left)), (hn4.to.wid (fun _ => And.left)), (hn5.to.wid (fun _ => And.left)), gsn, gsn, gsn, gsn, gsn⟩
 refine Cd ?_ ?_<;>intro hc13<;>refine so ?_
 refine H1 0 hp (h := fun w33 hp hC33 => so ?_)
 refine H1 0 hp (h := fun w34 hp hC34 => so ?_)
 refine Hs 0 hp (h := fun w35 hp hC35 => so ?_)
 refine Hs 1 hp (h := fun w36 hp hC36 => so ?_)
 refine wk_postR (rs := [.cell 2 38]) (.inl rfl) results55 ⟨_, _, _, rfl, rfl, loadVar_agg ag38 (hp.blkAt (i := 1) rfl).at0 rfl, rfl⟩ ?_
 refine ⟨_, rfl, _, rfl, ?_, hp.chg⟩
 have e9 : ownN n = ({ ({ note0 with kind := n.kind, from_ := n.from_, group := n.group, epoch := n.epoch } : Nte) with view := n.view, dig := n.dig, node := n.node } : Nte) := by unfold ownN; first | (simp only [hc13, or_self, if_true, if_false, Int.reduceEq]; done) | (rw [Nte_eq]; simp [hc1, hc3, hc4, hc5, hc6, hc8, hc9, hc11, hc12, hc13])
 rw [e9]
 exact t1_own12_ok
 refine Cd ?_ ?_<;>intro hc14<;>refine so ?_
 refine H1 0 hp (h := fun w37 hp hC37 => so ?_)
 refine H1 0 hp (h := fun w38 hp hC38 => so ?_)
 refine H1 0 hp (h := fun w39 hp hC39 => so ?_)
 refine Hs 1 hp (h := fun w40 hp hC40 => so ?_)
 refine wk_postR (rs := [.cell 2 38]) (.inl rfl) results55 ⟨_, _, _, rfl, rfl, loadVar_agg ag38 (hp.blkAt (i := 1) rfl).at0 rfl, rfl⟩ ?_
 refine ⟨_, rfl, _, rfl, ?_, hp.chg⟩
 have e9 : ownN n = ({ ({ note0 with kind := n.kind, from_ := n.from_, group := n.group, epoch := n.epoch } : Nte) with view := n.view, changes := n.changes, picks := n.picks } : Nte) := by unfold ownN; first | (simp only [hc14, or_self, if_true, if_false, Int.reduceEq]; done) | (rw [Nte_eq]; simp [hc1, hc3, hc4, hc5, hc6, hc8, hc9, hc11, hc12, hc13, hc14])
 rw [e9]
 exact ⟨t2_own12_ok, _, _, _, _, _, _, _, _, _, _, _, _, _, _, _, _, _, _, _, _, _, _, rfl, gsn, gsn, gsn, gsn, gsn, gsn, (hn6.to.wid (fun _ => And.left)), (hn7.to.wid (fun _ => And.left)), gsn, gsn, gsn⟩
 refine Cd ?_ ?_<;>intro hc15<;>refine so ?_
 refine Cd ?_ ?_<;>intro hc16<;>refine so ?_
 refine H1 0 hp (h := fun w41 hp hC41 => so ?_)
 refine Hs 0 hp (h := fun w42 hp hC42 => so ?_)
 refine H1 0 hp (h := fun w43 hp hC43 => so ?_)
 refine H1 0 hp (h := fun w44 hp hC44 => so ?_)
 refine Cd ?_ ?_<;>intro hc17<;>refine so ?_
 exact absurd hc17 (by omega)
 refine Hs 1 hp (h := fun w45 hp hC45 => so ?_)
 refine wk_postR (rs := [.cell 2 38]) (.inl rfl) results55 ⟨_, _, _, rfl, rfl, loadVar_agg ag38 (hp.blkAt (i := 1) rfl).at0 rfl, rfl⟩ ?_
 refine ⟨_, rfl, _, rfl, ?_, hp.chg⟩
 have e9 : ownN n = ({ ({ note0 with kind := n.kind, from_ := n.from_, group := n.group, epoch := n.epoch } : Nte) with seq := n.seq, dig := n.dig, level := n.level, place := n.place } : Nte) := by unfold ownN; first | (simp only [hc15, or_self, if_true, if_false, Int.reduceEq]; done) | (rw [Nte_eq]; simp [hc1, hc3, hc4, hc5, hc6, hc8, hc9, hc11, hc12, hc13, hc14, hc15, hc16, hc17])
 rw [e9]
 exact t1_own12_ok
 exact absurd hc15 hc16
 refine Cd ?_ ?_<;>intro hc18<;>refine so ?_
 refine H1 0 hp (h := fun w46 hp hC46 => so ?_)
 refine Hs 0 hp (h := fun w47 hp hC47 => so ?_)
 refine H1 0 hp (h := fun w48 hp hC48 => so ?_)
 refine H1 0 hp (h := fun w49 hp hC49 => so ?_)
 refine Cd ?_ ?_<;>intro hc19<;>refine so ?_
 refine H1 0 hp (h := fun w50 hp hC50 => so ?_)
 refine H1 0 hp (h := fun w51 hp hC51 => so ?_)
 refine Hs 1 hp (h := fun w52 hp hC52 => so ?_)
 refine wk_postR (rs := [.cell 2 38]) (.inl rfl) results55 ⟨_, _, _, rfl, rfl, loadVar_agg ag38 (hp.blkAt (i := 1) rfl).at0 rfl, rfl⟩ ?_
 refine ⟨_, rfl, _, rfl, ?_, hp.chg⟩
 have e9 : ownN n = ({ ({ note0 with kind := n.kind, from_ := n.from_, group := n.group, epoch := n.epoch } : Nte) with seq := n.seq, dig := n.dig, level := n.level, place := n.place, digs := n.digs, data := n.data } : Nte) := by unfold ownN; first | (simp only [hc18, or_self, if_true, if_false, Int.reduceEq]; done) | (rw [Nte_eq]; simp [hc1, hc3, hc4, hc5, hc6, hc8, hc9, hc11, hc12, hc13, hc14, hc15, hc18, hc19])
 rw [e9]
 exact ⟨t2_own12_ok, _, _, _, _, _, _, _, _, _, _, _, _, _, _, _, _, _, _, _, _, _, _, rfl, gsn, gsn, gsn, gsn, gsn, gsn, gsn, gsn, (hn8.to.wid (fun _ => And.left)), (hn9.to.wid (fun _ => And.left)), gsn⟩
 exact absurd hc18 hc19
 refine Cd ?_ ?_<;>intro hc20<;>refine so ?_
 refine H1 0 hp (h := fun w53 hp hC53 => so ?_)
 refine Hs 1 hp (h := fun w54 hp hC54 => so ?_)
 refine wk_postR (rs := [.cell 2 38]) (.inl rfl) results55 ⟨_, _, _, rfl, rfl, loadVar_agg ag38 (hp.blkAt (i := 1) rfl).at0 rfl, rfl⟩ ?_
 refine ⟨_, rfl, _, rfl, ?_, hp.chg⟩
 have e9 : ownN n = ({ ({ note0 with kind := n.kind, from_ := n.from_, group := n.group, epoch := n.epoch } : Nte) with nodes := n.nodes } : Nte) := by unfold ownN; first | (simp only [hc20, or_self, if_true, if_false, Int.reduceEq]; done) | (rw [Nte_eq]; simp [hc1, hc3, hc4, hc5, hc6, hc8, hc9, hc11, hc12, hc13, hc14, hc15, hc18, hc20])
 rw [e9]
 exact ⟨t2_own12_ok, _, _, _, _, _, _, _, _, _, _, _, _, _, _, _, _, _, _, _, _, _, _, rfl, gsn, gsn, gsn, gsn, gsn, gsn, gsn, gsn, gsn, gsn, (hn10.to.wid (fun _ => And.left))⟩
 refine Cd ?_ ?_<;>intro hc21<;>refine so ?_
 refine H1 0 hp (h := fun w55 hp hC55 => so ?_)
 refine H1 0 hp (h := fun w56 hp hC56 => so ?_)
 refine Hs 1 hp (h := fun w57 hp hC57 => so ?_)
 refine wk_postR (rs := [.cell 2 38]) (.inl rfl) results55 ⟨_, _, _, rfl, rfl, loadVar_agg ag38 (hp.blkAt (i := 1) rfl).at0 rfl, rfl⟩ ?_
 refine ⟨_, rfl, _, rfl, ?_, hp.chg⟩
 have e9 : ownN n = ({ ({ note0 with kind := n.kind, from_ := n.from_, group := n.group, epoch := n.epoch } : Nte) with seq := n.seq, batch := n.batch } : Nte) := by unfold ownN; first | (simp only [hc21, or_self, if_true, if_false, Int.reduceEq]; done) | (rw [Nte_eq]; simp [hc1, hc3, hc4, hc5, hc6, hc8, hc9, hc11, hc12, hc13, hc14, hc15, hc18, hc20, hc21])
 rw [e9]
 exact t0_own12_ok
 refine Cd ?_ ?_<;>intro hc22<;>refine so ?_
 refine H1 0 hp (h := fun w58 hp hC58 => so ?_)
 refine Hs 1 hp (h := fun w59 hp hC59 => so ?_)
 refine wk_postR (rs := [.cell 2 38]) (.inl rfl) results55 ⟨_, _, _, rfl, rfl, loadVar_agg ag38 (hp.blkAt (i := 1) rfl).at0 rfl, rfl⟩ ?_
 refine ⟨_, rfl, _, rfl, ?_, hp.chg⟩
 have e9 : ownN n = ({ ({ note0 with kind := n.kind, from_ := n.from_, group := n.group, epoch := n.epoch } : Nte) with batch := n.batch } : Nte) := by unfold ownN; first | (simp only [hc22, or_true, or_self, if_true, if_false, Int.reduceEq]; done) | (rw [Nte_eq]; simp [hc1, hc3, hc4, hc5, hc6, hc8, hc9, hc11, hc12, hc13, hc14, hc15, hc18, hc20, hc21, hc22])
 rw [e9]
 exact t0_own12_ok
 refine Hs 1 hp (h := fun w60 hp hC60 => so ?_)
 refine wk_postR (rs := [.cell 2 38]) (.inl rfl) results55 ⟨_, _, _, rfl, rfl, loadVar_agg ag38 (hp.blkAt (i := 1) rfl).at0 rfl, rfl⟩ ?_
 refine ⟨_, rfl, _, rfl, ?_, hp.chg⟩
 have e9 : ownN n = ({ note0 with kind := n.kind, from_ := n.from_, group := n.group, epoch := n.epoch } : Nte) := by unfold ownN; first | (simp only [hc1, hc3, hc4, hc5, hc6, hc8, hc9, hc11, hc12, hc13, hc14, hc15, hc18, hc20, hc21, hc22, or_self, if_false]; done) | (rw [Nte_eq]; simp [hc1, hc3, hc4, hc5, hc6, hc8, hc9, hc11, hc12, hc13, hc14, hc15, hc18, hc20, hc21, hc22])
 rw [e9]
 exact t1_own12_ok
end Go.Proofs.YtkdoomglflikkaaGreat
