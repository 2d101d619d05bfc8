/- What each of these functions computes, for every argument that its theorem names; a part of what the proof of NoteChecks stands on. -/
import Derived.Test.YtkdoomglflikkaaGreatCac
import Derived.Test.YtkdoomglflikkaaGreatCad
import Derived.Test.YtkdoomglflikkaaGreatCae
import Derived.Test.YtkdoomglflikkaaGreatCag
import Derived.Test.YtkdoomglflikkaaGreatCah
import Derived.Test.YtkdoomglflikkaaGreatCaj
import Derived.Test.YtkdoomglflikkaaGreatCak
import Derived.Test.YtkdoomglflikkaaGreatCan
import Derived.Test.YtkdoomglflikkaaGreatCao
import Derived.Test.YtkdoomglflikkaaGreatCap
import Derived.Test.YtkdoomglflikkaaGreatCau
import Derived.Test.YtkdoomglflikkaaGreatCax
import Derived.Test.YtkdoomglflikkaaGreatCay
namespace Go.Proofs.YtkdoomglflikkaaGreat
open Go.ChangeShapes Go.WideShapes Go.ChangeAt Go.RowKit Go.Eng Go.Eng _root_.Go.Proofs.Tryz
set_option maxRecDepth 100000
variable {w0 w : World} {M0 Fz : Nat → Prop} {H : List It} {A : Option Addr} {c : Nat}
theorem reads_Nte : ReadsR Tryz.prog 38 noteR (fun x => x.changes.length * 96 ≤ 140737488355328) := by
  intro H enc w base sp held fuel cs x h hlt hw
  have hlen := trod_structLen Tryz.underlying38 h
  rw [Tryz.ce38] at hlen
  obtain ⟨v0, h0, g0⟩ := reads_field Tryz.underlying38 (i := 0) rfl (reads_int Tryz.underlying3) h hlt hw
  replace h0 : intR.rd _ _ ((cs.drop 0).take (Tryz.prog.cellsOf 3)) v0 := h0
  rw [Tryz.ce3] at h0
  have e0 : (cs.drop 0).take 1 = [.int .i64 v0] := h0
  obtain ⟨v1, h1, g1⟩ := reads_field Tryz.underlying38 (i := 1) rfl (reads_int Tryz.underlying3) h hlt hw
  replace h1 : intR.rd _ _ ((cs.drop 1).take (Tryz.prog.cellsOf 3)) v1 := h1
  rw [Tryz.ce3] at h1
  have e1 : (cs.drop 1).take 1 = [.int .i64 v1] := h1
  obtain ⟨v2, h2, g2⟩ := reads_field Tryz.underlying38 (i := 2) rfl (reads_int Tryz.underlying3) h hlt hw
  replace h2 : intR.rd _ _ ((cs.drop 2).take (Tryz.prog.cellsOf 3)) v2 := h2
  rw [Tryz.ce3] at h2
  have e2 : (cs.drop 2).take 1 = [.int .i64 v2] := h2
  obtain ⟨v3, h3, g3⟩ := reads_field Tryz.underlying38 (i := 3) rfl (reads_int Tryz.underlying3) h hlt hw
  replace h3 : intR.rd _ _ ((cs.drop 3).take (Tryz.prog.cellsOf 3)) v3 := h3
  rw [Tryz.ce3] at h3
  have e3 : (cs.drop 3).take 1 = [.int .i64 v3] := h3
  obtain ⟨v4, h4, g4⟩ := reads_field Tryz.underlying38 (i := 4) rfl (reads_int Tryz.underlying3) h hlt hw
  replace h4 : intR.rd _ _ ((cs.drop 4).take (Tryz.prog.cellsOf 3)) v4 := h4
  rw [Tryz.ce3] at h4
  have e4 : (cs.drop 4).take 1 = [.int .i64 v4] := h4
  obtain ⟨v5, h5, g5⟩ := reads_field Tryz.underlying38 (i := 5) rfl (reads_int Tryz.underlying3) h hlt hw
  replace h5 : intR.rd _ _ ((cs.drop 5).take (Tryz.prog.cellsOf 3)) v5 := h5
  rw [Tryz.ce3] at h5
  have e5 : (cs.drop 5).take 1 = [.int .i64 v5] := h5
  obtain ⟨v6, h6, g6⟩ := reads_field Tryz.underlying38 (i := 6) rfl reads_t23 h hlt hw
  replace h6 : digR.rd _ _ ((cs.drop 6).take (Tryz.prog.cellsOf 23)) v6 := h6
  rw [Tryz.ce23] at h6
  have e6 : (cs.drop 6).take 32 = digC v6 := h6
  obtain ⟨v7, h7, g7⟩ := reads_field Tryz.underlying38 (i := 7) rfl reads_t24 h hlt hw
  replace h7 : (sliceR wishR).rd _ _ ((cs.drop 38).take (Tryz.prog.cellsOf 24)) v7 := h7
  rw [Tryz.ce24] at h7
  obtain ⟨A7, c7, e7, k7⟩ := h7
  obtain ⟨v8, h8, g8⟩ := reads_field Tryz.underlying38 (i := 8) rfl reads_Ans h hlt hw
  replace h8 : ansR.rd _ _ ((cs.drop 39).take (Tryz.prog.cellsOf 29)) v8 := h8
  rw [Tryz.ce29] at h8
  obtain ⟨I8, A8_0, c8_0, A8_1, c8_1, e8, k8_0, k8_1⟩ := h8
  unfold AnsI i64 at I8
  obtain ⟨v9, h9, g9⟩ := reads_field Tryz.underlying38 (i := 9) rfl (reads_int Tryz.underlying3) h hlt hw
  replace h9 : intR.rd _ _ ((cs.drop 43).take (Tryz.prog.cellsOf 3)) v9 := h9
  rw [Tryz.ce3] at h9
  have e9 : (cs.drop 43).take 1 = [.int .i64 v9] := h9
  obtain ⟨v10, h10, g10⟩ := reads_field Tryz.underlying38 (i := 10) rfl (reads_int Tryz.underlying3) h hlt hw
  replace h10 : intR.rd _ _ ((cs.drop 44).take (Tryz.prog.cellsOf 3)) v10 := h10
  rw [Tryz.ce3] at h10
  have e10 : (cs.drop 44).take 1 = [.int .i64 v10] := h10
  obtain ⟨v11, h11, g11⟩ := reads_field Tryz.underlying38 (i := 11) rfl reads_Chn h hlt hw
  replace h11 : changeR.rd _ _ ((cs.drop 45).take (Tryz.prog.cellsOf 33)) v11 := h11
  rw [Tryz.ce33] at h11
  obtain ⟨I11, A11_0, c11_0, A11_1, c11_1, A11_2, c11_2, e11, k11_0, k11_1, k11_2⟩ := h11
  unfold ChnI i64 at I11
  obtain ⟨v12, h12, g12⟩ := reads_field Tryz.underlying38 (i := 12) rfl reads_t34 h hlt hw
  replace h12 : (sliceR changeR).rd _ _ ((cs.drop 51).take (Tryz.prog.cellsOf 34)) v12 := h12
  rw [Tryz.ce34] at h12
  obtain ⟨A12, c12, e12, k12⟩ := h12
  obtain ⟨v13, h13, g13⟩ := reads_field Tryz.underlying38 (i := 13) rfl reads_t35 h hlt hw
  replace h13 : (sliceR pickR).rd _ _ ((cs.drop 52).take (Tryz.prog.cellsOf 35)) v13 := h13
  rw [Tryz.ce35] at h13
  obtain ⟨A13, c13, e13, k13⟩ := h13
  obtain ⟨v14, h14, g14⟩ := reads_field Tryz.underlying38 (i := 14) rfl (reads_int Tryz.underlying3) h hlt hw
  replace h14 : intR.rd _ _ ((cs.drop 53).take (Tryz.prog.cellsOf 3)) v14 := h14
  rw [Tryz.ce3] at h14
  have e14 : (cs.drop 53).take 1 = [.int .i64 v14] := h14
  obtain ⟨v15, h15, g15⟩ := reads_field Tryz.underlying38 (i := 15) rfl (reads_int Tryz.underlying3) h hlt hw
  replace h15 : intR.rd _ _ ((cs.drop 54).take (Tryz.prog.cellsOf 3)) v15 := h15
  rw [Tryz.ce3] at h15
  have e15 : (cs.drop 54).take 1 = [.int .i64 v15] := h15
  obtain ⟨v16, h16, g16⟩ := reads_field Tryz.underlying38 (i := 16) rfl reads_t36 h hlt hw
  replace h16 : (sliceR digR).rd _ _ ((cs.drop 55).take (Tryz.prog.cellsOf 36)) v16 := h16
  rw [Tryz.ce36] at h16
  obtain ⟨A16, c16, e16, k16⟩ := h16
  obtain ⟨v17, h17, g17⟩ := reads_field Tryz.underlying38 (i := 17) rfl reads_t26 h hlt hw
  replace h17 : (sliceR byteR).rd _ _ ((cs.drop 56).take (Tryz.prog.cellsOf 26)) v17 := h17
  rw [Tryz.ce26] at h17
  obtain ⟨A17, c17, e17, k17⟩ := h17
  obtain ⟨v18, h18, g18⟩ := reads_field Tryz.underlying38 (i := 18) rfl reads_t27 h hlt hw
  replace h18 : (sliceR intR).rd _ _ ((cs.drop 57).take (Tryz.prog.cellsOf 27)) v18 := h18
  rw [Tryz.ce27] at h18
  obtain ⟨A18, c18, e18, k18⟩ := h18
  have e := (List.drop_zero (l := cs)).symm
  rw [seg_cons (m := 1) rfl e0] at e
  rw [seg_cons (m := 2) rfl e1] at e
  rw [seg_cons (m := 3) rfl e2] at e
  rw [seg_cons (m := 4) rfl e3] at e
  rw [seg_cons (m := 5) rfl e4] at e
  rw [seg_cons (m := 6) rfl e5] at e
  rw [seg_cons (m := 38) rfl e6] at e
  rw [seg_cons (m := 39) rfl e7] at e
  rw [seg_cons (m := 43) rfl e8] at e
  rw [seg_cons (m := 44) rfl e9] at e
  rw [seg_cons (m := 45) rfl e10] at e
  rw [seg_cons (m := 51) rfl e11] at e
  rw [seg_cons (m := 52) rfl e12] at e
  rw [seg_cons (m := 53) rfl e13] at e
  rw [seg_cons (m := 54) rfl e14] at e
  rw [seg_cons (m := 55) rfl e15] at e
  rw [seg_cons (m := 56) rfl e16] at e
  rw [seg_cons (m := 57) rfl e17] at e
  rw [seg_cons (m := 58) rfl e18] at e
  rw [List.drop_eq_nil_of_le (by rw [hlen]; exact Nat.le_refl _)] at e
  refine ⟨{ kind := v0, from_ := v1, group := v2, epoch := v3, view := v4, seq := v5, dig := v6, batch := v7, ans := v8, stamp := v9, node := v10, change := v11, changes := v12, picks := v13, level := v14, place := v15, digs := v16, data := v17, nodes := v18 }, ?_, g12⟩
  refine ⟨by unfold NteI i64; dsimp only; omega, _, _, _, _, _, _, _, _, _, _, _, _, _, _, _, _, _, _, _, _, _, _, e.trans (by (try simp only [List.cons_append, List.nil_append, List.append_nil]); try rfl), k7, k8_0, k8_1, k11_0, k11_1, k11_2, k12, k13, k16, k17, k18⟩
end Go.Proofs.YtkdoomglflikkaaGreat
namespace Go.Proofs.YtkdoomglflikkaaGreat
open Go.RowKit Go.Eng Go.Eng _root_.Go.Proofs.Tryz
set_option maxRecDepth 100000
variable {w0 w : World} {M0 Fz : Nat → Prop} {H : List It} {A : Option Addr} {c : Nat}
set_option maxHeartbeats 4000000 in
theorem sameBatch_ok {Aa : Option Addr} {ca : Nat} {a : List Wsh} {Sa : Nat → Prop} {Ab : Option Addr} {cb : Nat} {b : List Wsh} {Sb : Nat → Prop} {w : World} (ha : GS wishR Sa w Aa ca a) (hb : GS wishR Sb w Ab cb b) : Ret Tryz.prog 69 #[.slice Aa a.length ca, .slice Ab b.length cb] w (fun v w' => v = .bool (decide (a = b)) ∧ Ext w w') := by
 have mha := ha.mx
 have mhb := hb.mx
 refine ret_of_wk Tryz.func69 rfl Tryz.ntmps69 (Nat.le_of_ble_eq_true rfl) ?_
 have hEc : Ext w w := Chg.refl _ _
 refine wc_seq ?_
 refine wc_region ?_
 refine wl_assign (by decide) rfl ?_
 refine wl_nil ?_
 refine wk_norm ?_
 refine wc_seq ?_
 refine wc_region ?_
 refine wl_move (by decide) rfl ?_
 refine wl_move (by decide) rfl ?_
 have hcl := efW_ok ha hb
 refine wl_call (by decide) Tryz.cl115 rfl hcl ?_
 clear hcl
 rintro _ w1 ⟨rfl, hE1⟩
 replace ha := ha.ext hE1
 replace hb := hb.ext hE1
 replace hEc := hEc.trans hE1
 refine wl_assign (by decide) rfl ?_
 refine wl_nil ?_
 refine wk_norm ?_
 refine wc_ret ?_
 refine wk_post1 (.inl rfl) Tryz.results69 rfl ?_
 exact ⟨_, rfl, rfl, hEc⟩
set_option maxHeartbeats 40000000 in
theorem gBatch_ok {gw : Nat} {out : List UInt8} {pa : Addr} {l : List Wsh} {B : Option Addr} {d : Nat} (hp : HP w0 M0 Fz w (itB gw 89 [.slice A out.length c] :: itR 5 1 A out.length c (out.map bv) :: H)) (hat : AtF Fz w pa [.slice B l.length d]) (hgb : GS wishR Fz w B d l) (hok : batchOk l) (hlen : out.length + (batchE l).length ≤ 1000000) : Ret prog 174 #[.pointer (some ⟨gw, 0, none⟩), .pointer (some pa)] w (WrP 5 89 gw w0 M0 Fz w H (out ++ batchE l)) := by
 have hFr:=Frz.start Fz w
 refine ret_of_wk func174 rfl ntmps174 leB_ ?_
 refine go ?_
 refine Ld_ sc24 rfl hat.head ?_
 have hcl:=wBatch_ok hgb hok
 refine Cl_ cl179 rfl hcl ?_
 clear hcl
 rintro _ w1 ⟨A1, c1, rfl, ho1, hE1⟩
 replace ho1:=ho1.bs
 have hsz2:=hp.chg.size
 obtain ⟨Fz2, hp2, hsub2, hnew2, hup2⟩ := hp.frz hE1
 replace hp:=hp2
 replace hFr:=(hFr.ext hE1).wid hsub2
 replace ho1:=ho1.frz hnew2
 refine go ?_
 refine wl_halloc (e := 26) (z := s0) (by decide) (by kernel_rfl) hp ?_
 rintro gs4 w3 hp3 hE3
 replace hFr:=hFr.ext hE3
 have q0:=hE3
 replace hp:=hp3
 replace hp:=hp.ay (itB gs4 26 ([s0]) :: _)
 refine wl_hstore1 (i := 0) rfl rfl hp rfl sz26 (Nat.lt_of_lt_of_le (Nat.lt_succ_self _) leB_) rfl ?_
 rintro w4 hp4 hC4
 replace hFr:=hFr.fz hC4
 have q1:=ho1.tk.ext q0
 replace q1:=q1.fz hC4
 replace hp:=hp4
 obtain ⟨Fz5, hp5, hs5, hatb⟩ := (hp.as_ (H' := itB gs4 26 [.slice A1 (blistE l).length c1] :: _) rfl).frzBlk
 replace hp:=hp5
 replace hFr:=hFr.wid hs5
 replace q1:=q1.wid hs5
 refine go ?_
 have hlb:=blist_len hok
 have hcl:=gStr_ok (v9 := iv 0) hp hatb (ho1.fr q1) (by omega) hlen
 refine Cl_ cl178 rfl hcl ?_
 clear hcl
 rintro _ w6 ⟨A6, c6, hp6, hF6⟩
 replace hFr:=hFr.fr hF6
 replace hp:=(hp6.ay (itB gw 89 [.slice A6 ((out ++ batchE l)).length c6] :: itR 5 1 A6 ((out ++ batchE l)).length c6 (((out ++ batchE l)).map bv) :: H))
 refine go ?_
 refine wk_post0 (.inr rfl) results174  ?_
 exact ⟨_, rfl, _, _, hp.less hFr.sub, hFr.chg, fun _ h => h⟩
set_option maxHeartbeats 40000000 in
theorem gShow1_ok {gw : Nat} {out : List UInt8} {pa : Addr} {pc : Addr} {cs : List Value} {x : Chn} (hp : HP w0 M0 Fz w (itB gw 89 [.slice A out.length c] :: itR 5 1 A out.length c (out.map bv) :: H)) (hatx : AtF Fz w pa cs) (hrd : changeR.rd Fz w cs x) (hok : changeOk x) (hlen : out.length + (changeE x).length ≤ 1000000) (hcap : AtF Fz w pc [.iface 87 (.pointer (some ⟨gw, 0, none⟩))]) : Ret prog 110 #[.pointer (some pa), .pointer (some pc)] w (WrP 5 89 gw w0 M0 Fz w H (out ++ changeE x)) := by
 obtain ⟨hIx, B0, d0, B1, d1, B2, d2, rfl, hx0, hx1, hx2⟩ := hrd
 refine ret_of_wk func110 rfl ntmps110 leB_ ?_
 refine so ?_
 refine Ce (gChange_ok hp (hatx) ⟨hIx, _, _, _, _, _, _, rfl, hx0, hx1, hx2⟩ hok hlen) ?_
 rintro _ w1 ⟨A1, c1, hp, hF1⟩
 replace hp:=(hp.ay (itB gw 89 [.slice A1 ((out ++ changeE x)).length c1] :: itR 5 1 A1 ((out ++ changeE x)).length c1 (((out ++ changeE x)).map bv) :: H))
 refine so ?_
 refine wk_post0 (.inr rfl) results110  ?_
 rw [show out ++ changeE x = (out ++ changeE x) from by simp only [changeE, ← List.append_assoc]]
 have hFr:=mv (S := Fz) (w := w) (w' := w1)
 exact ⟨_, rfl, _, _, hp.less hFr.sub, hFr.chg, fun _ h => h⟩
set_option maxHeartbeats 40000000 in
theorem nBatch_ok {gr : Nat} {l : List UInt8} {bad : Bool} {X : List Value → It} {pX : Addr} (hp : HP w0 M0 Fz w (itB gr 103 [.slice A l.length c, .bool bad] :: X ([.slice none 0 0]) :: H)) (hS : Slot X pX 1) (hl : GS byteR Fz w A c l) : Ret prog 185 #[.pointer (some ⟨gr, 0, none⟩), .pointer (some pX)] w (RdP 103 gr w0 M0 Fz w H X (sliceR wishR) batchP bad l) := by
 refine ret_of_wk func185 rfl ntmps185 leB_ ?_
 refine so ?_
 refine Alo hp (h := fun gs4 w1 hp hE1 => so ?_)
 replace hp:=((hp.up 0 rfl).up 1 rfl).as_ (H' := itB gr 103 [.slice A l.length c, .bool bad] :: itB gs4 26 ([s0]) :: X ([s0]) :: H) rfl
 refine Ce (nStr_ok (X := (fun cs => itB gs4 26 (([]) ++ (cs ++ ([]))))) (pX := ⟨gs4, 0, none⟩) (most := 65536) hp (Slot.blk ([]) ([])) hl.to) ?_
 rintro _ w2 ⟨F2, A2, c2, l2, b2, cs2, x2, hp, hF2, hl2, hrd2, hst2⟩
 obtain ⟨B2, d2, rfl, hg2⟩ := hrd2
 refine so ?_
 refine Ce (wUnb_ok hp hg2) ?_
 rintro _ w3 ⟨F3, A3, c3, x3, e3, rfl, hp, hF3, hg3, hu3⟩
 refine so ?_
 refine Gs 19 ?_ ?_<;>intro hg1<;>refine so ?_
 refine H1 0 hp (h := fun w4 hp hC4 => so ?_)
 refine aF (so ?_)
 refine wk_post0 (.inr rfl) results185  ?_
 exact ⟨_, rfl, _, A2, c2, l2, true, _, [], (((hp.up 1 rfl).tail.up 1 rfl).up 1 rfl), mv, hl2.to, sliceR_mk (GS.nil _ _ _ none 0), step_batch hst2 hu3 (by first | (simp_all; done) | rfl) (fun h => by first | rfl | (simp_all; done))⟩
 refine H1 0 hp (h := fun w5 hp hC5 => so ?_)
 refine Cd ?_ ?_<;>intro hc2<;>refine so ?_
 refine wl_sstore1 0 (i := 2) hS (by rw [add_zero']; rfl) rfl hp rfl rfl sz24 (by decide) rfl ?_
 rintro w6 hp hC6
 refine so ?_
 refine wk_post0 (.inr rfl) results185  ?_
 exact ⟨_, rfl, _, A2, c2, l2, (decide (e3 ≠ 0)), _, x3, (((hp.up 1 rfl).tail.up 1 rfl).up 1 rfl), mv, hl2.to, sliceR_mk hg3.to, step_batch hst2 hu3 (by first | (simp_all; done) | rfl) (fun h => by first | rfl | (simp_all; done))⟩
 refine wk_post0 (.inr rfl) results185  ?_
 exact ⟨_, rfl, _, A2, c2, l2, (decide (e3 ≠ 0)), _, [], (((hp.up 1 rfl).tail.up 1 rfl).up 1 rfl), mv, hl2.to, sliceR_mk (GS.nil _ _ _ none 0), step_batch hst2 hu3 (by first | (simp_all; done) | rfl) (fun h => by first | rfl | (simp_all; done))⟩
set_option maxHeartbeats 40000000 in
theorem rShow1_ok {gr : Nat} {l : List UInt8} {bad : Bool} {X : List Value → It} {pX pc : Addr} (hp : HP w0 M0 Fz w (itB gr 103 [.slice A l.length c, .bool bad] :: X ([.int .i64 0, .int .i64 0, .int .i64 0, .slice none 0 0, .slice none 0 0, .slice none 0 0]) :: H)) (hS : Slot X pX 6) (hl : GS byteR Fz w A c l) (hcap : AtF Fz w pc [.iface 101 (.pointer (some ⟨gr, 0, none⟩))]) : Ret prog 110 #[.pointer (some pX), .pointer (some pc)] w (RdP 103 gr w0 M0 Fz w H X changeR changeP bad l) := by
 refine ret_of_wk func110 rfl ntmps110 leB_ ?_
 refine so ?_
 refine Ce (rChange_ok (X := X) (pX := pX) hp hS hl) ?_
 rintro _ w1 ⟨F1, A1, c1, l1, b1, cs1, x1, hp, hF1, hl1, hrd1, hst1⟩
 obtain ⟨hI1, A1_0, c1_0, A1_1, c1_1, A1_2, c1_2, rfl, hr1_0, hr1_1, hr1_2⟩ := hrd1
 replace hp:=(hp.ay (itB gr 103 ([.slice A1 l1.length c1, .bool b1]) :: X ([iv x1.node, iv x1.view, iv x1.low, .slice A1_0 x1.marks.length c1_0, .slice A1_1 x1.p.length c1_1, .slice A1_2 x1.q.length c1_2]) :: H))
 refine so ?_
 refine wk_post0 (.inr rfl) results110  ?_
 exact ⟨_, rfl, _, A1, c1, l1, b1, _, x1, ((hp.up 1 rfl).up 1 rfl), mv, hl1, ⟨hI1, _, _, _, _, _, _, rfl, hr1_0, hr1_1, hr1_2⟩, hst1⟩
theorem chapL_getD {i : Nat} (h : i < 16) : (chapL 16).getD i note0 = chapN ((i : Int) + 1) := by
 rw [List.getD_eq_getElem?_getD, chapL_get h]; rfl
end Go.Proofs.YtkdoomglflikkaaGreat
