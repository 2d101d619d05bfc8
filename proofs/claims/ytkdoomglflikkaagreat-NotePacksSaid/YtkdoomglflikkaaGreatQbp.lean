/- What each of these functions computes, for every argument that its theorem names; a part of what the proof of NotePacks stands on. -/
import Derived.Test.YtkdoomglflikkaaGreatQac
import Derived.Test.YtkdoomglflikkaaGreatQad
import Derived.Test.YtkdoomglflikkaaGreatQae
import Derived.Test.YtkdoomglflikkaaGreatQag
import Derived.Test.YtkdoomglflikkaaGreatQah
import Derived.Test.YtkdoomglflikkaaGreatQak
import Derived.Test.YtkdoomglflikkaaGreatQan
import Derived.Test.YtkdoomglflikkaaGreatQao
import Derived.Test.YtkdoomglflikkaaGreatQat
import Derived.Test.YtkdoomglflikkaaGreatQax
import Derived.Test.YtkdoomglflikkaaGreatQaz
import Derived.Test.YtkdoomglflikkaaGreatQbe
import Derived.Test.YtkdoomglflikkaaGreatQbg
import Derived.Test.YtkdoomglflikkaaGreatQbl
import Derived.Test.YtkdoomglflikkaaGreatQbn
import Derived.Test.YtkdoomglflikkaaGreatQbo
namespace Go.Proofs.YtkdoomglflikkaaGreat
open Go.RowKit Go.Eng Go.Eng _root_.Go.Proofs.Tryz
set_option maxRecDepth 100000
variable {w0 w : World} {M0 Fz : Nat → Prop} {H : List It} {A : Option Addr} {c : Nat}
set_option maxHeartbeats 40000000 in
theorem nUnpack_ok {l : List UInt8} (hp : HP w0 M0 Fz w H) (hl : GS byteR Fz w A c l) : Ret prog 21 #[.slice A l.length c] w (fun v w2 => ∃ F2 cs x e, v = .tuple #[.agg cs.toArray, .int .i64 e] ∧ HP w0 M0 F2 w2 H ∧ Frz Fz F2 w w2 ∧ noteR.rd F2 w2 cs x ∧ (x, e) = unpackS l) := by
 refine ret_of_wk func21 rfl ntmps21 leB_ ?_
 refine so ?_
 refine Alo hp (h := fun gs2 w1 hp hE1 => so ?_)
 refine Ce (nRead_ok hp hl.to) ?_
 rintro _ w2 ⟨F2, cs2, x2, e2, rfl, hp, hF2, hrd2, hpr2⟩
 have qhrd2:=hrd2
 obtain ⟨hI2, A2_0, c2_0, A2_1, c2_1, A2_2, c2_2, A2_3, c2_3, A2_4, c2_4, A2_5, c2_5, A2_6, c2_6, A2_7, c2_7, A2_8, c2_8, A2_9, c2_9, A2_10, c2_10, rfl, hr2_0, hr2_1, hr2_2, hr2_3, hr2_4, hr2_5, hr2_6, hr2_7, hr2_8, hr2_9, hr2_10⟩ := hrd2
 refine so ?_
 refine Alo hp (h := fun gs4 w3 hp hE3 => ?_)
 refine Hs 0 hp (h := fun w4 hp hC4 => so ?_)
 refine Gs 13 ?_ ?_<;>intro hg1<;>refine so ?_
 refine aT (so ?_)
 refine wl_builtS (ps := []) (by decide) bld38 rfl rfl ?_
 refine Hs 1 hp (h := fun w5 hp hC5 => so ?_)
 refine wk_postR (rs := [.cell 2 38, .tmp 3]) (.inl rfl) results21 ⟨_, _, _, rfl, rfl, loadVar_agg ag38 (hp.blkAt (i := 1) rfl).at0 rfl, ⟨_, _, rfl, rfl, rfl⟩⟩ ?_
 exact ⟨_, rfl, _, _, note0, _, rfl, hp.tail.tail, mv, ⟨⟨i0, i0, i0, i0, i0, i0, i0, i0, i0, i0, i0, i0, i0, i0, i0⟩, _, _, _, _, _, _, _, _, _, _, _, _, _, _, _, _, _, _, _, _, _, _, rfl, gsn, gsn, gsn, gsn, gsn, gsn, gsn, gsn, gsn, gsn, gsn⟩, by
   cases e2 with
   | false => first | exact (unpack_bad hpr2).symm | (exfalso; simp at hg1)
   | true =>
     have h1 := hpr2.1 rfl
     first
     | (exfalso; simp at hg1; done)
     | (unfold unpackS; rw [h1]; exact (if_neg (fun hh => absurd hh.2 (by simpa using hc2))).symm)
     | (unfold unpackS; rw [h1]; exact (if_pos ⟨rfl, by simpa using hc2⟩).symm)⟩
 refine Cx hp (nMay_ok (rdTo qhrd2) (by exact Nat.le_trans (Nat.mul_le_mul_right _ (changes_few (hpr2.1 (by simpa using hg1)))) (by decide))) fun w6 hp hE6 => so ?_
 refine Cd ?_ ?_<;>intro hc2<;>refine so ?_
 refine wl_builtS (ps := []) (by decide) bld38 rfl rfl ?_
 refine Hs 1 hp (h := fun w7 hp hC7 => so ?_)
 refine wk_postR (rs := [.cell 2 38, .tmp 3]) (.inl rfl) results21 ⟨_, _, _, rfl, rfl, loadVar_agg ag38 (hp.blkAt (i := 1) rfl).at0 rfl, ⟨_, _, rfl, rfl, rfl⟩⟩ ?_
 exact ⟨_, rfl, _, _, note0, _, rfl, hp.tail.tail, mv, ⟨⟨i0, i0, i0, i0, i0, i0, i0, i0, i0, i0, i0, i0, i0, i0, i0⟩, _, _, _, _, _, _, _, _, _, _, _, _, _, _, _, _, _, _, _, _, _, _, rfl, gsn, gsn, gsn, gsn, gsn, gsn, gsn, gsn, gsn, gsn, gsn⟩, by
   cases e2 with
   | false => first | exact (unpack_bad hpr2).symm | (exfalso; simp at hg1)
   | true =>
     have h1 := hpr2.1 rfl
     first
     | (exfalso; simp at hg1; done)
     | (unfold unpackS; rw [h1]; exact (if_neg (fun hh => absurd hh.2 (by simpa using hc2))).symm)
     | (unfold unpackS; rw [h1]; exact (if_pos ⟨rfl, by simpa using hc2⟩).symm)⟩
 refine Hs 1 hp (h := fun w8 hp hC8 => so ?_)
 refine wk_postR (rs := [.cell 2 38, .tmp 3]) (.inl rfl) results21 ⟨_, _, _, rfl, rfl, loadVar_agg ag38 (hp.blkAt (i := 1) rfl).at0 rfl, ⟨_, _, rfl, rfl, rfl⟩⟩ ?_
 exact ⟨_, rfl, _, _, x2, _, rfl, hp.tail.tail, mv, (rdTo qhrd2), by
   cases e2 with
   | false => first | exact (unpack_bad hpr2).symm | (exfalso; simp at hg1)
   | true =>
     have h1 := hpr2.1 rfl
     first
     | (exfalso; simp at hg1; done)
     | (unfold unpackS; rw [h1]; exact (if_neg (fun hh => absurd hh.2 (by simpa using hc2))).symm)
     | (unfold unpackS; rw [h1]; exact (if_pos ⟨rfl, by simpa using hc2⟩).symm)⟩
set_option maxHeartbeats 40000000 in
theorem nPack_ok {csx : List Value} {x : Nte} {Sx : Nat → Prop} (hx : noteR.rd Sx w csx x) (hch : x.changes.length * 96 ≤ 140737488355328) : Ret prog 14 #[.agg csx.toArray] w (fun v w' => ∃ A c, v = .tuple #[.slice A (packS x).1.length c, .int .i64 (packS x).2] ∧ OwnB 5 w.heap.size w' A c (packS x).1 ∧ Ext w w') := by
 have qhx:=hx
 obtain ⟨hIx, Ax0, cx0, Ax1, cx1, Ax2, cx2, Ax3, cx3, Ax4, cx4, Ax5, cx5, Ax6, cx6, Ax7, cx7, Ax8, cx8, Ax9, cx9, Ax10, cx10, rfl, hx0, hx1, hx2, hx3, hx4, hx5, hx6, hx7, hx8, hx9, hx10⟩ := hx
 refine ret_of_wk func14 rfl ntmps14 leB_ ?_
 have hp:=HP.begin_ w
 refine so ?_
 refine Bx hp (h := fun gs1 w1 hp hE1 => so ?_)
 refine Cx hp (nMay_ok (rdTn qhx) (by omega)) fun w2 hp hE2 => so ?_
 refine Cd ?_ ?_<;>intro hm
 refine so ?_
 refine P2 results14 ?_
 rw [show packS x = ([], 2) from if_neg (fun h => hm h.1)]
 exact ⟨_, rfl, _, _, rfl, OwnRow.nil _ _ _ _ _, hp.chg⟩
 replace hm:=Decidable.not_not.1 hm
 refine so ?_
 refine Ce (nWrite_ok (x := x) (rdTn qhx) (may_fine hm).1 (Nat.le_trans (may_fine hm).2 (by decide))) ?_
 rintro _ w3 ⟨A3, c3, rfl, ho3, hE3⟩
 replace hp:=((hp.ownRow hE3 ho3).as_ (H' := itR 5 1 A3 (noteE x).length c3 ((noteE x).map bv) :: _) rfl)
 have hrow:=hp.rowLo (i := 0) rfl
 obtain ⟨F8, hp8, hs8, hb8⟩ := hp.frzRow
 have hgs : GS byteR F8 _ A3 c3 (noteE x) := OwnRow.gsF hrow hb8
 replace hp:=hp8
 have hF8:=Frz.start F8 w3
 refine so ?_
 refine Ce (nRead_ok hp hgs) ?_
 rintro _ w4 ⟨F4, cs4, x4, e4, rfl, hp, hF4, hrd4, hpr4⟩
 have qhrd4:=hrd4
 obtain ⟨hI4, A4_0, c4_0, A4_1, c4_1, A4_2, c4_2, A4_3, c4_3, A4_4, c4_4, A4_5, c4_5, A4_6, c4_6, A4_7, c4_7, A4_8, c4_8, A4_9, c4_9, A4_10, c4_10, rfl, hr4_0, hr4_1, hr4_2, hr4_3, hr4_4, hr4_5, hr4_6, hr4_7, hr4_8, hr4_9, hr4_10⟩ := hrd4
 replace hF8:=hF8.fr hF4
 refine so ?_
 refine Alo hp (h := fun gs5 w5 hp hE5 => ?_)
 replace hF8:=hF8.ext hE5
 refine Hs 0 hp (h := fun w6 hp hC6 => ?_)
 replace hF8:=hF8.fz hC6
 refine so ?_
 refine Gs 19 ?_ ?_<;>intro hgo<;>refine so ?_
 refine aT (so ?_)
 refine P2 results14 ?_
 rw [pack_no hm hpr4 (fun h => by obtain ⟨h1, h2⟩ := h; simp [h1, h2] at hm hgo)]
 exact ⟨_, rfl, _, _, rfl, OwnRow.nil _ _ _ _ _, hp.chg⟩
 refine Cy (nSame_ok (rdTn qhx) (rdTo qhrd4)) fun w7 hE7 => ?_
 replace hF8:=hF8.ext hE7
 replace hp:=hp.ext hE7
 refine so ?_
 refine Cd ?_ ?_<;>intro hce<;>refine so ?_
 refine P2 results14 ?_
 rw [pack_no hm hpr4 (fun h => by obtain ⟨h1, h2⟩ := h; simp [h1, h2] at hm hgo hce)]
 exact ⟨_, rfl, _, _, rfl, OwnRow.nil _ _ _ _ _, hp.chg⟩
 refine P2 results14 ?_
 rw [pack_ok hm hpr4 (by simpa using hgo) (by simpa using hce)]
 exact ⟨_, rfl, _, _, rfl, OwnRow.frz hrow hb8 hF8.chg, hp.chg⟩
theorem kN_pa {out : List UInt8} {n : Int} (hp : HP w0 M0 Fz w (itR 5 1 A out.length c (out.map bv) :: H)) (hn : isNum n := by first | assumption | (unfold isNum; omega)) (hl : out.length + (numE n).length ≤ 1000000 := by (try simp only [List.length_append, List.length_nil]); omega) : Ret prog 42 #[.slice A out.length c, .int .i64 n] w (RwP 5 w0 M0 Fz w H (out ++ numE n)) := qNum_ok hp hn hl
theorem rm_pa {p : Prop} (h : p := by (try simp only [List.length_append, List.length_nil]); omega) : p := h
theorem en_pa {x : Nte} {out : List UInt8} {w2 : World} (hsn : packS x = (noteE x, 0)) (hp : HP w (fun _ => False) Fz w2 (itR 5 1 A out.length c (out.map bv) :: H)) (e : noteE x = out := by
   first
   | (unfold noteE bodyE
      repeat (first | rw [if_neg (by omega)] | rw [if_pos (by omega)])
      simp only [ansE, digE, List.append_assoc, List.append_nil, List.nil_append]; done)
   | (unfold noteE; rw [piece_body (by omega)]; simp only [List.append_assoc, List.append_nil, List.nil_append]; done)
   | (unfold noteE; rw [lists_body (by omega)]; simp only [List.append_assoc, List.append_nil, List.nil_append]; done)) : ∃ v, Ending.returned (.tuple #[.slice A out.length c, .int .i64 0]) = .returned v ∧ ∃ A' c', v = .tuple #[.slice A' (packS x).1.length c', .int .i64 (packS x).2] ∧ OwnB 5 w.heap.size w2 A' c' (packS x).1 ∧ Ext w w2 := by
  rw [hsn, e]
  exact ⟨_, rfl, _, _, rfl, hp.rowLo (i := 0) rfl, hp.chg⟩
set_option maxHeartbeats 8000000 in
theorem rPack_ok {csx : List Value} {x : Nte} {Sx : Nat → Prop} (hx : noteR.rd Sx w csx x) (_hch : x.changes.length * 96 ≤ 140737488355328) : Ret prog 15 #[.agg csx.toArray] w (fun v w' => ∃ A' c', v = .tuple #[.slice A' (packS x).1.length c', .int .i64 (packS x).2] ∧ OwnB 5 w.heap.size w' A' c' (packS x).1 ∧ Ext w w') := by
 replace hx : noteR.rd (fun b => b < w.heap.size) w csx x := noteR.mono (fun b hb _ => hb) hx
 have hx' := hx
 obtain ⟨hIx, Ax0, cx0, Ax1, cx1, Ax2, cx2, Ax3, cx3, Ax4, cx4, Ax5, cx5, Ax6, cx6, Ax7, cx7, Ax8, cx8, Ax9, cx9, Ax10, cx10, rfl, hx0, hx1, hx2, hx3, hx4, hx5, hx6, hx7, hx8, hx9, hx10⟩ := hx'
 have hJx := hIx
 unfold NteI i64 at hJx
 refine ret_of_wk func15 rfl ntmps15 leB_ ?_
 have hp := HP.begin_ w
 refine so ?_
 refine Bx hp (h := fun gs1 w1 hp E1 => so ?_)
 refine Cx hp (rCheck_ok (rdTo hx)) fun w2 hp hE2 => so ?_
 refine Cd ?_ ?_ <;> intro hce
 · have hnp : ¬ PackMay x := fun h => hce (if_pos h)
   have hsn : packS x = ([], 2) := if_neg hnp
   refine so ?_
   refine P2 results15 ?_
   rw [hsn]
   exact ⟨_, rfl, _, _, rfl, OwnRow.nil _ _ _ _ _, hp.chg⟩
 have hpm : PackMay x := Decidable.byContradiction fun h => hce (by rw [if_neg (show ¬ (MayN x ∧ ownN x = x) from h)]; decide)
 have hsn : packS x = (noteE x, 0) := if_pos hpm
 obtain ⟨⟨j1, j2, j3, j4, hbd⟩, hlen⟩ := may_fine hpm.1
 have hln := hlen
 simp only [noteE, List.length_append] at hln
 have hkd : 1 ≤ x.kind ∧ x.kind ≤ 16 := ⟨hpm.1.1, hpm.1.2.1⟩
 refine so ?_
 replace hp := (hp.noRow 5 1).as_ (H' := itR 5 1 none (([] : List UInt8)).length 0 ((([] : List UInt8)).map bv) :: _) rfl
 refine Cr (kN_pa (n := x.kind) hp) fun A1 c1 w2 hp F3 => so ?_
 refine Cr (kN_pa (n := x.from_) hp) fun A1 c1 w2 hp F3 => so ?_
 refine Cr (kN_pa (n := x.group) hp) fun A1 c1 w2 hp F3 => so ?_
 refine Cr (kN_pa (n := x.epoch) hp) fun A1 c1 w2 hp F3 => so ?_
 refine Cd ?_ ?_ <;> intro hc2
 · refine so ?_
   refine Cd ?_ ?_ <;> intro hc3
   · refine so ?_
     have hbk := hbd; unfold bodyOk at hbk; repeat (first | rw [if_neg (by omega)] at hbk | rw [if_pos (by omega)] at hbk)
     have hbl := hln; unfold bodyE at hbl; repeat (first | rw [if_neg (by omega)] at hbl | rw [if_pos (by omega)] at hbl)
     (try simp only [ansE, digE, List.length_append] at hbl)
     refine Cr (qBatch_ok hp hx0.tn (by assumption) rm_pa) fun A1 c1 w2 hp F3 => so ?_
     refine P2 results15 ?_
     exact en_pa hsn hp
   exact absurd hc2 hc3
 refine so ?_
 refine Cd ?_ ?_ <;> intro hc4
 · refine so ?_
   have hbk := hbd; unfold bodyOk at hbk; repeat (first | rw [if_neg (by omega)] at hbk | rw [if_pos (by omega)] at hbk)
   have hbl := hln; unfold bodyE at hbl; repeat (first | rw [if_neg (by omega)] at hbl | rw [if_pos (by omega)] at hbl)
   (try simp only [ansE, digE, List.length_append] at hbl)
   refine Cr (qBatch_ok hp hx0.tn (by assumption) rm_pa) fun A1 c1 w2 hp F3 => so ?_
   refine P2 results15 ?_
   exact en_pa hsn hp
 refine so ?_
 refine Cd ?_ ?_ <;> intro hc5
 · refine so ?_
   have hbk := hbd; unfold bodyOk at hbk; repeat (first | rw [if_neg (by omega)] at hbk | rw [if_pos (by omega)] at hbk)
   have hbl := hln; unfold bodyE at hbl; repeat (first | rw [if_neg (by omega)] at hbl | rw [if_pos (by omega)] at hbl)
   (try simp only [ansE, List.length_append] at hbl)
   obtain ⟨k1, k2, k3, k4, k5, k6, k7⟩ := hbk
   have k8 := len_is k6 (by decide)
   refine Cr (kN_pa (n := x.node) hp) fun A1 c1 w2 hp F3 => so ?_
   refine Cr (kN_pa (n := x.stamp) hp) fun A1 c1 w2 hp F3 => so ?_
   refine Cr (kN_pa (n := x.ans.err) hp) fun A1 c1 w2 hp F3 => so ?_
   refine Cr (qStr_ok hp hx1.tn (by omega) rm_pa) fun A1 c1 w2 hp F3 => so ?_
   refine Cr (kN_pa (n := x.ans.epoch) hp) fun A1 c1 w2 hp F3 => so ?_
   refine Cr (qInts_ok hp hx2.tn (by assumption) (by assumption) rm_pa) fun A1 c1 w2 hp F3 => so ?_
   refine P2 results15 ?_
   exact en_pa hsn hp
 refine so ?_
 refine Cd ?_ ?_ <;> intro hc6
 · refine so ?_
   have hbk := hbd; unfold bodyOk at hbk; repeat (first | rw [if_neg (by omega)] at hbk | rw [if_pos (by omega)] at hbk)
   have hbl := hln; unfold bodyE at hbl; repeat (first | rw [if_neg (by omega)] at hbl | rw [if_pos (by omega)] at hbl)
   (try simp only [List.length_append] at hbl)
   obtain ⟨k1, k2, k3⟩ := hbk
   refine Cr (kN_pa (n := x.view) hp) fun A1 c1 w2 hp F3 => so ?_
   refine Cr (kN_pa (n := x.seq) hp) fun A1 c1 w2 hp F3 => so ?_
   refine Cr (qBatch_ok hp hx0.tn (by assumption) rm_pa) fun A1 c1 w2 hp F3 => so ?_
   refine P2 results15 ?_
   exact en_pa hsn hp
 refine so ?_
 refine Cd ?_ ?_ <;> intro hc7
 · refine so ?_
   refine Cd ?_ ?_ <;> intro hc8
   · refine so ?_
     have hbk := hbd; unfold bodyOk at hbk; repeat (first | rw [if_neg (by omega)] at hbk | rw [if_pos (by omega)] at hbk)
     have hbl := hln; unfold bodyE at hbl; repeat (first | rw [if_neg (by omega)] at hbl | rw [if_pos (by omega)] at hbl)
     (try simp only [digE, List.length_append] at hbl)
     obtain ⟨k1, k2, _⟩ := hbk
     refine Cr (kN_pa (n := x.view) hp) fun A1 c1 w2 hp F3 => so ?_
     refine Cr (kN_pa (n := x.seq) hp) fun A1 c1 w2 hp F3 => so ?_
     refine wl_sliceA (by decide) ar23 rfl ?_
     have hb := hp.blkAt (i := 1) rfl
     refine Ar (l2 := x.dig.l) (S := fun _ => True) hp (((hb.at_ 6).take 32).bs rfl trivial hb.lt) rm_pa (fun A5 c5 w5 hp C5 => so ?_) (hm := by rw [Dig.h])
     refine P2 results15 ?_
     exact en_pa hsn hp
   exact absurd hc7 hc8
 refine so ?_
 refine Cd ?_ ?_ <;> intro hc9
 · refine so ?_
   have hbk := hbd; unfold bodyOk at hbk; repeat (first | rw [if_neg (by omega)] at hbk | rw [if_pos (by omega)] at hbk)
   have hbl := hln; unfold bodyE at hbl; repeat (first | rw [if_neg (by omega)] at hbl | rw [if_pos (by omega)] at hbl)
   (try simp only [digE, List.length_append] at hbl)
   obtain ⟨k1, k2, _⟩ := hbk
   refine Cr (kN_pa (n := x.view) hp) fun A1 c1 w2 hp F3 => so ?_
   refine Cr (kN_pa (n := x.seq) hp) fun A1 c1 w2 hp F3 => so ?_
   refine wl_sliceA (by decide) ar23 rfl ?_
   have hb := hp.blkAt (i := 1) rfl
   refine Ar (l2 := x.dig.l) (S := fun _ => True) hp (((hb.at_ 6).take 32).bs rfl trivial hb.lt) rm_pa (fun A5 c5 w5 hp C5 => so ?_) (hm := by rw [Dig.h])
   refine P2 results15 ?_
   exact en_pa hsn hp
 refine so ?_
 refine Cd ?_ ?_ <;> intro hc10
 · refine so ?_
   refine Cd ?_ ?_ <;> intro hc11
   · refine so ?_
     have hbk := hbd; unfold bodyOk at hbk; repeat (first | rw [if_neg (by omega)] at hbk | rw [if_pos (by omega)] at hbk)
     have hbl := hln; unfold bodyE at hbl; repeat (first | rw [if_neg (by omega)] at hbl | rw [if_pos (by omega)] at hbl)
     (try simp only [digE, List.length_append] at hbl)
     obtain ⟨k1, _⟩ := hbk
     refine Cr (kN_pa (n := x.seq) hp) fun A1 c1 w2 hp F3 => so ?_
     refine wl_sliceA (by decide) ar23 rfl ?_
     have hb := hp.blkAt (i := 1) rfl
     refine Ar (l2 := x.dig.l) (S := fun _ => True) hp (((hb.at_ 6).take 32).bs rfl trivial hb.lt) rm_pa (fun A5 c5 w5 hp C5 => so ?_) (hm := by rw [Dig.h])
     refine P2 results15 ?_
     exact en_pa hsn hp
   exact absurd hc10 hc11
 refine so ?_
 refine Cd ?_ ?_ <;> intro hc12
 · refine so ?_
   have hbk := hbd; unfold bodyOk at hbk; repeat (first | rw [if_neg (by omega)] at hbk | rw [if_pos (by omega)] at hbk)
   have hbl := hln; unfold bodyE at hbl; repeat (first | rw [if_neg (by omega)] at hbl | rw [if_pos (by omega)] at hbl)
   (try simp only [digE, List.length_append] at hbl)
   obtain ⟨k1, _⟩ := hbk
   refine Cr (kN_pa (n := x.seq) hp) fun A1 c1 w2 hp F3 => so ?_
   refine wl_sliceA (by decide) ar23 rfl ?_
   have hb := hp.blkAt (i := 1) rfl
   refine Ar (l2 := x.dig.l) (S := fun _ => True) hp (((hb.at_ 6).take 32).bs rfl trivial hb.lt) rm_pa (fun A5 c5 w5 hp C5 => so ?_) (hm := by rw [Dig.h])
   refine P2 results15 ?_
   exact en_pa hsn hp
 refine so ?_
 refine Cd ?_ ?_ <;> intro hc13
 · refine so ?_
   have hbk := hbd; unfold bodyOk at hbk; repeat (first | rw [if_neg (by omega)] at hbk | rw [if_pos (by omega)] at hbk)
   have hbl := hln; unfold bodyE at hbl; repeat (first | rw [if_neg (by omega)] at hbl | rw [if_pos (by omega)] at hbl)
   (try simp only [ansE, digE, List.length_append] at hbl)
   refine Cr (qChange_ok hp ⟨(show ChnI x.change by unfold ChnI i64; omega), _, _, _, _, _, _, rfl, hx3.tn, hx4.tn, hx5.tn⟩ (by assumption) rm_pa) fun A1 c1 w2 hp F3 => so ?_
   refine P2 results15 ?_
   exact en_pa hsn hp
 refine so ?_
 refine Cd ?_ ?_ <;> intro hc14
 · refine so ?_
   have hbk := hbd; unfold bodyOk at hbk; repeat (first | rw [if_neg (by omega)] at hbk | rw [if_pos (by omega)] at hbk)
   have hbl := hln; unfold bodyE at hbl; repeat (first | rw [if_neg (by omega)] at hbl | rw [if_pos (by omega)] at hbl)
   (try simp only [digE, List.length_append] at hbl)
   obtain ⟨k1, k2, _⟩ := hbk
   refine Cr (kN_pa (n := x.view) hp) fun A1 c1 w2 hp F3 => so ?_
   refine Cr (kN_pa (n := x.node) hp) fun A1 c1 w2 hp F3 => so ?_
   refine wl_sliceA (by decide) ar23 rfl ?_
   have hb := hp.blkAt (i := 1) rfl
   refine Ar (l2 := x.dig.l) (S := fun _ => True) hp (((hb.at_ 6).take 32).bs rfl trivial hb.lt) rm_pa (fun A5 c5 w5 hp C5 => so ?_) (hm := by rw [Dig.h])
   refine P2 results15 ?_
   exact en_pa hsn hp
 refine so ?_
 refine Cd ?_ ?_ <;> intro hc15
 · refine so ?_
   have hbk := hbd; unfold bodyOk at hbk; repeat (first | rw [if_neg (by omega)] at hbk | rw [if_pos (by omega)] at hbk)
   have hbl := hln; rw [lists_body (by omega)] at hbl
   (try simp only [List.length_append] at hbl)
   obtain ⟨k1, ⟨k2, k3⟩, k4, k5⟩ := hbk
   have k6 := len_is k2 (by decide)
   have k7 := len_is k4 (by decide)
   refine Cr (kN_pa (n := x.view) hp) fun A1 c1 w2 hp F3 => so ?_
   refine Cr (qLists_ok hp (rdTo hx) (by assumption) (by assumption) (by assumption) (by assumption) rm_pa) fun A1 c1 w2 hp F3 => so ?_
   refine P2 results15 ?_
   exact en_pa hsn hp
 refine so ?_
 refine Cd ?_ ?_ <;> intro hc16
 · refine so ?_
   refine Cd ?_ ?_ <;> intro hc17
   · refine so ?_
     have hbk := piece_is (by omega) hbd
     have hbl := hln; rw [piece_body (by omega)] at hbl
     refine Cr (qPiece_ok hp (rdTo hx) (by assumption) rm_pa) fun A1 c1 w2 hp F3 => so ?_
     refine P2 results15 ?_
     exact en_pa hsn hp
   exact absurd hc16 hc17
 refine so ?_
 refine Cd ?_ ?_ <;> intro hc18
 · refine so ?_
   have hbk := piece_is (by omega) hbd
   have hbl := hln; rw [piece_body (by omega)] at hbl
   refine Cr (qPiece_ok hp (rdTo hx) (by assumption) rm_pa) fun A1 c1 w2 hp F3 => so ?_
   refine P2 results15 ?_
   exact en_pa hsn hp
 refine so ?_
 refine Cd ?_ ?_ <;> intro hc19
 · refine so ?_
   have hbk := hbd; unfold bodyOk at hbk; repeat (first | rw [if_neg (by omega)] at hbk | rw [if_pos (by omega)] at hbk)
   have hbl := hln; unfold bodyE at hbl; repeat (first | rw [if_neg (by omega)] at hbl | rw [if_pos (by omega)] at hbl)
   (try simp only [ansE, digE, List.length_append] at hbl)
   obtain ⟨k1, k2⟩ := hbk
   have k8 := len_is k1 (by decide)
   refine Cr (qInts_ok hp hx10.tn (by assumption) (by assumption) rm_pa) fun A1 c1 w2 hp F3 => so ?_
   refine P2 results15 ?_
   exact en_pa hsn hp
 refine so ?_
 refine Cd ?_ ?_ <;> intro hc20
 · refine so ?_
   have hbk := hbd; unfold bodyOk at hbk; repeat (first | rw [if_neg (by omega)] at hbk | rw [if_pos (by omega)] at hbk)
   have hbl := hln; unfold bodyE at hbl; repeat (first | rw [if_neg (by omega)] at hbl | rw [if_pos (by omega)] at hbl)
   (try simp only [ansE, digE, List.length_append] at hbl)
   refine Cr (qBatch_ok hp hx0.tn (by assumption) rm_pa) fun A1 c1 w2 hp F3 => so ?_
   refine P2 results15 ?_
   exact en_pa hsn hp
 refine so ?_
 have hbk := hbd; unfold bodyOk at hbk; repeat (first | rw [if_neg (by omega)] at hbk | rw [if_pos (by omega)] at hbk)
 have hbl := hln; unfold bodyE at hbl; repeat (first | rw [if_neg (by omega)] at hbl | rw [if_pos (by omega)] at hbl)
 (try simp only [List.length_append] at hbl)
 obtain ⟨k1, k2⟩ := hbk
 refine Cr (kN_pa (n := x.seq) hp) fun A1 c1 w2 hp F3 => so ?_
 refine Cr (qBatch_ok hp hx0.tn (by assumption) rm_pa) fun A1 c1 w2 hp F3 => so ?_
 refine P2 results15 ?_
 exact en_pa hsn hp
end Go.Proofs.YtkdoomglflikkaaGreat
