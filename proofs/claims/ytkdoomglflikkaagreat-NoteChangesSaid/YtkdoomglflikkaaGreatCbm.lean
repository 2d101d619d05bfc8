/- What each of these functions computes, for every argument that its theorem names; a part of what the proof of NoteChecks stands on. -/
import Derived.Test.YtkdoomglflikkaaGreatCac
import Derived.Test.YtkdoomglflikkaaGreatCad
import Derived.Test.YtkdoomglflikkaaGreatCae
import Derived.Test.YtkdoomglflikkaaGreatCag
import Derived.Test.YtkdoomglflikkaaGreatCah
import Derived.Test.YtkdoomglflikkaaGreatCak
import Derived.Test.YtkdoomglflikkaaGreatCan
import Derived.Test.YtkdoomglflikkaaGreatCao
import Derived.Test.YtkdoomglflikkaaGreatCbj
import Derived.Test.YtkdoomglflikkaaGreatCbl
namespace Go.Proofs.YtkdoomglflikkaaGreat
open Go.RowKit Go.Eng Go.Eng _root_.Go.Proofs.Tryz
set_option maxRecDepth 100000
variable {w0 w : World} {M0 Fz : Nat → Prop} {H : List It} {A : Option Addr} {c : Nat}
set_option maxHeartbeats 40000000 in
theorem nUnpack_ok {l : List UInt8} (hp : HP w0 M0 Fz w H) (hl : GS byteR Fz w A c l) : Ret prog 21 #[.slice A l.length c] w (fun v w2 => ∃ F2 cs x e, v = .tuple #[.agg cs.toArray, .int .i64 e] ∧ HP w0 M0 F2 w2 H ∧ Frz Fz F2 w w2 ∧ noteR.rd F2 w2 cs x ∧ (x, e) = unpackS l) := by
 refine ret_of_wk func21 rfl ntmps21 leB_ ?_
 refine so ?_
 refine Alo hp (h := fun gs2 w1 hp hE1 => so ?_)
 refine Ce (nRead_ok hp hl.to) ?_
 rintro _ w2 ⟨F2, cs2, x2, e2, rfl, hp, hF2, hrd2, hpr2⟩
 have qhrd2:=hrd2
 obtain ⟨hI2, A2_0, c2_0, A2_1, c2_1, A2_2, c2_2, A2_3, c2_3, A2_4, c2_4, A2_5, c2_5, A2_6, c2_6, A2_7, c2_7, A2_8, c2_8, A2_9, c2_9, A2_10, c2_10, rfl, hr2_0, hr2_1, hr2_2, hr2_3, hr2_4, hr2_5, hr2_6, hr2_7, hr2_8, hr2_9, hr2_10⟩ := hrd2
 refine so ?_
 refine Alo hp (h := fun gs4 w3 hp hE3 => ?_)
 refine Hs 0 hp (h := fun w4 hp hC4 => so ?_)
 refine Gs 13 ?_ ?_<;>intro hg1<;>refine so ?_
 refine aT (so ?_)
 refine wl_builtS (ps := []) (by decide) bld38 rfl rfl ?_
 refine Hs 1 hp (h := fun w5 hp hC5 => so ?_)
 refine wk_postR (rs := [.cell 2 38, .tmp 3]) (.inl rfl) results21 ⟨_, _, _, rfl, rfl, loadVar_agg ag38 (hp.blkAt (i := 1) rfl).at0 rfl, ⟨_, _, rfl, rfl, rfl⟩⟩ ?_
 exact ⟨_, rfl, _, _, note0, _, rfl, hp.tail.tail, mv, ⟨⟨i0, i0, i0, i0, i0, i0, i0, i0, i0, i0, i0, i0, i0, i0, i0⟩, _, _, _, _, _, _, _, _, _, _, _, _, _, _, _, _, _, _, _, _, _, _, rfl, gsn, gsn, gsn, gsn, gsn, gsn, gsn, gsn, gsn, gsn, gsn⟩, by
   cases e2 with
   | false => first | exact (unpack_bad hpr2).symm | (exfalso; simp at hg1)
   | true =>
     have h1 := hpr2.1 rfl
     first
     | (exfalso; simp at hg1; done)
     | (unfold unpackS; rw [h1]; exact (if_neg (fun hh => absurd hh.2 (by simpa using hc2))).symm)
     | (unfold unpackS; rw [h1]; exact (if_pos ⟨rfl, by simpa using hc2⟩).symm)⟩
 refine Cx hp (nMay_ok (rdTo qhrd2) (by exact Nat.le_trans (Nat.mul_le_mul_right _ (changes_few (hpr2.1 (by simpa using hg1)))) (by decide))) fun w6 hp hE6 => so ?_
 refine Cd ?_ ?_<;>intro hc2<;>refine so ?_
 refine wl_builtS (ps := []) (by decide) bld38 rfl rfl ?_
 refine Hs 1 hp (h := fun w7 hp hC7 => so ?_)
 refine wk_postR (rs := [.cell 2 38, .tmp 3]) (.inl rfl) results21 ⟨_, _, _, rfl, rfl, loadVar_agg ag38 (hp.blkAt (i := 1) rfl).at0 rfl, ⟨_, _, rfl, rfl, rfl⟩⟩ ?_
 exact ⟨_, rfl, _, _, note0, _, rfl, hp.tail.tail, mv, ⟨⟨i0, i0, i0, i0, i0, i0, i0, i0, i0, i0, i0, i0, i0, i0, i0⟩, _, _, _, _, _, _, _, _, _, _, _, _, _, _, _, _, _, _, _, _, _, _, rfl, gsn, gsn, gsn, gsn, gsn, gsn, gsn, gsn, gsn, gsn, gsn⟩, by
   cases e2 with
   | false => first | exact (unpack_bad hpr2).symm | (exfalso; simp at hg1)
   | true =>
     have h1 := hpr2.1 rfl
     first
     | (exfalso; simp at hg1; done)
     | (unfold unpackS; rw [h1]; exact (if_neg (fun hh => absurd hh.2 (by simpa using hc2))).symm)
     | (unfold unpackS; rw [h1]; exact (if_pos ⟨rfl, by simpa using hc2⟩).symm)⟩
 refine Hs 1 hp (h := fun w8 hp hC8 => so ?_)
 refine wk_postR (rs := [.cell 2 38, .tmp 3]) (.inl rfl) results21 ⟨_, _, _, rfl, rfl, loadVar_agg ag38 (hp.blkAt (i := 1) rfl).at0 rfl, ⟨_, _, rfl, rfl, rfl⟩⟩ ?_
 exact ⟨_, rfl, _, _, x2, _, rfl, hp.tail.tail, mv, (rdTo qhrd2), by
   cases e2 with
   | false => first | exact (unpack_bad hpr2).symm | (exfalso; simp at hg1)
   | true =>
     have h1 := hpr2.1 rfl
     first
     | (exfalso; simp at hg1; done)
     | (unfold unpackS; rw [h1]; exact (if_neg (fun hh => absurd hh.2 (by simpa using hc2))).symm)
     | (unfold unpackS; rw [h1]; exact (if_pos ⟨rfl, by simpa using hc2⟩).symm)⟩
set_option maxHeartbeats 40000000 in
theorem nPack_ok {csx : List Value} {x : Nte} {Sx : Nat → Prop} (hx : noteR.rd Sx w csx x) (hch : x.changes.length * 96 ≤ 140737488355328) : Ret prog 14 #[.agg csx.toArray] w (fun v w' => ∃ A c, v = .tuple #[.slice A (packS x).1.length c, .int .i64 (packS x).2] ∧ OwnB 5 w.heap.size w' A c (packS x).1 ∧ Ext w w') := by
 have qhx:=hx
 obtain ⟨hIx, Ax0, cx0, Ax1, cx1, Ax2, cx2, Ax3, cx3, Ax4, cx4, Ax5, cx5, Ax6, cx6, Ax7, cx7, Ax8, cx8, Ax9, cx9, Ax10, cx10, rfl, hx0, hx1, hx2, hx3, hx4, hx5, hx6, hx7, hx8, hx9, hx10⟩ := hx
 refine ret_of_wk func14 rfl ntmps14 leB_ ?_
 have hp:=HP.begin_ w
 refine so ?_
 refine Bx hp (h := fun gs1 w1 hp hE1 => so ?_)
 refine Cx hp (nMay_ok (rdTn qhx) (by omega)) fun w2 hp hE2 => so ?_
 refine Cd ?_ ?_<;>intro hm
 refine so ?_
 refine P2 results14 ?_
 rw [show packS x = ([], 2) from if_neg (fun h => hm h.1)]
 exact ⟨_, rfl, _, _, rfl, OwnRow.nil _ _ _ _ _, hp.chg⟩
 replace hm:=Decidable.not_not.1 hm
 refine so ?_
 refine Ce (nWrite_ok (x := x) (rdTn qhx) (may_fine hm).1 (Nat.le_trans (may_fine hm).2 (by decide))) ?_
 rintro _ w3 ⟨A3, c3, rfl, ho3, hE3⟩
 replace hp:=((hp.ownRow hE3 ho3).as_ (H' := itR 5 1 A3 (noteE x).length c3 ((noteE x).map bv) :: _) rfl)
 have hrow:=hp.rowLo (i := 0) rfl
 obtain ⟨F8, hp8, hs8, hb8⟩ := hp.frzRow
 have hgs : GS byteR F8 _ A3 c3 (noteE x) := OwnRow.gsF hrow hb8
 replace hp:=hp8
 have hF8:=Frz.start F8 w3
 refine so ?_
 refine Ce (nRead_ok hp hgs) ?_
 rintro _ w4 ⟨F4, cs4, x4, e4, rfl, hp, hF4, hrd4, hpr4⟩
 have qhrd4:=hrd4
 obtain ⟨hI4, A4_0, c4_0, A4_1, c4_1, A4_2, c4_2, A4_3, c4_3, A4_4, c4_4, A4_5, c4_5, A4_6, c4_6, A4_7, c4_7, A4_8, c4_8, A4_9, c4_9, A4_10, c4_10, rfl, hr4_0, hr4_1, hr4_2, hr4_3, hr4_4, hr4_5, hr4_6, hr4_7, hr4_8, hr4_9, hr4_10⟩ := hrd4
 replace hF8:=hF8.fr hF4
 refine so ?_
 refine Alo hp (h := fun gs5 w5 hp hE5 => ?_)
 replace hF8:=hF8.ext hE5
 refine Hs 0 hp (h := fun w6 hp hC6 => ?_)
 replace hF8:=hF8.fz hC6
 refine so ?_
 refine Gs 19 ?_ ?_<;>intro hgo<;>refine so ?_
 refine aT (so ?_)
 refine P2 results14 ?_
 rw [pack_no hm hpr4 (fun h => by obtain ⟨h1, h2⟩ := h; simp [h1, h2] at hm hgo)]
 exact ⟨_, rfl, _, _, rfl, OwnRow.nil _ _ _ _ _, hp.chg⟩
 refine Cy (nSame_ok (rdTn qhx) (rdTo qhrd4)) fun w7 hE7 => ?_
 replace hF8:=hF8.ext hE7
 replace hp:=hp.ext hE7
 refine so ?_
 refine Cd ?_ ?_<;>intro hce<;>refine so ?_
 refine P2 results14 ?_
 rw [pack_no hm hpr4 (fun h => by obtain ⟨h1, h2⟩ := h; simp [h1, h2] at hm hgo hce)]
 exact ⟨_, rfl, _, _, rfl, OwnRow.nil _ _ _ _ _, hp.chg⟩
 refine P2 results14 ?_
 rw [pack_ok hm hpr4 (by simpa using hgo) (by simpa using hce)]
 exact ⟨_, rfl, _, _, rfl, OwnRow.frz hrow hb8 hF8.chg, hp.chg⟩
end Go.Proofs.YtkdoomglflikkaaGreat
