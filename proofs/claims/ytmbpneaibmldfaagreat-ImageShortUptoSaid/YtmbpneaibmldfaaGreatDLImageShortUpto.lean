/- ImageShortUpto is true: what the program answers is what the statement says, for every argument (no further condition). -/
import Derived.Test.YtmbpneaibmldfaaGreatDaa
import Derived.Test.YtmbpneaibmldfaaGreatAaa
import Derived.Test.YtmbpneaibmldfaaGreatAab
import Derived.Test.YtmbpneaibmldfaaGreatAad
import Derived.Test.YtmbpneaibmldfaaGreatAaf
import Derived.Test.YtmbpneaibmldfaaGreatAag
import Derived.Test.YtmbpneaibmldfaaGreatAai
import Derived.Test.YtmbpneaibmldfaaGreatAaj
import Derived.Test.YtmbpneaibmldfaaGreatAak
import Derived.Test.YtmbpneaibmldfaaGreatAap
import Derived.Test.YtmbpneaibmldfaaGreatAat
import Derived.Test.YtmbpneaibmldfaaGreatAbb
import Derived.Test.YtmbpneaibmldfaaGreatAbc
namespace Go.Proofs.YtmbpneaibmldfaaGreat
open Go.ChangeShapes Go.WideShapes Go.ChangeAt Go.RowKit Go.Eng Go.Eng _root_.Go.Proofs.Tryz
set_option maxRecDepth 100000
variable {w0 w : World} {M0 Fz : Nat → Prop} {H : List It} {A : Option Addr} {c : Nat}
theorem Tryz.ce3 : Tryz.prog.cellsOf 3 = 1 := by kernel_rfl
theorem Tryz.ce5 : Tryz.prog.cellsOf 5 = 1 := by kernel_rfl
theorem Tryz.ce26 : Tryz.prog.cellsOf 26 = 32 := by kernel_rfl
theorem reads_t26 : ReadsR Tryz.prog 26 digR (fun _ => True) := reads_digest (e := 5) Tryz.underlying26 Tryz.underlying5 Tryz.ce5 Tryz.ce26
theorem Tryz.by5 : Tryz.prog.bytesOf 5 = 1 := by kernel_rfl
theorem reads_t36 : ReadsR Tryz.prog 36 (sliceR byteR) (fun l => l.length * 1 ≤ 140737488355328) := fun H enc w base sp held fuel cs x h hl hw => by
 obtain ⟨v, h1, h2⟩ := reads_slice (size := 1) (bytes := 1) Tryz.underlying36 rfl (by decide) Tryz.ce5 Tryz.by5 (by decide) (reads_byte Tryz.underlying5) H enc w base sp held fuel cs x h hl hw
 exact ⟨v, h1, h2.2⟩
theorem Tryz.ce36 : Tryz.prog.cellsOf 36 = 1 := by kernel_rfl
theorem Tryz.by3 : Tryz.prog.bytesOf 3 = 8 := by kernel_rfl
theorem reads_t22 : ReadsR Tryz.prog 22 (sliceR intR) (fun l => (∀ x ∈ l, -9223372036854775808 ≤ x ∧ x ≤ 9223372036854775807) ∧ l.length * 8 ≤ 140737488355328) := fun H enc w base sp held fuel cs x h hl hw => by
 obtain ⟨v, h1, h2⟩ := reads_slice (size := 1) (bytes := 8) Tryz.underlying22 rfl (by decide) Tryz.ce3 Tryz.by3 (by decide) (reads_int Tryz.underlying3) H enc w base sp held fuel cs x h hl hw
 exact ⟨v, h1, h2⟩
theorem Tryz.ce22 : Tryz.prog.cellsOf 22 = 1 := by kernel_rfl
theorem Tryz.ce112 : Tryz.prog.cellsOf 112 = 10 := by kernel_rfl
theorem reads_Wsh : ReadsR Tryz.prog 112 wishR (fun _ => True) := by
  intro H enc w base sp held fuel cs x h hlt hw
  have hlen := trod_structLen Tryz.underlying112 h
  rw [Tryz.ce112] at hlen
  obtain ⟨v0, h0, g0⟩ := reads_field Tryz.underlying112 (i := 0) rfl (reads_int Tryz.underlying3) h hlt hw
  replace h0 : intR.rd _ _ ((cs.drop 0).take (Tryz.prog.cellsOf 3)) v0 := h0
  rw [Tryz.ce3] at h0
  have e0 : (cs.drop 0).take 1 = [.int .i64 v0] := h0
  obtain ⟨v1, h1, g1⟩ := reads_field Tryz.underlying112 (i := 1) rfl (reads_int Tryz.underlying3) h hlt hw
  replace h1 : intR.rd _ _ ((cs.drop 1).take (Tryz.prog.cellsOf 3)) v1 := h1
  rw [Tryz.ce3] at h1
  have e1 : (cs.drop 1).take 1 = [.int .i64 v1] := h1
  obtain ⟨v2, h2, g2⟩ := reads_field Tryz.underlying112 (i := 2) rfl (reads_int Tryz.underlying3) h hlt hw
  replace h2 : intR.rd _ _ ((cs.drop 2).take (Tryz.prog.cellsOf 3)) v2 := h2
  rw [Tryz.ce3] at h2
  have e2 : (cs.drop 2).take 1 = [.int .i64 v2] := h2
  obtain ⟨v3, h3, g3⟩ := reads_field Tryz.underlying112 (i := 3) rfl (reads_int Tryz.underlying3) h hlt hw
  replace h3 : intR.rd _ _ ((cs.drop 3).take (Tryz.prog.cellsOf 3)) v3 := h3
  rw [Tryz.ce3] at h3
  have e3 : (cs.drop 3).take 1 = [.int .i64 v3] := h3
  obtain ⟨v4, h4, g4⟩ := reads_field Tryz.underlying112 (i := 4) rfl (reads_int Tryz.underlying3) h hlt hw
  replace h4 : intR.rd _ _ ((cs.drop 4).take (Tryz.prog.cellsOf 3)) v4 := h4
  rw [Tryz.ce3] at h4
  have e4 : (cs.drop 4).take 1 = [.int .i64 v4] := h4
  obtain ⟨v5, h5, g5⟩ := reads_field Tryz.underlying112 (i := 5) rfl (reads_int Tryz.underlying3) h hlt hw
  replace h5 : intR.rd _ _ ((cs.drop 5).take (Tryz.prog.cellsOf 3)) v5 := h5
  rw [Tryz.ce3] at h5
  have e5 : (cs.drop 5).take 1 = [.int .i64 v5] := h5
  obtain ⟨v6, h6, g6⟩ := reads_field Tryz.underlying112 (i := 6) rfl reads_t36 h hlt hw
  replace h6 : (sliceR byteR).rd _ _ ((cs.drop 6).take (Tryz.prog.cellsOf 36)) v6 := h6
  rw [Tryz.ce36] at h6
  obtain ⟨A6, c6, e6, k6⟩ := h6
  obtain ⟨v7, h7, g7⟩ := reads_field Tryz.underlying112 (i := 7) rfl (reads_int Tryz.underlying3) h hlt hw
  replace h7 : intR.rd _ _ ((cs.drop 7).take (Tryz.prog.cellsOf 3)) v7 := h7
  rw [Tryz.ce3] at h7
  have e7 : (cs.drop 7).take 1 = [.int .i64 v7] := h7
  obtain ⟨v8, h8, g8⟩ := reads_field Tryz.underlying112 (i := 8) rfl (reads_int Tryz.underlying3) h hlt hw
  replace h8 : intR.rd _ _ ((cs.drop 8).take (Tryz.prog.cellsOf 3)) v8 := h8
  rw [Tryz.ce3] at h8
  have e8 : (cs.drop 8).take 1 = [.int .i64 v8] := h8
  obtain ⟨v9, h9, g9⟩ := reads_field Tryz.underlying112 (i := 9) rfl reads_t22 h hlt hw
  replace h9 : (sliceR intR).rd _ _ ((cs.drop 9).take (Tryz.prog.cellsOf 22)) v9 := h9
  rw [Tryz.ce22] at h9
  obtain ⟨A9, c9, e9, k9⟩ := h9
  have e := (List.drop_zero (l := cs)).symm
  rw [seg_cons (m := 1) rfl e0] at e
  rw [seg_cons (m := 2) rfl e1] at e
  rw [seg_cons (m := 3) rfl e2] at e
  rw [seg_cons (m := 4) rfl e3] at e
  rw [seg_cons (m := 5) rfl e4] at e
  rw [seg_cons (m := 6) rfl e5] at e
  rw [seg_cons (m := 7) rfl e6] at e
  rw [seg_cons (m := 8) rfl e7] at e
  rw [seg_cons (m := 9) rfl e8] at e
  rw [seg_cons (m := 10) rfl e9] at e
  rw [List.drop_eq_nil_of_le (by rw [hlen]; exact Nat.le_refl _)] at e
  refine ⟨{ client := v0, stamp := v1, group := v2, epoch := v3, kind := v4, block := v5, data := v6, old := v7, new := v8, next := v9 }, ?_, trivial⟩
  refine ⟨by unfold WshI i64; dsimp only; omega, _, _, _, _, e.trans (by (try simp only [List.cons_append, List.nil_append, List.append_nil]); try rfl), k6, k9⟩
theorem Tryz.by112 : Tryz.prog.bytesOf 112 = 112 := by kernel_rfl
theorem reads_t84 : ReadsR Tryz.prog 84 (sliceR wishR) (fun l => l.length * 112 ≤ 140737488355328) := fun H enc w base sp held fuel cs x h hl hw => by
 obtain ⟨v, h1, h2⟩ := reads_slice (size := 10) (bytes := 112) Tryz.underlying84 rfl (by decide) Tryz.ce112 Tryz.by112 (by decide) reads_Wsh H enc w base sp held fuel cs x h hl hw
 exact ⟨v, h1, h2.2⟩
theorem Tryz.ce84 : Tryz.prog.cellsOf 84 = 1 := by kernel_rfl
theorem Tryz.ce28 : Tryz.prog.cellsOf 28 = 33 := by kernel_rfl
theorem reads_Mrk : ReadsR Tryz.prog 28 markR (fun _ => True) := by
 intro H enc w base sp held fuel cs x h hlt hw
 have hlen := trod_structLen Tryz.underlying28 h
 rw [Tryz.ce28] at hlen
 obtain ⟨v0, h0, g0⟩ := reads_field Tryz.underlying28 (i := 0) rfl (reads_int Tryz.underlying3) h hlt hw
 replace h0 : intR.rd _ _ ((cs.drop 0).take (Tryz.prog.cellsOf 3)) v0 := h0
 rw [Tryz.ce3] at h0
 have e0 : (cs.drop 0).take 1 = [.int .i64 v0] := h0
 obtain ⟨v1, h1, g1⟩ := reads_field Tryz.underlying28 (i := 1) rfl reads_t26 h hlt hw
 replace h1 : digR.rd _ _ ((cs.drop 1).take (Tryz.prog.cellsOf 26)) v1 := h1
 rw [Tryz.ce26] at h1
 have e1 : (cs.drop 1).take 32 = digC v1 := h1
 have e := (List.drop_zero (l := cs)).symm
 rw [seg_cons (m := 1) rfl e0] at e
 rw [seg_cons (m := 33) rfl e1] at e
 rw [List.drop_eq_nil_of_le (by rw [hlen]; exact Nat.le_refl _)] at e
 refine ⟨{ seq := v0, dig := v1 }, ?_, trivial⟩
 refine ⟨by unfold MrkI i64; dsimp only; omega, e.trans (by (try simp only [List.cons_append, List.nil_append, List.append_nil]); try rfl)⟩
theorem Tryz.by28 : Tryz.prog.bytesOf 28 = 40 := by kernel_rfl
theorem reads_t29 : ReadsR Tryz.prog 29 (sliceR markR) (fun l => l.length * 40 ≤ 140737488355328) := fun H enc w base sp held fuel cs x h hl hw => by
 obtain ⟨v, h1, h2⟩ := reads_slice (size := 33) (bytes := 40) Tryz.underlying29 rfl (by decide) Tryz.ce28 Tryz.by28 (by decide) reads_Mrk H enc w base sp held fuel cs x h hl hw
 exact ⟨v, h1, h2.2⟩
theorem Tryz.ce29 : Tryz.prog.cellsOf 29 = 1 := by kernel_rfl
theorem Tryz.ce110 : Tryz.prog.cellsOf 110 = 34 := by kernel_rfl
theorem reads_Stn : ReadsR Tryz.prog 110 standR (fun _ => True) := by
 intro H enc w base sp held fuel cs x h hlt hw
 have hlen := trod_structLen Tryz.underlying110 h
 rw [Tryz.ce110] at hlen
 obtain ⟨v0, h0, g0⟩ := reads_field Tryz.underlying110 (i := 0) rfl (reads_int Tryz.underlying3) h hlt hw
 replace h0 : intR.rd _ _ ((cs.drop 0).take (Tryz.prog.cellsOf 3)) v0 := h0
 rw [Tryz.ce3] at h0
 have e0 : (cs.drop 0).take 1 = [.int .i64 v0] := h0
 obtain ⟨v1, h1, g1⟩ := reads_field Tryz.underlying110 (i := 1) rfl reads_t26 h hlt hw
 replace h1 : digR.rd _ _ ((cs.drop 1).take (Tryz.prog.cellsOf 26)) v1 := h1
 rw [Tryz.ce26] at h1
 have e1 : (cs.drop 1).take 32 = digC v1 := h1
 obtain ⟨v2, h2, g2⟩ := reads_field Tryz.underlying110 (i := 2) rfl (reads_int Tryz.underlying3) h hlt hw
 replace h2 : intR.rd _ _ ((cs.drop 33).take (Tryz.prog.cellsOf 3)) v2 := h2
 rw [Tryz.ce3] at h2
 have e2 : (cs.drop 33).take 1 = [.int .i64 v2] := h2
 have e := (List.drop_zero (l := cs)).symm
 rw [seg_cons (m := 1) rfl e0] at e
 rw [seg_cons (m := 33) rfl e1] at e
 rw [seg_cons (m := 34) rfl e2] at e
 rw [List.drop_eq_nil_of_le (by rw [hlen]; exact Nat.le_refl _)] at e
 refine ⟨{ seq := v0, dig := v1, view := v2 }, ?_, trivial⟩
 refine ⟨by unfold StnI i64; dsimp only; omega, e.trans (by (try simp only [List.cons_append, List.nil_append, List.append_nil]); try rfl)⟩
theorem Tryz.by110 : Tryz.prog.bytesOf 110 = 48 := by kernel_rfl
theorem reads_t30 : ReadsR Tryz.prog 30 (sliceR standR) (fun l => l.length * 48 ≤ 140737488355328) := fun H enc w base sp held fuel cs x h hl hw => by
 obtain ⟨v, h1, h2⟩ := reads_slice (size := 34) (bytes := 48) Tryz.underlying30 rfl (by decide) Tryz.ce110 Tryz.by110 (by decide) reads_Stn H enc w base sp held fuel cs x h hl hw
 exact ⟨v, h1, h2.2⟩
theorem Tryz.ce30 : Tryz.prog.cellsOf 30 = 1 := by kernel_rfl
theorem Tryz.ce35 : Tryz.prog.cellsOf 35 = 6 := by kernel_rfl
theorem reads_Chn : ReadsR Tryz.prog 35 changeR (fun _ => True) := by
  intro H enc w base sp held fuel cs x h hlt hw
  have hlen := trod_structLen Tryz.underlying35 h
  rw [Tryz.ce35] at hlen
  obtain ⟨v0, h0, g0⟩ := reads_field Tryz.underlying35 (i := 0) rfl (reads_int Tryz.underlying3) h hlt hw
  replace h0 : intR.rd _ _ ((cs.drop 0).take (Tryz.prog.cellsOf 3)) v0 := h0
  rw [Tryz.ce3] at h0
  have e0 : (cs.drop 0).take 1 = [.int .i64 v0] := h0
  obtain ⟨v1, h1, g1⟩ := reads_field Tryz.underlying35 (i := 1) rfl (reads_int Tryz.underlying3) h hlt hw
  replace h1 : intR.rd _ _ ((cs.drop 1).take (Tryz.prog.cellsOf 3)) v1 := h1
  rw [Tryz.ce3] at h1
  have e1 : (cs.drop 1).take 1 = [.int .i64 v1] := h1
  obtain ⟨v2, h2, g2⟩ := reads_field Tryz.underlying35 (i := 2) rfl (reads_int Tryz.underlying3) h hlt hw
  replace h2 : intR.rd _ _ ((cs.drop 2).take (Tryz.prog.cellsOf 3)) v2 := h2
  rw [Tryz.ce3] at h2
  have e2 : (cs.drop 2).take 1 = [.int .i64 v2] := h2
  obtain ⟨v3, h3, g3⟩ := reads_field Tryz.underlying35 (i := 3) rfl reads_t29 h hlt hw
  replace h3 : (sliceR markR).rd _ _ ((cs.drop 3).take (Tryz.prog.cellsOf 29)) v3 := h3
  rw [Tryz.ce29] at h3
  obtain ⟨A3, c3, e3, k3⟩ := h3
  obtain ⟨v4, h4, g4⟩ := reads_field Tryz.underlying35 (i := 4) rfl reads_t30 h hlt hw
  replace h4 : (sliceR standR).rd _ _ ((cs.drop 4).take (Tryz.prog.cellsOf 30)) v4 := h4
  rw [Tryz.ce30] at h4
  obtain ⟨A4, c4, e4, k4⟩ := h4
  obtain ⟨v5, h5, g5⟩ := reads_field Tryz.underlying35 (i := 5) rfl reads_t30 h hlt hw
  replace h5 : (sliceR standR).rd _ _ ((cs.drop 5).take (Tryz.prog.cellsOf 30)) v5 := h5
  rw [Tryz.ce30] at h5
  obtain ⟨A5, c5, e5, k5⟩ := h5
  have e := (List.drop_zero (l := cs)).symm
  rw [seg_cons (m := 1) rfl e0] at e
  rw [seg_cons (m := 2) rfl e1] at e
  rw [seg_cons (m := 3) rfl e2] at e
  rw [seg_cons (m := 4) rfl e3] at e
  rw [seg_cons (m := 5) rfl e4] at e
  rw [seg_cons (m := 6) rfl e5] at e
  rw [List.drop_eq_nil_of_le (by rw [hlen]; exact Nat.le_refl _)] at e
  refine ⟨{ node := v0, view := v1, low := v2, marks := v3, p := v4, q := v5 }, ?_, trivial⟩
  refine ⟨by unfold ChnI i64; dsimp only; omega, _, _, _, _, _, _, e.trans (by (try simp only [List.cons_append, List.nil_append, List.append_nil]); try rfl), k3, k4, k5⟩
theorem Tryz.ce24 : Tryz.prog.cellsOf 24 = 2 := by kernel_rfl
theorem reads_Crw : ReadsR Tryz.prog 24 crewR (fun x => ∀ y ∈ x.nodes, -9223372036854775808 ≤ y ∧ y ≤ 9223372036854775807) := by
 intro H enc w base sp held fuel cs x h hlt hw
 have hlen := trod_structLen Tryz.underlying24 h
 rw [Tryz.ce24] at hlen
 obtain ⟨v0, h0, g0⟩ := reads_field Tryz.underlying24 (i := 0) rfl (reads_int Tryz.underlying3) h hlt hw
 replace h0 : intR.rd _ _ ((cs.drop 0).take (Tryz.prog.cellsOf 3)) v0 := h0
 rw [Tryz.ce3] at h0
 have e0 : (cs.drop 0).take 1 = [.int .i64 v0] := h0
 obtain ⟨v1, h1, g1⟩ := reads_field Tryz.underlying24 (i := 1) rfl reads_t22 h hlt hw
 replace h1 : (sliceR intR).rd _ _ ((cs.drop 1).take (Tryz.prog.cellsOf 22)) v1 := h1
 rw [Tryz.ce22] at h1
 obtain ⟨A1, c1, e1, k1⟩ := h1
 have e := (List.drop_zero (l := cs)).symm
 rw [seg_cons (m := 1) rfl e0] at e
 rw [seg_cons (m := 2) rfl e1] at e
 rw [List.drop_eq_nil_of_le (by rw [hlen]; exact Nat.le_refl _)] at e
 refine ⟨{ faults := v0, nodes := v1 }, ?_, g1.1⟩
 refine ⟨by unfold CrwI i64; dsimp only; omega, _, _, e.trans (by (try simp only [List.cons_append, List.nil_append, List.append_nil]); try rfl), k1⟩
theorem Tryz.ce4 : Tryz.prog.cellsOf 4 = 1 := by kernel_rfl
theorem Tryz.ce89 : Tryz.prog.cellsOf 89 = 33 := by kernel_rfl
theorem reads_Bat : ReadsR Tryz.prog 89 batR (fun _ => True) := by
 intro H enc w base sp held fuel cs x h hlt hw
 have hlen := trod_structLen Tryz.underlying89 h
 rw [Tryz.ce89] at hlen
 obtain ⟨v0, h0, g0⟩ := reads_field Tryz.underlying89 (i := 0) rfl reads_t26 h hlt hw
 replace h0 : digR.rd _ _ ((cs.drop 0).take (Tryz.prog.cellsOf 26)) v0 := h0
 rw [Tryz.ce26] at h0
 have e0 : (cs.drop 0).take 32 = digC v0 := h0
 obtain ⟨v1, h1, g1⟩ := reads_field Tryz.underlying89 (i := 1) rfl reads_t84 h hlt hw
 replace h1 : (sliceR wishR).rd _ _ ((cs.drop 32).take (Tryz.prog.cellsOf 84)) v1 := h1
 rw [Tryz.ce84] at h1
 obtain ⟨A1, c1, e1, k1⟩ := h1
 have e := (List.drop_zero (l := cs)).symm
 rw [seg_cons (m := 32) rfl e0] at e
 rw [seg_cons (m := 33) rfl e1] at e
 rw [List.drop_eq_nil_of_le (by rw [hlen]; exact Nat.le_refl _)] at e
 refine ⟨{ dig := v0, wishes := v1 }, ?_, trivial⟩
 refine ⟨_, _, e.trans (by (try simp only [List.append_nil]); try rfl), k1⟩
theorem Tryz.by89 : Tryz.prog.bytesOf 89 = 56 := by kernel_rfl
theorem reads_t31 : ReadsR Tryz.prog 31 (sliceR batR) (fun l => l.length * 56 ≤ 140737488355328) := fun H enc w base sp held fuel cs x h hl hw => by
 obtain ⟨v, h1, h2⟩ := reads_slice (size := 33) (bytes := 56) Tryz.underlying31 rfl (by decide) Tryz.ce89 Tryz.by89 (by decide) reads_Bat H enc w base sp held fuel cs x h hl hw
 exact ⟨v, h1, h2.2⟩
theorem Tryz.ce31 : Tryz.prog.cellsOf 31 = 1 := by kernel_rfl
theorem Tryz.ce33 : Tryz.prog.cellsOf 33 = 42 := by kernel_rfl
theorem reads_Img : ReadsR Tryz.prog 33 imgR (fun x => x.batches.length * 56 ≤ 140737488355328) := by
  intro H enc w base sp held fuel cs x h hlt hw
  have hlen := trod_structLen Tryz.underlying33 h
  rw [Tryz.ce33] at hlen
  obtain ⟨v0, h0, g0⟩ := reads_field Tryz.underlying33 (i := 0) rfl (reads_int Tryz.underlying3) h hlt hw
  replace h0 : intR.rd _ _ ((cs.drop 0).take (Tryz.prog.cellsOf 3)) v0 := h0
  rw [Tryz.ce3] at h0
  have e0 : (cs.drop 0).take 1 = [.int .i64 v0] := h0
  obtain ⟨v1, h1, g1⟩ := reads_field Tryz.underlying33 (i := 1) rfl (reads_bool Tryz.underlying4) h hlt hw
  replace h1 : boolR.rd _ _ ((cs.drop 1).take (Tryz.prog.cellsOf 4)) v1 := h1
  rw [Tryz.ce4] at h1
  have e1 : (cs.drop 1).take 1 = [.bool v1] := h1
  obtain ⟨v2, h2, g2⟩ := reads_field Tryz.underlying33 (i := 2) rfl reads_Mrk h hlt hw
  replace h2 : markR.rd _ _ ((cs.drop 2).take (Tryz.prog.cellsOf 28)) v2 := h2
  rw [Tryz.ce28] at h2
  obtain ⟨I2, e2⟩ := h2
  unfold MrkI i64 at I2
  obtain ⟨v3, h3, g3⟩ := reads_field Tryz.underlying33 (i := 3) rfl reads_t29 h hlt hw
  replace h3 : (sliceR markR).rd _ _ ((cs.drop 35).take (Tryz.prog.cellsOf 29)) v3 := h3
  rw [Tryz.ce29] at h3
  obtain ⟨A3, c3, e3, k3⟩ := h3
  obtain ⟨v4, h4, g4⟩ := reads_field Tryz.underlying33 (i := 4) rfl reads_t30 h hlt hw
  replace h4 : (sliceR standR).rd _ _ ((cs.drop 36).take (Tryz.prog.cellsOf 30)) v4 := h4
  rw [Tryz.ce30] at h4
  obtain ⟨A4, c4, e4, k4⟩ := h4
  obtain ⟨v5, h5, g5⟩ := reads_field Tryz.underlying33 (i := 5) rfl reads_t30 h hlt hw
  replace h5 : (sliceR standR).rd _ _ ((cs.drop 37).take (Tryz.prog.cellsOf 30)) v5 := h5
  rw [Tryz.ce30] at h5
  obtain ⟨A5, c5, e5, k5⟩ := h5
  obtain ⟨v6, h6, g6⟩ := reads_field Tryz.underlying33 (i := 6) rfl (reads_int Tryz.underlying3) h hlt hw
  replace h6 : intR.rd _ _ ((cs.drop 38).take (Tryz.prog.cellsOf 3)) v6 := h6
  rw [Tryz.ce3] at h6
  have e6 : (cs.drop 38).take 1 = [.int .i64 v6] := h6
  obtain ⟨v7, h7, g7⟩ := reads_field Tryz.underlying33 (i := 7) rfl reads_t29 h hlt hw
  replace h7 : (sliceR markR).rd _ _ ((cs.drop 39).take (Tryz.prog.cellsOf 29)) v7 := h7
  rw [Tryz.ce29] at h7
  obtain ⟨A7, c7, e7, k7⟩ := h7
  obtain ⟨v8, h8, g8⟩ := reads_field Tryz.underlying33 (i := 8) rfl (reads_bool Tryz.underlying4) h hlt hw
  replace h8 : boolR.rd _ _ ((cs.drop 40).take (Tryz.prog.cellsOf 4)) v8 := h8
  rw [Tryz.ce4] at h8
  have e8 : (cs.drop 40).take 1 = [.bool v8] := h8
  obtain ⟨v9, h9, g9⟩ := reads_field Tryz.underlying33 (i := 9) rfl reads_t31 h hlt hw
  replace h9 : (sliceR batR).rd _ _ ((cs.drop 41).take (Tryz.prog.cellsOf 31)) v9 := h9
  rw [Tryz.ce31] at h9
  obtain ⟨A9, c9, e9, k9⟩ := h9
  have e := (List.drop_zero (l := cs)).symm
  rw [seg_cons (m := 1) rfl e0] at e
  rw [seg_cons (m := 2) rfl e1] at e
  rw [seg_cons (m := 35) rfl e2] at e
  rw [seg_cons (m := 36) rfl e3] at e
  rw [seg_cons (m := 37) rfl e4] at e
  rw [seg_cons (m := 38) rfl e5] at e
  rw [seg_cons (m := 39) rfl e6] at e
  rw [seg_cons (m := 40) rfl e7] at e
  rw [seg_cons (m := 41) rfl e8] at e
  rw [seg_cons (m := 42) rfl e9] at e
  rw [List.drop_eq_nil_of_le (by rw [hlen]; exact Nat.le_refl _)] at e
  refine ⟨{ view := v0, active := v1, low := v2, own := v3, p := v4, q := v5, ran := v6, done := v7, ended := v8, batches := v9 }, ?_, g9⟩
  refine ⟨by unfold ImgI i64; dsimp only; omega, _, _, _, _, _, _, _, _, _, _, e.trans (by (try simp only [List.cons_append, List.nil_append, List.append_nil]); try rfl), k3, k4, k5, k7, k9⟩
theorem Tryz.ce38 : Tryz.prog.cellsOf 38 = 54 := by kernel_rfl
theorem reads_Rpl : ReadsR Tryz.prog 38 rplR (fun x => x.img.batches.length * 56 ≤ 140737488355328 ∧ ∀ y ∈ x.nodes, -9223372036854775808 ≤ y ∧ y ≤ 9223372036854775807) := by
  intro H enc w base sp held fuel cs x h hlt hw
  have hlen := trod_structLen Tryz.underlying38 h
  rw [Tryz.ce38] at hlen
  obtain ⟨v0, h0, g0⟩ := reads_field Tryz.underlying38 (i := 0) rfl (reads_int Tryz.underlying3) h hlt hw
  replace h0 : intR.rd _ _ ((cs.drop 0).take (Tryz.prog.cellsOf 3)) v0 := h0
  rw [Tryz.ce3] at h0
  have e0 : (cs.drop 0).take 1 = [.int .i64 v0] := h0
  obtain ⟨v1, h1, g1⟩ := reads_field Tryz.underlying38 (i := 1) rfl (reads_int Tryz.underlying3) h hlt hw
  replace h1 : intR.rd _ _ ((cs.drop 1).take (Tryz.prog.cellsOf 3)) v1 := h1
  rw [Tryz.ce3] at h1
  have e1 : (cs.drop 1).take 1 = [.int .i64 v1] := h1
  obtain ⟨v2, h2, g2⟩ := reads_field Tryz.underlying38 (i := 2) rfl reads_Crw h hlt hw
  replace h2 : crewR.rd _ _ ((cs.drop 2).take (Tryz.prog.cellsOf 24)) v2 := h2
  rw [Tryz.ce24] at h2
  obtain ⟨I2, A2_0, c2_0, e2, k2_0⟩ := h2
  unfold CrwI i64 at I2
  obtain ⟨v3, h3, g3⟩ := reads_field Tryz.underlying38 (i := 3) rfl reads_Img h hlt hw
  replace h3 : imgR.rd _ _ ((cs.drop 4).take (Tryz.prog.cellsOf 33)) v3 := h3
  rw [Tryz.ce33] at h3
  obtain ⟨I3, A3_0, c3_0, A3_1, c3_1, A3_2, c3_2, A3_3, c3_3, A3_4, c3_4, e3, k3_0, k3_1, k3_2, k3_3, k3_4⟩ := h3
  unfold ImgI i64 at I3
  obtain ⟨v4, h4, g4⟩ := reads_field Tryz.underlying38 (i := 4) rfl (reads_bool Tryz.underlying4) h hlt hw
  replace h4 : boolR.rd _ _ ((cs.drop 46).take (Tryz.prog.cellsOf 4)) v4 := h4
  rw [Tryz.ce4] at h4
  have e4 : (cs.drop 46).take 1 = [.bool v4] := h4
  obtain ⟨v5, h5, g5⟩ := reads_field Tryz.underlying38 (i := 5) rfl reads_Chn h hlt hw
  replace h5 : changeR.rd _ _ ((cs.drop 47).take (Tryz.prog.cellsOf 35)) v5 := h5
  rw [Tryz.ce35] at h5
  obtain ⟨I5, A5_0, c5_0, A5_1, c5_1, A5_2, c5_2, e5, k5_0, k5_1, k5_2⟩ := h5
  unfold ChnI i64 at I5
  obtain ⟨v6, h6, g6⟩ := reads_field Tryz.underlying38 (i := 6) rfl reads_t36 h hlt hw
  replace h6 : (sliceR byteR).rd _ _ ((cs.drop 53).take (Tryz.prog.cellsOf 36)) v6 := h6
  rw [Tryz.ce36] at h6
  obtain ⟨A6, c6, e6, k6⟩ := h6
  have e := (List.drop_zero (l := cs)).symm
  rw [seg_cons (m := 1) rfl e0] at e
  rw [seg_cons (m := 2) rfl e1] at e
  rw [seg_cons (m := 4) rfl e2] at e
  rw [seg_cons (m := 46) rfl e3] at e
  rw [seg_cons (m := 47) rfl e4] at e
  rw [seg_cons (m := 53) rfl e5] at e
  rw [seg_cons (m := 54) rfl e6] at e
  rw [List.drop_eq_nil_of_le (by rw [hlen]; exact Nat.le_refl _)] at e
  refine ⟨{ group := v0, epoch := v1, faults := v2.faults, nodes := v2.nodes, img := v3, left := v4, change := v5, state := v6 }, ?_, ⟨g3, g2⟩⟩
  refine ⟨by unfold RplI i64; dsimp only; omega, _, _, _, _, _, _, _, _, _, _, _, _, _, _, _, _, _, _, _, _, e.trans (by (try simp only [List.cons_append, List.nil_append, List.append_nil, List.append_assoc]); try rfl), k2_0, k3_0, k3_1, k3_2, k3_3, k3_4, k5_0, k5_1, k5_2, k6⟩
end Go.Proofs.YtmbpneaibmldfaaGreat
namespace Go.Proofs.YtmbpneaibmldfaaGreat
open Go.RowKit Go.Eng Go.Eng _root_.Go.Proofs.Tryz
set_option maxRecDepth 100000
variable {w0 w : World} {M0 Fz : Nat → Prop} {H : List It} {A : Option Addr} {c : Nat}
theorem bring_ok {i n : Int} (_h1 : -9223372036854775808 ≤ i) (_h2 : i ≤ 9223372036854775807) (h3 : -9223372036854775808 ≤ n) (h4 : n ≤ 9223372036854775807) : Ret prog 22 #[.int .i64 i, .int .i64 n] w (fun v w' => v = .int .i64 (brg i n) ∧ w' = w) := by
 refine ret_of_wk func22 rfl ntmps22 leB_ ?_
 refine go ?_
 refine Lq_ rfl rfl (go ?_)
 refine Cd (fun hn => ?_) fun hn => ?_
 refine go ?_
 refine P1 results22 ?_
 exact ⟨_, rfl, by rw [brg, if_pos hn], rfl⟩
 refine go ?_
 refine wl_rem (by decide) rfl rfl (by omega) rfl ?_
 have ht1 : -n < i.tmod n := by have := Int.lt_tmod_of_pos i (show 0 < n by omega); omega
 have ht2 : i.tmod n < n := Int.tmod_lt_of_pos i (by omega)
 refine gl ?_
 refine wc_seq_cut (fun L' w' => L' = [(0, iv (brg i n))] ∧ (w = w')) (fun K hK => ?_) ?_
 refine go ?_
 refine Ls_ rfl rfl (go ?_)
 refine Cd (fun hneg => ?_) fun hneg => ?_
 refine go ?_
 refine wl_add (by decide) rfl rfl (w64 (by omega) (by omega)) (gl ?_)
 refine wk_drop [(0, iv (brg i n))] ⟨(by rw [brg_tmod i n (by omega), if_pos hneg]; rfl), trivial⟩ (hK _ _ ?_)
 refine ⟨rfl, ?_⟩
 rfl
 refine gl ?_
 refine wk_drop [(0, iv (brg i n))] ⟨(by rw [brg_tmod i n (by omega), if_neg hneg]; rfl), trivial⟩ (hK _ _ ?_)
 refine ⟨rfl, ?_⟩
 rfl
 rintro _ w2 ⟨rfl, hw⟩
 subst hw
 refine go ?_
 refine P1 results22 ?_
 exact ⟨_, rfl, rfl, rfl⟩
end Go.Proofs.YtmbpneaibmldfaaGreat
namespace Go.Proofs.YtmbpneaibmldfaaGreat
open Go.ChangeShapes Go.WideShapes Go.ChangeAt Go.RowKit Go.Eng Go.Eng _root_.Go.Proofs.Tryz
set_option maxRecDepth 100000
variable {w0 w : World} {M0 Fz : Nat → Prop} {H : List It} {A : Option Addr} {c : Nat}
theorem blk_nodes {H : Type} {enc : TypeId × Value → H} {w : World} {base : Nat} {sp : Nat → Bool} {held : Bool} {fuel : Nat} {cs : List Value} {y : DataW H × List MemPlace} {x : Rpl} {S : Nat → Prop} {W : World} (hr : rplR.rd S W cs x) (h : DataW.trod enc Tryz.prog w base sp held fuel 38 cs = some y) : x.nodes.length ≤ blkD y.1 := by
 obtain ⟨_, A0, c0, A1, c1, A2, c2, A3, c3, A4, c4, A5, c5, A6, c6, A7, c7, A8, c8, A9, c9, e, _⟩ := hr
 obtain ⟨k2, y2, t2, b2⟩ := trod_field Tryz.underlying38 2 rfl h
 replace t2 : DataW.trod enc Tryz.prog w base sp held k2 24 (cs.drop 2 |>.take (Tryz.prog.cellsOf 24)) = some y2 := t2
 rw [Tryz.ce24] at t2
 obtain ⟨k21, y21, t21, b21⟩ := trod_field Tryz.underlying24 1 rfl t2
 replace t21 : DataW.trod enc Tryz.prog w base sp held k21 22 (((cs.drop 2).take 2).drop 1 |>.take (Tryz.prog.cellsOf 22)) = some y21 := t21
 rw [Tryz.ce22] at t21
 subst e
 have hl := trod_len Tryz.underlying22 t21 rfl
 omega
theorem blk_own {H : Type} {enc : TypeId × Value → H} {w : World} {base : Nat} {sp : Nat → Bool} {held : Bool} {fuel : Nat} {cs : List Value} {y : DataW H × List MemPlace} {x : Rpl} {S : Nat → Prop} {W : World} (hr : rplR.rd S W cs x) (h : DataW.trod enc Tryz.prog w base sp held fuel 38 cs = some y) : x.img.own.length ≤ blkD y.1 := by
 obtain ⟨_, A0, c0, A1, c1, A2, c2, A3, c3, A4, c4, A5, c5, A6, c6, A7, c7, A8, c8, A9, c9, e, _⟩ := hr
 obtain ⟨k3, y3, t3, b3⟩ := trod_field Tryz.underlying38 3 rfl h
 replace t3 : DataW.trod enc Tryz.prog w base sp held k3 33 (cs.drop 4 |>.take (Tryz.prog.cellsOf 33)) = some y3 := t3
 rw [Tryz.ce33] at t3
 obtain ⟨k33, y33, t33, b33⟩ := trod_field Tryz.underlying33 3 rfl t3
 replace t33 : DataW.trod enc Tryz.prog w base sp held k33 29 (((cs.drop 4).take 42).drop 35 |>.take (Tryz.prog.cellsOf 29)) = some y33 := t33
 rw [Tryz.ce29] at t33
 subst e
 have hl := trod_len Tryz.underlying29 t33 rfl
 omega
theorem blk_p {H : Type} {enc : TypeId × Value → H} {w : World} {base : Nat} {sp : Nat → Bool} {held : Bool} {fuel : Nat} {cs : List Value} {y : DataW H × List MemPlace} {x : Rpl} {S : Nat → Prop} {W : World} (hr : rplR.rd S W cs x) (h : DataW.trod enc Tryz.prog w base sp held fuel 38 cs = some y) : x.img.p.length ≤ blkD y.1 := by
 obtain ⟨_, A0, c0, A1, c1, A2, c2, A3, c3, A4, c4, A5, c5, A6, c6, A7, c7, A8, c8, A9, c9, e, _⟩ := hr
 obtain ⟨k3, y3, t3, b3⟩ := trod_field Tryz.underlying38 3 rfl h
 replace t3 : DataW.trod enc Tryz.prog w base sp held k3 33 (cs.drop 4 |>.take (Tryz.prog.cellsOf 33)) = some y3 := t3
 rw [Tryz.ce33] at t3
 obtain ⟨k34, y34, t34, b34⟩ := trod_field Tryz.underlying33 4 rfl t3
 replace t34 : DataW.trod enc Tryz.prog w base sp held k34 30 (((cs.drop 4).take 42).drop 36 |>.take (Tryz.prog.cellsOf 30)) = some y34 := t34
 rw [Tryz.ce30] at t34
 subst e
 have hl := trod_len Tryz.underlying30 t34 rfl
 omega
theorem blk_q {H : Type} {enc : TypeId × Value → H} {w : World} {base : Nat} {sp : Nat → Bool} {held : Bool} {fuel : Nat} {cs : List Value} {y : DataW H × List MemPlace} {x : Rpl} {S : Nat → Prop} {W : World} (hr : rplR.rd S W cs x) (h : DataW.trod enc Tryz.prog w base sp held fuel 38 cs = some y) : x.img.q.length ≤ blkD y.1 := by
 obtain ⟨_, A0, c0, A1, c1, A2, c2, A3, c3, A4, c4, A5, c5, A6, c6, A7, c7, A8, c8, A9, c9, e, _⟩ := hr
 obtain ⟨k3, y3, t3, b3⟩ := trod_field Tryz.underlying38 3 rfl h
 replace t3 : DataW.trod enc Tryz.prog w base sp held k3 33 (cs.drop 4 |>.take (Tryz.prog.cellsOf 33)) = some y3 := t3
 rw [Tryz.ce33] at t3
 obtain ⟨k35, y35, t35, b35⟩ := trod_field Tryz.underlying33 5 rfl t3
 replace t35 : DataW.trod enc Tryz.prog w base sp held k35 30 (((cs.drop 4).take 42).drop 37 |>.take (Tryz.prog.cellsOf 30)) = some y35 := t35
 rw [Tryz.ce30] at t35
 subst e
 have hl := trod_len Tryz.underlying30 t35 rfl
 omega
theorem blk_done {H : Type} {enc : TypeId × Value → H} {w : World} {base : Nat} {sp : Nat → Bool} {held : Bool} {fuel : Nat} {cs : List Value} {y : DataW H × List MemPlace} {x : Rpl} {S : Nat → Prop} {W : World} (hr : rplR.rd S W cs x) (h : DataW.trod enc Tryz.prog w base sp held fuel 38 cs = some y) : x.img.done.length ≤ blkD y.1 := by
 obtain ⟨_, A0, c0, A1, c1, A2, c2, A3, c3, A4, c4, A5, c5, A6, c6, A7, c7, A8, c8, A9, c9, e, _⟩ := hr
 obtain ⟨k3, y3, t3, b3⟩ := trod_field Tryz.underlying38 3 rfl h
 replace t3 : DataW.trod enc Tryz.prog w base sp held k3 33 (cs.drop 4 |>.take (Tryz.prog.cellsOf 33)) = some y3 := t3
 rw [Tryz.ce33] at t3
 obtain ⟨k37, y37, t37, b37⟩ := trod_field Tryz.underlying33 7 rfl t3
 replace t37 : DataW.trod enc Tryz.prog w base sp held k37 29 (((cs.drop 4).take 42).drop 39 |>.take (Tryz.prog.cellsOf 29)) = some y37 := t37
 rw [Tryz.ce29] at t37
 subst e
 have hl := trod_len Tryz.underlying29 t37 rfl
 omega
theorem blk_batches {H : Type} {enc : TypeId × Value → H} {w : World} {base : Nat} {sp : Nat → Bool} {held : Bool} {fuel : Nat} {cs : List Value} {y : DataW H × List MemPlace} {x : Rpl} {S : Nat → Prop} {W : World} (hr : rplR.rd S W cs x) (h : DataW.trod enc Tryz.prog w base sp held fuel 38 cs = some y) : x.img.batches.length ≤ blkD y.1 := by
 obtain ⟨_, A0, c0, A1, c1, A2, c2, A3, c3, A4, c4, A5, c5, A6, c6, A7, c7, A8, c8, A9, c9, e, _⟩ := hr
 obtain ⟨k3, y3, t3, b3⟩ := trod_field Tryz.underlying38 3 rfl h
 replace t3 : DataW.trod enc Tryz.prog w base sp held k3 33 (cs.drop 4 |>.take (Tryz.prog.cellsOf 33)) = some y3 := t3
 rw [Tryz.ce33] at t3
 obtain ⟨k39, y39, t39, b39⟩ := trod_field Tryz.underlying33 9 rfl t3
 replace t39 : DataW.trod enc Tryz.prog w base sp held k39 31 (((cs.drop 4).take 42).drop 41 |>.take (Tryz.prog.cellsOf 31)) = some y39 := t39
 rw [Tryz.ce31] at t39
 subst e
 have hl := trod_len Tryz.underlying31 t39 rfl
 omega
theorem blk_state {H : Type} {enc : TypeId × Value → H} {w : World} {base : Nat} {sp : Nat → Bool} {held : Bool} {fuel : Nat} {cs : List Value} {y : DataW H × List MemPlace} {x : Rpl} {S : Nat → Prop} {W : World} (hr : rplR.rd S W cs x) (h : DataW.trod enc Tryz.prog w base sp held fuel 38 cs = some y) : x.state.length ≤ blkD y.1 := by
 obtain ⟨_, A0, c0, A1, c1, A2, c2, A3, c3, A4, c4, A5, c5, A6, c6, A7, c7, A8, c8, A9, c9, e, _⟩ := hr
 obtain ⟨k6, y6, t6, b6⟩ := trod_field Tryz.underlying38 6 rfl h
 replace t6 : DataW.trod enc Tryz.prog w base sp held k6 36 (cs.drop 53 |>.take (Tryz.prog.cellsOf 36)) = some y6 := t6
 rw [Tryz.ce36] at t6
 subst e
 have hl := trod_len Tryz.underlying36 t6 rfl
 omega
theorem size_Rpl {H : Type} {enc : TypeId × Value → H} {W : World} {base : Nat} {v : Value} {d : DataW H} {x : Rpl} {S : Nat → Prop} (h : ∃ p, Arg enc Tryz.prog W base 38 v d p) (hr : rplR.rd S W v.cells.toList x) (hb : blkD d ≤ 1048576) : sizeR x ≤ 1000000000000 := by
 obtain ⟨p, h⟩ := h
 obtain ⟨fuel, hf⟩ := h.rd
 have h0 := blk_nodes hr hf
 have h1 := blk_own hr hf
 have h2 := blk_p hr hf
 have h3 := blk_q hr hf
 have h4 := blk_done hr hf
 have h5 := blk_batches hr hf
 have h6 := blk_state hr hf
 unfold sizeR
 dsimp only at h0 h1 h2 h3 h4 h5 h6
 omega
end Go.Proofs.YtmbpneaibmldfaaGreat
namespace Go.Proofs.YtmbpneaibmldfaaGreat
open Go.RowKit Go.Eng _root_.Go.Proofs.Tryz Go.Eng _root_.Go.Proofs.Tryz
set_option maxRecDepth 100000
variable {w0 w : World} {M0 Fz : Nat → Prop} {H : List It} {A : Option Addr} {c : Nat}
theorem parse_take {r : Rpl} (h : RplMay r) {k : Nat} (hk : k < (rplE r).length) : Go.Eng.parseS ((rplE r).take k) = (rpl0, 4) := parse_short h k hk
theorem rplE_pos {r : Rpl} (h : RplMay r) : 0 < (rplE r).length := by
 rcases Nat.eq_zero_or_pos (rplE r).length with h0 | h0
 ·have h1 := parse_bytes h
  rw [List.length_eq_zero_iff.1 h0] at h1
  have h2 : Go.Eng.parseS [] = (rpl0, 4) := by decide
  rw [h2] at h1
  cases h1
 ·exact h0
set_option maxHeartbeats 4000000 in
theorem imageShort_ok {w : World} {cs : List Value} {r : Rpl} {S : Nat → Prop} {left : Int} {more : UInt8} (hr : rplR.rd S w cs r) (hi : -9223372036854775808 ≤ left ∧ left ≤ 9223372036854775807) (hn : ∀ y ∈ r.nodes, i64 y) (hz : sizeR r ≤ 1000000000000) : Ret prog 8 #[.agg cs.toArray, iv left, bv more] w (fun v w' => v = .bool true ∧ Ext w w') := by
 have hl5 : cs.length = 54 := rplR.len hr
 have q0 : ReadsU w cs r := rplR.mono (fun _ _ _ => trivial) hr
 refine ret_of_wk func8 rfl ntmps8 leB_ ?_
 have hp := HP.begin_ w
 refine so ?_
 refine Bx hp (h := fun g1 w1 hp E1 => ?_)
 replace q0 := rpl_ext q0 E1
 refine so ?_
 refine wl_hloadX cs (i := 0) (by decide) ag38 rfl hp rfl hl5 (ld5 hl5) ?_
 refine Cl_ (xs := [.tmp 14]) (by kernel_rfl) rfl (iBytes_ok q0 hn hz) ?_
 rintro _ w2 ⟨A2, c2, rfl, ho2, E2⟩
 by_cases hm : RplMay r
 ·have hbx : bytesS r = (rplE r, 0) := if_pos hm
  have hlen := rpl_len hm.2
  have hpos := rplE_pos hm
  rw [hbx] at ho2 ⊢
  replace hp := hp.ownRow E2 ho2
  dsimp only at hp ⊢
  refine so ?_
  refine Cd ?_ ?_ <;> intro hc
  ·exact absurd rfl hc
  refine so ?_
  refine Cl_ (xs := [.tmp 23, .tmp 25]) (by kernel_rfl) rfl (bring_ok hi.1 hi.2 (by omega) (by omega)) ?_
  rintro _ w3 ⟨rfl, hw3⟩
  rw [hw3]
  clear hw3
  obtain ⟨k, hk⟩ : ∃ k : Nat, brg left ((rplE r).length : Int) = (k : Int) := ⟨(brg left ((rplE r).length : Int)).toNat, by have := brg_lo left ((rplE r).length : Int); omega⟩
  have hkl : k < (rplE r).length := by have := brg_hi left (n := ((rplE r).length : Int)) (by omega); omega
  rw [hk]
  have hbs : BS (fun b => 0 ≤ b) w2 A2 c2 (rplE r) := (hp.rowAt (i := 0) rfl).bs
  refine wl_to (r := byteR) (by decide) sl36 rfl rfl hbs k rfl (by omega) (fun hbt => ?_)
  refine Cl_ (xs := [.tmp 27]) (by kernel_rfl) rfl (parseE hbt) ?_
  rintro _ w4 ⟨cs4, x4, e4, rfl, q4, ep, E4⟩
  rw [parse_take hm hkl] at ep
  cases ep
  have hl4 : cs4.length = 54 := rplR.len q4
  replace hp := hp.ext E4
  refine so ?_
  refine Alo hp (h := fun g9 w5 hp E5 => ?_)
  refine Hs 0 hp (xs := cs4) (ds := cs4) (hc := ⟨rfl⟩) (hk := hl4) (hl := by rw [hl4]; exact leB_) (h1 := rplR.one q4) (hq := putL_all (by rw [hl4]; rfl)) (h := fun w6 hp C6 => ?_)
  refine so ?_
  refine wl_bsliceB (bs := [more]) (xs := [.tmp 33]) (by decide) sl36 rfl rfl rfl leB_ w6.heap.size (Nat.le_refl _) ?_
  intro g7 w7 hg7 ho7 E7
  refine wl_happendB (l2 := [more]) (i := 1) (by decide) sl36 rfl rfl (hp.ext E7) rfl ho7.bs (by simp; omega) ?_
  intro A8 c8 w8 hp C8
  have hb8 : BS (fun b => 0 ≤ b) w8 A8 c8 (rplE r ++ [more]) := (hp.rowAt (i := 1) rfl).bs
  refine Cl_ (xs := [.tmp 35]) (by kernel_rfl) rfl (parseE hb8) ?_
  rintro _ w9 ⟨cs9, x9, e9, rfl, q9, ep, E9⟩
  rw [parse_more hm] at ep
  cases ep
  have hl9 : cs9.length = 54 := rplR.len q9
  replace hp := hp.ext E9
  refine so ?_
  refine Alo hp (h := fun g11 w10 hp E10 => ?_)
  refine Hs 0 hp (xs := cs9) (ds := cs9) (hc := ⟨rfl⟩) (hk := hl9) (hl := by rw [hl9]; exact leB_) (h1 := rplR.one q9) (hq := putL_all (by rw [hl9]; rfl)) (h := fun w11 hp C11 => ?_)
  refine so ?_
  refine Cl_ (xs := []) (by kernel_rfl) rfl lAwake_ok ?_
  rintro _ w12 ⟨rfl, E12⟩
  refine so ?_
  refine Pt ?_
  exact ⟨_, rfl, rfl, (hp.ext E12).chg⟩
 ·have hbx : bytesS r = ([], 2) := if_neg hm
  rw [hbx] at ho2 ⊢
  replace hp := hp.ext E2
  refine so ?_
  refine Cd ?_ ?_ <;> intro hc
  ·refine so ?_
   refine Cl_ (xs := []) (by kernel_rfl) rfl lAwake_ok ?_
   rintro _ w4 ⟨rfl, E4⟩
   refine so ?_
   refine Pt ?_
   exact ⟨_, rfl, rfl, (hp.ext E4).chg⟩
  ·exact absurd (show (2 : Int) ≠ 0 by decide) hc
end Go.Proofs.YtmbpneaibmldfaaGreat
namespace Go.Proofs.YtmbpneaibmldfaaGreat
open Go.ChangeShapes Go.WideShapes Go.ChangeAt Go.RowKit Go.Eng Go.Eng _root_.Go.Proofs.Tryz
set_option maxRecDepth 100000
variable {w0 w : World} {M0 Fz : Nat → Prop} {H : List It} {A : Option Addr} {c : Nat}
set_option maxRecDepth 100000 in
theorem imageShortU_lifted (os : Os) (started : os.Started) (H : Type) (enc : TypeId × Value → H) (F : Stop.Interp) :
    ReturnsInHanded {} Tryz.checked os 8 .any ((Rows.OpenSpec.upto Rows.imageShortSpec).pre6 enc prog f8 Rows.imageShortUptoRow.domain false) (((Rows.OpenSpec.upto Rows.imageShortSpec).at F).post enc prog f8 false true false false) := by
 refine law_liftedU (C := Tryz.checked) Tryz.own started (by kernel_rfl) func8
   (OpenSpec.witness (enc := enc) (C := Tryz.checked) (s := Rows.OpenSpec.upto Rows.imageShortSpec) (k := Rows.uptoSmall) rfl false ⟨#[], #[.agg #[iv 0, iv 0, iv 0, s0, iv 0, .bool false, iv 0, .int .u8 0, .int .u8 0, .int .u8 0, .int .u8 0, .int .u8 0, .int .u8 0, .int .u8 0, .int .u8 0, .int .u8 0, .int .u8 0, .int .u8 0, .int .u8 0, .int .u8 0, .int .u8 0, .int .u8 0, .int .u8 0, .int .u8 0, .int .u8 0, .int .u8 0, .int .u8 0, .int .u8 0, .int .u8 0, .int .u8 0, .int .u8 0, .int .u8 0, .int .u8 0, .int .u8 0, .int .u8 0, .int .u8 0, .int .u8 0, .int .u8 0, .int .u8 0, s0, s0, s0, iv 0, s0, .bool false, s0, .bool false, iv 0, iv 0, iv 0, s0, s0, s0, s0], iv 0, .int .u8 0], []⟩ 8 (by kernel_rfl) (by kernel_rfl) (by kernel_rfl)
     (x := ([.agg [.lit (Lit.int IntKind.i64 0), .lit (Lit.int IntKind.i64 0), .agg [.lit (Lit.int IntKind.i64 0), .nil], .agg [.lit (Lit.int IntKind.i64 0), .lit (.bool false), .agg [.lit (Lit.int IntKind.i64 0), .agg (List.replicate 32 (.lit (Lit.int IntKind.u8 0)))], .nil, .nil, .nil, .lit (Lit.int IntKind.i64 0), .nil, .lit (.bool false), .nil], .lit (.bool false), .agg [.lit (Lit.int IntKind.i64 0), .lit (Lit.int IntKind.i64 0), .lit (Lit.int IntKind.i64 0), .nil, .nil, .nil], .nil], .lit (Lit.int IntKind.i64 0), .lit (Lit.int IntKind.u8 0)], [], [])) (by kernel_rfl) rfl (by kernel_rfl))
   Tryz.laidOut (by kernel_rfl) rfl rfl underlying4 ?_ ?_
 intro ds hq
 obtain ⟨d0, t0, e0, q0⟩ := spec_len (show ds.length = 3 from hq)
 obtain ⟨d1, t1, e1, q1⟩ := spec_len (show t0.length = 2 from q0)
 obtain ⟨d2, t2, e2, q2⟩ := spec_len (show t1.length = 1 from q1)
 have en:=List.eq_nil_of_length_eq_zero (show t2.length = 0 from q2)
 subst en
 subst e2
 subst e1
 subst e0
 rfl
 intro W base args ds h hbulk
 obtain ⟨l⟩ := args
 rw [params8] at h
 obtain ⟨v0, l0, d0, ds0, rfl, rfl, h0, h⟩ := args_consD h
 obtain ⟨v1, l1, d1, ds1, rfl, rfl, h1, h⟩ := args_consD h
 obtain ⟨v2, l2, d2, ds2, rfl, rfl, h2, h⟩ := args_consD h
 obtain rfl := args_nil h
 clear h
 have hb0 : blkD d0 ≤ 1048576 := blk_hd hbulk
 have hk0:=h0
 obtain ⟨cs0, x0, rfl, hn, hg0⟩ := arg_struct underlying38 reads_Rpl h0
 have hz0:=size_Rpl hk0 hn hb0
 obtain ⟨n1, rfl, lo1, hi1⟩ := arg_int underlying3 h1
 obtain ⟨b2, rfl⟩ := arg_byte underlying5 h2
 exact imageShort_ok hn ⟨lo1, hi1⟩ hg0.2 hz0
theorem imageShortUpto_holds : Rows.ImageShortUptoSaid :=
 OpenClaim.holds_of_cond 8 Tryz.f8 rfl rfl rfl rfl rfl rfl rfl ⟨rfl, rfl, rfl, rfl, rfl⟩ rfl rfl rfl rfl rfl (by kernel_rfl) Tryz.func8 (by kernel_rfl)
  (of_decide_eq_true (by kernel_rfl)) (by unfold Func.isWrapper; first | (rw [if_pos (by decide +kernel)]; kernel_rfl) | (rw [if_neg (by decide +kernel)]; exact ⟨rfl, rfl⟩))
  (fun os started H enc _ F => imageShortU_lifted os started H enc F)
end Go.Proofs.YtmbpneaibmldfaaGreat
