/- ImageSame is true: what the program answers is what the statement says, for every argument (no further condition). -/
import Derived.Test.YtmbpneaibmldfaaGreatBaa
import Derived.Test.YtmbpneaibmldfaaGreatAaa
import Derived.Test.YtmbpneaibmldfaaGreatAab
import Derived.Test.YtmbpneaibmldfaaGreatAac
import Derived.Test.YtmbpneaibmldfaaGreatAad
import Derived.Test.YtmbpneaibmldfaaGreatAaf
import Derived.Test.YtmbpneaibmldfaaGreatAag
import Derived.Test.YtmbpneaibmldfaaGreatAai
import Derived.Test.YtmbpneaibmldfaaGreatAaj
import Derived.Test.YtmbpneaibmldfaaGreatAak
import Derived.Test.YtmbpneaibmldfaaGreatAap
import Derived.Test.YtmbpneaibmldfaaGreatAaq
import Derived.Test.YtmbpneaibmldfaaGreatAas
import Derived.Test.YtmbpneaibmldfaaGreatAat
import Derived.Test.YtmbpneaibmldfaaGreatAav
import Derived.Test.YtmbpneaibmldfaaGreatAbb
import Derived.Test.YtmbpneaibmldfaaGreatAbc
namespace Go.Proofs.YtmbpneaibmldfaaGreat
open Go.ChangeShapes Go.WideShapes Go.ChangeAt Go.RowKit Go.Eng Go.Eng _root_.Go.Proofs.Tryz
set_option maxRecDepth 100000
variable {w0 w : World} {M0 Fz : Nat → Prop} {H : List It} {A : Option Addr} {c : Nat}
theorem Tryz.ce3 : Tryz.prog.cellsOf 3 = 1 := by kernel_rfl
theorem Tryz.ce5 : Tryz.prog.cellsOf 5 = 1 := by kernel_rfl
theorem Tryz.ce26 : Tryz.prog.cellsOf 26 = 32 := by kernel_rfl
theorem reads_t26 : ReadsR Tryz.prog 26 digR (fun _ => True) := reads_digest (e := 5) Tryz.underlying26 Tryz.underlying5 Tryz.ce5 Tryz.ce26
theorem Tryz.by5 : Tryz.prog.bytesOf 5 = 1 := by kernel_rfl
theorem reads_t36 : ReadsR Tryz.prog 36 (sliceR byteR) (fun l => l.length * 1 ≤ 140737488355328) := fun H enc w base sp held fuel cs x h hl hw => by
 obtain ⟨v, h1, h2⟩ := reads_slice (size := 1) (bytes := 1) Tryz.underlying36 rfl (by decide) Tryz.ce5 Tryz.by5 (by decide) (reads_byte Tryz.underlying5) H enc w base sp held fuel cs x h hl hw
 exact ⟨v, h1, h2.2⟩
theorem Tryz.ce36 : Tryz.prog.cellsOf 36 = 1 := by kernel_rfl
theorem Tryz.by3 : Tryz.prog.bytesOf 3 = 8 := by kernel_rfl
theorem reads_t22 : ReadsR Tryz.prog 22 (sliceR intR) (fun l => (∀ x ∈ l, -9223372036854775808 ≤ x ∧ x ≤ 9223372036854775807) ∧ l.length * 8 ≤ 140737488355328) := fun H enc w base sp held fuel cs x h hl hw => by
 obtain ⟨v, h1, h2⟩ := reads_slice (size := 1) (bytes := 8) Tryz.underlying22 rfl (by decide) Tryz.ce3 Tryz.by3 (by decide) (reads_int Tryz.underlying3) H enc w base sp held fuel cs x h hl hw
 exact ⟨v, h1, h2⟩
theorem Tryz.ce22 : Tryz.prog.cellsOf 22 = 1 := by kernel_rfl
theorem Tryz.ce112 : Tryz.prog.cellsOf 112 = 10 := by kernel_rfl
theorem reads_Wsh : ReadsR Tryz.prog 112 wishR (fun _ => True) := by
  intro H enc w base sp held fuel cs x h hlt hw
  have hlen := trod_structLen Tryz.underlying112 h
  rw [Tryz.ce112] at hlen
  obtain ⟨v0, h0, g0⟩ := reads_field Tryz.underlying112 (i := 0) rfl (reads_int Tryz.underlying3) h hlt hw
  replace h0 : intR.rd _ _ ((cs.drop 0).take (Tryz.prog.cellsOf 3)) v0 := h0
  rw [Tryz.ce3] at h0
  have e0 : (cs.drop 0).take 1 = [.int .i64 v0] := h0
  obtain ⟨v1, h1, g1⟩ := reads_field Tryz.underlying112 (i := 1) rfl (reads_int Tryz.underlying3) h hlt hw
  replace h1 : intR.rd _ _ ((cs.drop 1).take (Tryz.prog.cellsOf 3)) v1 := h1
  rw [Tryz.ce3] at h1
  have e1 : (cs.drop 1).take 1 = [.int .i64 v1] := h1
  obtain ⟨v2, h2, g2⟩ := reads_field Tryz.underlying112 (i := 2) rfl (reads_int Tryz.underlying3) h hlt hw
  replace h2 : intR.rd _ _ ((cs.drop 2).take (Tryz.prog.cellsOf 3)) v2 := h2
  rw [Tryz.ce3] at h2
  have e2 : (cs.drop 2).take 1 = [.int .i64 v2] := h2
  obtain ⟨v3, h3, g3⟩ := reads_field Tryz.underlying112 (i := 3) rfl (reads_int Tryz.underlying3) h hlt hw
  replace h3 : intR.rd _ _ ((cs.drop 3).take (Tryz.prog.cellsOf 3)) v3 := h3
  rw [Tryz.ce3] at h3
  have e3 : (cs.drop 3).take 1 = [.int .i64 v3] := h3
  obtain ⟨v4, h4, g4⟩ := reads_field Tryz.underlying112 (i := 4) rfl (reads_int Tryz.underlying3) h hlt hw
  replace h4 : intR.rd _ _ ((cs.drop 4).take (Tryz.prog.cellsOf 3)) v4 := h4
  rw [Tryz.ce3] at h4
  have e4 : (cs.drop 4).take 1 = [.int .i64 v4] := h4
  obtain ⟨v5, h5, g5⟩ := reads_field Tryz.underlying112 (i := 5) rfl (reads_int Tryz.underlying3) h hlt hw
  replace h5 : intR.rd _ _ ((cs.drop 5).take (Tryz.prog.cellsOf 3)) v5 := h5
  rw [Tryz.ce3] at h5
  have e5 : (cs.drop 5).take 1 = [.int .i64 v5] := h5
  obtain ⟨v6, h6, g6⟩ := reads_field Tryz.underlying112 (i := 6) rfl reads_t36 h hlt hw
  replace h6 : (sliceR byteR).rd _ _ ((cs.drop 6).take (Tryz.prog.cellsOf 36)) v6 := h6
  rw [Tryz.ce36] at h6
  obtain ⟨A6, c6, e6, k6⟩ := h6
  obtain ⟨v7, h7, g7⟩ := reads_field Tryz.underlying112 (i := 7) rfl (reads_int Tryz.underlying3) h hlt hw
  replace h7 : intR.rd _ _ ((cs.drop 7).take (Tryz.prog.cellsOf 3)) v7 := h7
  rw [Tryz.ce3] at h7
  have e7 : (cs.drop 7).take 1 = [.int .i64 v7] := h7
  obtain ⟨v8, h8, g8⟩ := reads_field Tryz.underlying112 (i := 8) rfl (reads_int Tryz.underlying3) h hlt hw
  replace h8 : intR.rd _ _ ((cs.drop 8).take (Tryz.prog.cellsOf 3)) v8 := h8
  rw [Tryz.ce3] at h8
  have e8 : (cs.drop 8).take 1 = [.int .i64 v8] := h8
  obtain ⟨v9, h9, g9⟩ := reads_field Tryz.underlying112 (i := 9) rfl reads_t22 h hlt hw
  replace h9 : (sliceR intR).rd _ _ ((cs.drop 9).take (Tryz.prog.cellsOf 22)) v9 := h9
  rw [Tryz.ce22] at h9
  obtain ⟨A9, c9, e9, k9⟩ := h9
  have e := (List.drop_zero (l := cs)).symm
  rw [seg_cons (m := 1) rfl e0] at e
  rw [seg_cons (m := 2) rfl e1] at e
  rw [seg_cons (m := 3) rfl e2] at e
  rw [seg_cons (m := 4) rfl e3] at e
  rw [seg_cons (m := 5) rfl e4] at e
  rw [seg_cons (m := 6) rfl e5] at e
  rw [seg_cons (m := 7) rfl e6] at e
  rw [seg_cons (m := 8) rfl e7] at e
  rw [seg_cons (m := 9) rfl e8] at e
  rw [seg_cons (m := 10) rfl e9] at e
  rw [List.drop_eq_nil_of_le (by rw [hlen]; exact Nat.le_refl _)] at e
  refine ⟨{ client := v0, stamp := v1, group := v2, epoch := v3, kind := v4, block := v5, data := v6, old := v7, new := v8, next := v9 }, ?_, trivial⟩
  refine ⟨by unfold WshI i64; dsimp only; omega, _, _, _, _, e.trans (by (try simp only [List.cons_append, List.nil_append, List.append_nil]); try rfl), k6, k9⟩
theorem Tryz.by112 : Tryz.prog.bytesOf 112 = 112 := by kernel_rfl
theorem reads_t84 : ReadsR Tryz.prog 84 (sliceR wishR) (fun l => l.length * 112 ≤ 140737488355328) := fun H enc w base sp held fuel cs x h hl hw => by
 obtain ⟨v, h1, h2⟩ := reads_slice (size := 10) (bytes := 112) Tryz.underlying84 rfl (by decide) Tryz.ce112 Tryz.by112 (by decide) reads_Wsh H enc w base sp held fuel cs x h hl hw
 exact ⟨v, h1, h2.2⟩
theorem Tryz.ce84 : Tryz.prog.cellsOf 84 = 1 := by kernel_rfl
theorem Tryz.ce28 : Tryz.prog.cellsOf 28 = 33 := by kernel_rfl
theorem reads_Mrk : ReadsR Tryz.prog 28 markR (fun _ => True) := by
 intro H enc w base sp held fuel cs x h hlt hw
 have hlen := trod_structLen Tryz.underlying28 h
 rw [Tryz.ce28] at hlen
 obtain ⟨v0, h0, g0⟩ := reads_field Tryz.underlying28 (i := 0) rfl (reads_int Tryz.underlying3) h hlt hw
 replace h0 : intR.rd _ _ ((cs.drop 0).take (Tryz.prog.cellsOf 3)) v0 := h0
 rw [Tryz.ce3] at h0
 have e0 : (cs.drop 0).take 1 = [.int .i64 v0] := h0
 obtain ⟨v1, h1, g1⟩ := reads_field Tryz.underlying28 (i := 1) rfl reads_t26 h hlt hw
 replace h1 : digR.rd _ _ ((cs.drop 1).take (Tryz.prog.cellsOf 26)) v1 := h1
 rw [Tryz.ce26] at h1
 have e1 : (cs.drop 1).take 32 = digC v1 := h1
 have e := (List.drop_zero (l := cs)).symm
 rw [seg_cons (m := 1) rfl e0] at e
 rw [seg_cons (m := 33) rfl e1] at e
 rw [List.drop_eq_nil_of_le (by rw [hlen]; exact Nat.le_refl _)] at e
 refine ⟨{ seq := v0, dig := v1 }, ?_, trivial⟩
 refine ⟨by unfold MrkI i64; dsimp only; omega, e.trans (by (try simp only [List.cons_append, List.nil_append, List.append_nil]); try rfl)⟩
theorem Tryz.by28 : Tryz.prog.bytesOf 28 = 40 := by kernel_rfl
theorem reads_t29 : ReadsR Tryz.prog 29 (sliceR markR) (fun l => l.length * 40 ≤ 140737488355328) := fun H enc w base sp held fuel cs x h hl hw => by
 obtain ⟨v, h1, h2⟩ := reads_slice (size := 33) (bytes := 40) Tryz.underlying29 rfl (by decide) Tryz.ce28 Tryz.by28 (by decide) reads_Mrk H enc w base sp held fuel cs x h hl hw
 exact ⟨v, h1, h2.2⟩
theorem Tryz.ce29 : Tryz.prog.cellsOf 29 = 1 := by kernel_rfl
theorem Tryz.ce110 : Tryz.prog.cellsOf 110 = 34 := by kernel_rfl
theorem reads_Stn : ReadsR Tryz.prog 110 standR (fun _ => True) := by
 intro H enc w base sp held fuel cs x h hlt hw
 have hlen := trod_structLen Tryz.underlying110 h
 rw [Tryz.ce110] at hlen
 obtain ⟨v0, h0, g0⟩ := reads_field Tryz.underlying110 (i := 0) rfl (reads_int Tryz.underlying3) h hlt hw
 replace h0 : intR.rd _ _ ((cs.drop 0).take (Tryz.prog.cellsOf 3)) v0 := h0
 rw [Tryz.ce3] at h0
 have e0 : (cs.drop 0).take 1 = [.int .i64 v0] := h0
 obtain ⟨v1, h1, g1⟩ := reads_field Tryz.underlying110 (i := 1) rfl reads_t26 h hlt hw
 replace h1 : digR.rd _ _ ((cs.drop 1).take (Tryz.prog.cellsOf 26)) v1 := h1
 rw [Tryz.ce26] at h1
 have e1 : (cs.drop 1).take 32 = digC v1 := h1
 obtain ⟨v2, h2, g2⟩ := reads_field Tryz.underlying110 (i := 2) rfl (reads_int Tryz.underlying3) h hlt hw
 replace h2 : intR.rd _ _ ((cs.drop 33).take (Tryz.prog.cellsOf 3)) v2 := h2
 rw [Tryz.ce3] at h2
 have e2 : (cs.drop 33).take 1 = [.int .i64 v2] := h2
 have e := (List.drop_zero (l := cs)).symm
 rw [seg_cons (m := 1) rfl e0] at e
 rw [seg_cons (m := 33) rfl e1] at e
 rw [seg_cons (m := 34) rfl e2] at e
 rw [List.drop_eq_nil_of_le (by rw [hlen]; exact Nat.le_refl _)] at e
 refine ⟨{ seq := v0, dig := v1, view := v2 }, ?_, trivial⟩
 refine ⟨by unfold StnI i64; dsimp only; omega, e.trans (by (try simp only [List.cons_append, List.nil_append, List.append_nil]); try rfl)⟩
theorem Tryz.by110 : Tryz.prog.bytesOf 110 = 48 := by kernel_rfl
theorem reads_t30 : ReadsR Tryz.prog 30 (sliceR standR) (fun l => l.length * 48 ≤ 140737488355328) := fun H enc w base sp held fuel cs x h hl hw => by
 obtain ⟨v, h1, h2⟩ := reads_slice (size := 34) (bytes := 48) Tryz.underlying30 rfl (by decide) Tryz.ce110 Tryz.by110 (by decide) reads_Stn H enc w base sp held fuel cs x h hl hw
 exact ⟨v, h1, h2.2⟩
theorem Tryz.ce30 : Tryz.prog.cellsOf 30 = 1 := by kernel_rfl
theorem Tryz.ce35 : Tryz.prog.cellsOf 35 = 6 := by kernel_rfl
theorem reads_Chn : ReadsR Tryz.prog 35 changeR (fun _ => True) := by
  intro H enc w base sp held fuel cs x h hlt hw
  have hlen := trod_structLen Tryz.underlying35 h
  rw [Tryz.ce35] at hlen
  obtain ⟨v0, h0, g0⟩ := reads_field Tryz.underlying35 (i := 0) rfl (reads_int Tryz.underlying3) h hlt hw
  replace h0 : intR.rd _ _ ((cs.drop 0).take (Tryz.prog.cellsOf 3)) v0 := h0
  rw [Tryz.ce3] at h0
  have e0 : (cs.drop 0).take 1 = [.int .i64 v0] := h0
  obtain ⟨v1, h1, g1⟩ := reads_field Tryz.underlying35 (i := 1) rfl (reads_int Tryz.underlying3) h hlt hw
  replace h1 : intR.rd _ _ ((cs.drop 1).take (Tryz.prog.cellsOf 3)) v1 := h1
  rw [Tryz.ce3] at h1
  have e1 : (cs.drop 1).take 1 = [.int .i64 v1] := h1
  obtain ⟨v2, h2, g2⟩ := reads_field Tryz.underlying35 (i := 2) rfl (reads_int Tryz.underlying3) h hlt hw
  replace h2 : intR.rd _ _ ((cs.drop 2).take (Tryz.prog.cellsOf 3)) v2 := h2
  rw [Tryz.ce3] at h2
  have e2 : (cs.drop 2).take 1 = [.int .i64 v2] := h2
  obtain ⟨v3, h3, g3⟩ := reads_field Tryz.underlying35 (i := 3) rfl reads_t29 h hlt hw
  replace h3 : (sliceR markR).rd _ _ ((cs.drop 3).take (Tryz.prog.cellsOf 29)) v3 := h3
  rw [Tryz.ce29] at h3
  obtain ⟨A3, c3, e3, k3⟩ := h3
  obtain ⟨v4, h4, g4⟩ := reads_field Tryz.underlying35 (i := 4) rfl reads_t30 h hlt hw
  replace h4 : (sliceR standR).rd _ _ ((cs.drop 4).take (Tryz.prog.cellsOf 30)) v4 := h4
  rw [Tryz.ce30] at h4
  obtain ⟨A4, c4, e4, k4⟩ := h4
  obtain ⟨v5, h5, g5⟩ := reads_field Tryz.underlying35 (i := 5) rfl reads_t30 h hlt hw
  replace h5 : (sliceR standR).rd _ _ ((cs.drop 5).take (Tryz.prog.cellsOf 30)) v5 := h5
  rw [Tryz.ce30] at h5
  obtain ⟨A5, c5, e5, k5⟩ := h5
  have e := (List.drop_zero (l := cs)).symm
  rw [seg_cons (m := 1) rfl e0] at e
  rw [seg_cons (m := 2) rfl e1] at e
  rw [seg_cons (m := 3) rfl e2] at e
  rw [seg_cons (m := 4) rfl e3] at e
  rw [seg_cons (m := 5) rfl e4] at e
  rw [seg_cons (m := 6) rfl e5] at e
  rw [List.drop_eq_nil_of_le (by rw [hlen]; exact Nat.le_refl _)] at e
  refine ⟨{ node := v0, view := v1, low := v2, marks := v3, p := v4, q := v5 }, ?_, trivial⟩
  refine ⟨by unfold ChnI i64; dsimp only; omega, _, _, _, _, _, _, e.trans (by (try simp only [List.cons_append, List.nil_append, List.append_nil]); try rfl), k3, k4, k5⟩
theorem Tryz.ce24 : Tryz.prog.cellsOf 24 = 2 := by kernel_rfl
theorem reads_Crw : ReadsR Tryz.prog 24 crewR (fun x => ∀ y ∈ x.nodes, -9223372036854775808 ≤ y ∧ y ≤ 9223372036854775807) := by
 intro H enc w base sp held fuel cs x h hlt hw
 have hlen := trod_structLen Tryz.underlying24 h
 rw [Tryz.ce24] at hlen
 obtain ⟨v0, h0, g0⟩ := reads_field Tryz.underlying24 (i := 0) rfl (reads_int Tryz.underlying3) h hlt hw
 replace h0 : intR.rd _ _ ((cs.drop 0).take (Tryz.prog.cellsOf 3)) v0 := h0
 rw [Tryz.ce3] at h0
 have e0 : (cs.drop 0).take 1 = [.int .i64 v0] := h0
 obtain ⟨v1, h1, g1⟩ := reads_field Tryz.underlying24 (i := 1) rfl reads_t22 h hlt hw
 replace h1 : (sliceR intR).rd _ _ ((cs.drop 1).take (Tryz.prog.cellsOf 22)) v1 := h1
 rw [Tryz.ce22] at h1
 obtain ⟨A1, c1, e1, k1⟩ := h1
 have e := (List.drop_zero (l := cs)).symm
 rw [seg_cons (m := 1) rfl e0] at e
 rw [seg_cons (m := 2) rfl e1] at e
 rw [List.drop_eq_nil_of_le (by rw [hlen]; exact Nat.le_refl _)] at e
 refine ⟨{ faults := v0, nodes := v1 }, ?_, g1.1⟩
 refine ⟨by unfold CrwI i64; dsimp only; omega, _, _, e.trans (by (try simp only [List.cons_append, List.nil_append, List.append_nil]); try rfl), k1⟩
theorem Tryz.ce4 : Tryz.prog.cellsOf 4 = 1 := by kernel_rfl
theorem Tryz.ce89 : Tryz.prog.cellsOf 89 = 33 := by kernel_rfl
theorem reads_Bat : ReadsR Tryz.prog 89 batR (fun _ => True) := by
 intro H enc w base sp held fuel cs x h hlt hw
 have hlen := trod_structLen Tryz.underlying89 h
 rw [Tryz.ce89] at hlen
 obtain ⟨v0, h0, g0⟩ := reads_field Tryz.underlying89 (i := 0) rfl reads_t26 h hlt hw
 replace h0 : digR.rd _ _ ((cs.drop 0).take (Tryz.prog.cellsOf 26)) v0 := h0
 rw [Tryz.ce26] at h0
 have e0 : (cs.drop 0).take 32 = digC v0 := h0
 obtain ⟨v1, h1, g1⟩ := reads_field Tryz.underlying89 (i := 1) rfl reads_t84 h hlt hw
 replace h1 : (sliceR wishR).rd _ _ ((cs.drop 32).take (Tryz.prog.cellsOf 84)) v1 := h1
 rw [Tryz.ce84] at h1
 obtain ⟨A1, c1, e1, k1⟩ := h1
 have e := (List.drop_zero (l := cs)).symm
 rw [seg_cons (m := 32) rfl e0] at e
 rw [seg_cons (m := 33) rfl e1] at e
 rw [List.drop_eq_nil_of_le (by rw [hlen]; exact Nat.le_refl _)] at e
 refine ⟨{ dig := v0, wishes := v1 }, ?_, trivial⟩
 refine ⟨_, _, e.trans (by (try simp only [List.append_nil]); try rfl), k1⟩
theorem Tryz.by89 : Tryz.prog.bytesOf 89 = 56 := by kernel_rfl
theorem reads_t31 : ReadsR Tryz.prog 31 (sliceR batR) (fun l => l.length * 56 ≤ 140737488355328) := fun H enc w base sp held fuel cs x h hl hw => by
 obtain ⟨v, h1, h2⟩ := reads_slice (size := 33) (bytes := 56) Tryz.underlying31 rfl (by decide) Tryz.ce89 Tryz.by89 (by decide) reads_Bat H enc w base sp held fuel cs x h hl hw
 exact ⟨v, h1, h2.2⟩
theorem Tryz.ce31 : Tryz.prog.cellsOf 31 = 1 := by kernel_rfl
theorem Tryz.ce33 : Tryz.prog.cellsOf 33 = 42 := by kernel_rfl
theorem reads_Img : ReadsR Tryz.prog 33 imgR (fun x => x.batches.length * 56 ≤ 140737488355328) := by
  intro H enc w base sp held fuel cs x h hlt hw
  have hlen := trod_structLen Tryz.underlying33 h
  rw [Tryz.ce33] at hlen
  obtain ⟨v0, h0, g0⟩ := reads_field Tryz.underlying33 (i := 0) rfl (reads_int Tryz.underlying3) h hlt hw
  replace h0 : intR.rd _ _ ((cs.drop 0).take (Tryz.prog.cellsOf 3)) v0 := h0
  rw [Tryz.ce3] at h0
  have e0 : (cs.drop 0).take 1 = [.int .i64 v0] := h0
  obtain ⟨v1, h1, g1⟩ := reads_field Tryz.underlying33 (i := 1) rfl (reads_bool Tryz.underlying4) h hlt hw
  replace h1 : boolR.rd _ _ ((cs.drop 1).take (Tryz.prog.cellsOf 4)) v1 := h1
  rw [Tryz.ce4] at h1
  have e1 : (cs.drop 1).take 1 = [.bool v1] := h1
  obtain ⟨v2, h2, g2⟩ := reads_field Tryz.underlying33 (i := 2) rfl reads_Mrk h hlt hw
  replace h2 : markR.rd _ _ ((cs.drop 2).take (Tryz.prog.cellsOf 28)) v2 := h2
  rw [Tryz.ce28] at h2
  obtain ⟨I2, e2⟩ := h2
  unfold MrkI i64 at I2
  obtain ⟨v3, h3, g3⟩ := reads_field Tryz.underlying33 (i := 3) rfl reads_t29 h hlt hw
  replace h3 : (sliceR markR).rd _ _ ((cs.drop 35).take (Tryz.prog.cellsOf 29)) v3 := h3
  rw [Tryz.ce29] at h3
  obtain ⟨A3, c3, e3, k3⟩ := h3
  obtain ⟨v4, h4, g4⟩ := reads_field Tryz.underlying33 (i := 4) rfl reads_t30 h hlt hw
  replace h4 : (sliceR standR).rd _ _ ((cs.drop 36).take (Tryz.prog.cellsOf 30)) v4 := h4
  rw [Tryz.ce30] at h4
  obtain ⟨A4, c4, e4, k4⟩ := h4
  obtain ⟨v5, h5, g5⟩ := reads_field Tryz.underlying33 (i := 5) rfl reads_t30 h hlt hw
  replace h5 : (sliceR standR).rd _ _ ((cs.drop 37).take (Tryz.prog.cellsOf 30)) v5 := h5
  rw [Tryz.ce30] at h5
  obtain ⟨A5, c5, e5, k5⟩ := h5
  obtain ⟨v6, h6, g6⟩ := reads_field Tryz.underlying33 (i := 6) rfl (reads_int Tryz.underlying3) h hlt hw
  replace h6 : intR.rd _ _ ((cs.drop 38).take (Tryz.prog.cellsOf 3)) v6 := h6
  rw [Tryz.ce3] at h6
  have e6 : (cs.drop 38).take 1 = [.int .i64 v6] := h6
  obtain ⟨v7, h7, g7⟩ := reads_field Tryz.underlying33 (i := 7) rfl reads_t29 h hlt hw
  replace h7 : (sliceR markR).rd _ _ ((cs.drop 39).take (Tryz.prog.cellsOf 29)) v7 := h7
  rw [Tryz.ce29] at h7
  obtain ⟨A7, c7, e7, k7⟩ := h7
  obtain ⟨v8, h8, g8⟩ := reads_field Tryz.underlying33 (i := 8) rfl (reads_bool Tryz.underlying4) h hlt hw
  replace h8 : boolR.rd _ _ ((cs.drop 40).take (Tryz.prog.cellsOf 4)) v8 := h8
  rw [Tryz.ce4] at h8
  have e8 : (cs.drop 40).take 1 = [.bool v8] := h8
  obtain ⟨v9, h9, g9⟩ := reads_field Tryz.underlying33 (i := 9) rfl reads_t31 h hlt hw
  replace h9 : (sliceR batR).rd _ _ ((cs.drop 41).take (Tryz.prog.cellsOf 31)) v9 := h9
  rw [Tryz.ce31] at h9
  obtain ⟨A9, c9, e9, k9⟩ := h9
  have e := (List.drop_zero (l := cs)).symm
  rw [seg_cons (m := 1) rfl e0] at e
  rw [seg_cons (m := 2) rfl e1] at e
  rw [seg_cons (m := 35) rfl e2] at e
  rw [seg_cons (m := 36) rfl e3] at e
  rw [seg_cons (m := 37) rfl e4] at e
  rw [seg_cons (m := 38) rfl e5] at e
  rw [seg_cons (m := 39) rfl e6] at e
  rw [seg_cons (m := 40) rfl e7] at e
  rw [seg_cons (m := 41) rfl e8] at e
  rw [seg_cons (m := 42) rfl e9] at e
  rw [List.drop_eq_nil_of_le (by rw [hlen]; exact Nat.le_refl _)] at e
  refine ⟨{ view := v0, active := v1, low := v2, own := v3, p := v4, q := v5, ran := v6, done := v7, ended := v8, batches := v9 }, ?_, g9⟩
  refine ⟨by unfold ImgI i64; dsimp only; omega, _, _, _, _, _, _, _, _, _, _, e.trans (by (try simp only [List.cons_append, List.nil_append, List.append_nil]); try rfl), k3, k4, k5, k7, k9⟩
theorem Tryz.ce38 : Tryz.prog.cellsOf 38 = 54 := by kernel_rfl
theorem reads_Rpl : ReadsR Tryz.prog 38 rplR (fun x => x.img.batches.length * 56 ≤ 140737488355328 ∧ ∀ y ∈ x.nodes, -9223372036854775808 ≤ y ∧ y ≤ 9223372036854775807) := by
  intro H enc w base sp held fuel cs x h hlt hw
  have hlen := trod_structLen Tryz.underlying38 h
  rw [Tryz.ce38] at hlen
  obtain ⟨v0, h0, g0⟩ := reads_field Tryz.underlying38 (i := 0) rfl (reads_int Tryz.underlying3) h hlt hw
  replace h0 : intR.rd _ _ ((cs.drop 0).take (Tryz.prog.cellsOf 3)) v0 := h0
  rw [Tryz.ce3] at h0
  have e0 : (cs.drop 0).take 1 = [.int .i64 v0] := h0
  obtain ⟨v1, h1, g1⟩ := reads_field Tryz.underlying38 (i := 1) rfl (reads_int Tryz.underlying3) h hlt hw
  replace h1 : intR.rd _ _ ((cs.drop 1).take (Tryz.prog.cellsOf 3)) v1 := h1
  rw [Tryz.ce3] at h1
  have e1 : (cs.drop 1).take 1 = [.int .i64 v1] := h1
  obtain ⟨v2, h2, g2⟩ := reads_field Tryz.underlying38 (i := 2) rfl reads_Crw h hlt hw
  replace h2 : crewR.rd _ _ ((cs.drop 2).take (Tryz.prog.cellsOf 24)) v2 := h2
  rw [Tryz.ce24] at h2
  obtain ⟨I2, A2_0, c2_0, e2, k2_0⟩ := h2
  unfold CrwI i64 at I2
  obtain ⟨v3, h3, g3⟩ := reads_field Tryz.underlying38 (i := 3) rfl reads_Img h hlt hw
  replace h3 : imgR.rd _ _ ((cs.drop 4).take (Tryz.prog.cellsOf 33)) v3 := h3
  rw [Tryz.ce33] at h3
  obtain ⟨I3, A3_0, c3_0, A3_1, c3_1, A3_2, c3_2, A3_3, c3_3, A3_4, c3_4, e3, k3_0, k3_1, k3_2, k3_3, k3_4⟩ := h3
  unfold ImgI i64 at I3
  obtain ⟨v4, h4, g4⟩ := reads_field Tryz.underlying38 (i := 4) rfl (reads_bool Tryz.underlying4) h hlt hw
  replace h4 : boolR.rd _ _ ((cs.drop 46).take (Tryz.prog.cellsOf 4)) v4 := h4
  rw [Tryz.ce4] at h4
  have e4 : (cs.drop 46).take 1 = [.bool v4] := h4
  obtain ⟨v5, h5, g5⟩ := reads_field Tryz.underlying38 (i := 5) rfl reads_Chn h hlt hw
  replace h5 : changeR.rd _ _ ((cs.drop 47).take (Tryz.prog.cellsOf 35)) v5 := h5
  rw [Tryz.ce35] at h5
  obtain ⟨I5, A5_0, c5_0, A5_1, c5_1, A5_2, c5_2, e5, k5_0, k5_1, k5_2⟩ := h5
  unfold ChnI i64 at I5
  obtain ⟨v6, h6, g6⟩ := reads_field Tryz.underlying38 (i := 6) rfl reads_t36 h hlt hw
  replace h6 : (sliceR byteR).rd _ _ ((cs.drop 53).take (Tryz.prog.cellsOf 36)) v6 := h6
  rw [Tryz.ce36] at h6
  obtain ⟨A6, c6, e6, k6⟩ := h6
  have e := (List.drop_zero (l := cs)).symm
  rw [seg_cons (m := 1) rfl e0] at e
  rw [seg_cons (m := 2) rfl e1] at e
  rw [seg_cons (m := 4) rfl e2] at e
  rw [seg_cons (m := 46) rfl e3] at e
  rw [seg_cons (m := 47) rfl e4] at e
  rw [seg_cons (m := 53) rfl e5] at e
  rw [seg_cons (m := 54) rfl e6] at e
  rw [List.drop_eq_nil_of_le (by rw [hlen]; exact Nat.le_refl _)] at e
  refine ⟨{ group := v0, epoch := v1, faults := v2.faults, nodes := v2.nodes, img := v3, left := v4, change := v5, state := v6 }, ?_, ⟨g3, g2⟩⟩
  refine ⟨by unfold RplI i64; dsimp only; omega, _, _, _, _, _, _, _, _, _, _, _, _, _, _, _, _, _, _, _, _, e.trans (by (try simp only [List.cons_append, List.nil_append, List.append_nil, List.append_assoc]); try rfl), k2_0, k3_0, k3_1, k3_2, k3_3, k3_4, k5_0, k5_1, k5_2, k6⟩
end Go.Proofs.YtmbpneaibmldfaaGreat
namespace Go.Proofs.YtmbpneaibmldfaaGreat
open Go.RowKit Go.Eng _root_.Go.Proofs.Tryz Go.Eng _root_.Go.Proofs.Tryz
set_option maxRecDepth 100000
variable {w0 w : World} {M0 Fz : Nat → Prop} {H : List It} {A : Option Addr} {c : Nat}
set_option maxHeartbeats 4000000 in
theorem imageSame_ok {w : World} {csa csb : List Value} {a b : Rpl} {Sa Sb : Nat → Prop} (ha : rplR.rd Sa w csa a) (hb : rplR.rd Sb w csb b) (hza : a.img.batches.length * 56 ≤ 140737488355328) (hzb : b.img.batches.length * 56 ≤ 140737488355328) : Ret prog 5 #[.agg csa.toArray, .agg csb.toArray] w (fun v w' => v = .bool true ∧ Ext w w') := by
 have hla : csa.length = 54 := rplR.len ha
 have hlb : csb.length = 54 := rplR.len hb
 have ra : ReadsU w csa a := rplR.mono (fun _ _ _ => trivial) ha
 have rb : ReadsU w csb b := rplR.mono (fun _ _ _ => trivial) hb
 refine ret_of_wk func5 rfl ntmps5 leB_ ?_
 have hp := HP.begin_ w
 refine so ?_
 refine Bx hp (h := fun g2 w1 hp E1 => so ?_)
 refine Bx hp (h := fun g3 wr hp E2 => so ?_)
 replace ra := rpl_ext (rpl_ext ra E1) E2
 replace rb := rpl_ext (rpl_ext rb E1) E2
 refine wdT 17 [.eq (.agg csa.toArray), .eq (.agg csb.toArray), .eq (.bool (decide (a = b))), .eq (.agg csa.toArray), rdU a, .eq (.agg csb.toArray), rdU b, .eq (.bool (decide (a = b))), .eq (.bool true), .eq (.bool true), .eq (.agg csa.toArray), .eq (.agg csa.toArray), .eq (.bool true), .eq (.bool true), .eq (.bool true), .eq (.bool true), .eq (.bool true)] ?_ ?_
 ·refine ⟨?_, ?_, ?_, ?_, ?_, ?_, ?_, ?_, ?_, ?_, ?_, ?_, ?_, ?_, ?_, ?_, ?_, trivial⟩ <;> intro F wF hER hk
  ·exact wl_hloadX csa (i := 1) (by decide) ag38 (hk.qi 2) (hp.ext hER) rfl hla (ld5 hla) qz
  ·exact wl_hloadX csb (i := 0) (by decide) ag38 (hk.qi 3) (hp.ext hER) rfl hlb (ld5 hlb) qz
  ·have e5 := hk.qe 0
   have e6 := hk.qe 1
   refine Cl_ (xs := [.tmp 5, .tmp 6]) (by kernel_rfl) (by simp only [evs, ev, e5, e6]) (iSame_ok (rpl_ext ra hER) (rpl_ext rb hER)) ?_
   rintro _ wc ⟨rfl, hEc⟩
   exact qz ⟨hEc, rfl⟩
  ·exact wl_hloadX csa (i := 1) (by decide) ag38 (hk.qi 2) (hp.ext hER) rfl hla (ld5 hla) qz
  ·have e8 := hk.qe 3
   refine Cl_ (xs := [.tmp 8]) (by kernel_rfl) (by simp only [evs, ev, e8]) (outE (rpl_ext ra hER) hza) ?_
   rintro _ wc ⟨cs, rfl, h, hEc⟩
   exact qz ⟨hEc, cs, rfl, h⟩
  ·exact wl_hloadX csb (i := 0) (by decide) ag38 (hk.qi 3) (hp.ext hER) rfl hlb (ld5 hlb) qz
  ·have e10 := hk.qe 5
   refine Cl_ (xs := [.tmp 10]) (by kernel_rfl) (by simp only [evs, ev, e10]) (outE (rpl_ext rb hER) hzb) ?_
   rintro _ wc ⟨cs, rfl, h, hEc⟩
   exact qz ⟨hEc, cs, rfl, h⟩
  ·obtain ⟨u9, e9, cs9, rfl, h9⟩ := hk.qp 4
   obtain ⟨u11, e11, cs11, rfl, h11⟩ := hk.qp 6
   refine Cl_ (xs := [.tmp 9, .tmp 11]) (by kernel_rfl) (by simp only [evs, ev, e9, e11]) (r22Same_ok h9 h11) ?_
   rintro _ wc ⟨rfl, hEc⟩
   exact qz ⟨hEc, rfl⟩
  ·exact wl_eqlb (by decide) (by kernel_rfl) (hk.qe 2) (hk.qe 7) (qz ⟨Chg.refl _ _, congrArg Value.bool (decide_eq_true rfl)⟩)
  ·exact dm (hk.qe 8)
  ·exact gy (hk.qe 9) (wl_hloadX csa (i := 1) (by decide) ag38 (hk.qi 2) (hp.ext hER) rfl hla (ld5 hla) qz)
  ·exact gy (hk.qe 9) (wl_hloadX csa (i := 1) (by decide) ag38 (hk.qi 2) (hp.ext hER) rfl hla (ld5 hla) qz)
  ·refine gy (hk.qe 9) ?_
   have e15 := hk.qe 10
   have e16 := hk.qe 11
   refine Cl_ (xs := [.tmp 15, .tmp 16]) (by kernel_rfl) (by simp only [evs, ev, e15, e16]) (iSame_ok (rpl_ext ra hER) (rpl_ext ra hER)) ?_
   rintro _ wc ⟨rfl, hEc⟩
   exact qz ⟨hEc, congrArg Value.bool (decide_eq_true rfl)⟩
  ·exact Pk_ (b := true) (hk.qe 9) (hk.qe 12) qz
  ·exact dm (hk.qe 13)
  ·refine gy (hk.qe 14) ?_
   refine Cl_ (xs := []) (by kernel_rfl) rfl lAwake_ok ?_
   rintro _ wc ⟨rfl, hEc⟩
   exact qz ⟨hEc, rfl⟩
  ·exact Pk_ (b := true) (hk.qe 14) (hk.qe 15) qz
 intro F wD hED hini hdo
 have e21 := dr hdo 16
 refine wl_drop [(21, _)] ⟨e21, trivial⟩ ?_
 refine so ?_
 refine Pt ?_
 exact ⟨_, rfl, rfl, (hp.ext hED).chg⟩
end Go.Proofs.YtmbpneaibmldfaaGreat
namespace Go.Proofs.YtmbpneaibmldfaaGreat
open Go.ChangeShapes Go.WideShapes Go.ChangeAt Go.RowKit Go.Eng Go.Eng _root_.Go.Proofs.Tryz
set_option maxRecDepth 100000
variable {w0 w : World} {M0 Fz : Nat → Prop} {H : List It} {A : Option Addr} {c : Nat}
set_option maxRecDepth 100000 in
theorem imageSame_lifted (os : Os) (started : os.Started) (H : Type) (enc : TypeId × Value → H) :
    ReturnsInHanded {} Tryz.checked os 5 .any (Rows.imageSameSpec.pre6 enc prog f5 Rows.imageSameRow.domain false) (Rows.imageSameSpec.post enc prog f5 false true false false) := by
 refine law_lifted (C := Tryz.checked) Tryz.own started (by kernel_rfl) func5
   (ChangeSpec.witness6 (enc := enc) (C := Tryz.checked) false ⟨#[], #[.agg #[iv 0, iv 0, iv 0, s0, iv 0, .bool false, iv 0, .int .u8 0, .int .u8 0, .int .u8 0, .int .u8 0, .int .u8 0, .int .u8 0, .int .u8 0, .int .u8 0, .int .u8 0, .int .u8 0, .int .u8 0, .int .u8 0, .int .u8 0, .int .u8 0, .int .u8 0, .int .u8 0, .int .u8 0, .int .u8 0, .int .u8 0, .int .u8 0, .int .u8 0, .int .u8 0, .int .u8 0, .int .u8 0, .int .u8 0, .int .u8 0, .int .u8 0, .int .u8 0, .int .u8 0, .int .u8 0, .int .u8 0, .int .u8 0, s0, s0, s0, iv 0, s0, .bool false, s0, .bool false, iv 0, iv 0, iv 0, s0, s0, s0, s0], .agg #[iv 0, iv 0, iv 0, s0, iv 0, .bool false, iv 0, .int .u8 0, .int .u8 0, .int .u8 0, .int .u8 0, .int .u8 0, .int .u8 0, .int .u8 0, .int .u8 0, .int .u8 0, .int .u8 0, .int .u8 0, .int .u8 0, .int .u8 0, .int .u8 0, .int .u8 0, .int .u8 0, .int .u8 0, .int .u8 0, .int .u8 0, .int .u8 0, .int .u8 0, .int .u8 0, .int .u8 0, .int .u8 0, .int .u8 0, .int .u8 0, .int .u8 0, .int .u8 0, .int .u8 0, .int .u8 0, .int .u8 0, .int .u8 0, s0, s0, s0, iv 0, s0, .bool false, s0, .bool false, iv 0, iv 0, iv 0, s0, s0, s0, s0]], []⟩ 8 (by kernel_rfl) (by kernel_rfl) (by kernel_rfl) (by kernel_rfl))
   Tryz.laidOut (by kernel_rfl) rfl rfl underlying4 ?_ ?_
 intro ds hq
 obtain ⟨d0, t0, e0, q0⟩ := spec_len (show ds.length = 2 from hq)
 obtain ⟨d1, t1, e1, q1⟩ := spec_len (show t0.length = 1 from q0)
 have en:=List.eq_nil_of_length_eq_zero (show t1.length = 0 from q1)
 subst en
 subst e1
 subst e0
 rfl
 intro W base args ds h
 obtain ⟨l⟩ := args
 rw [params5] at h
 obtain ⟨v0, l0, d0, ds0, rfl, h0, h⟩ := args_cons h
 obtain ⟨v1, l1, d1, ds1, rfl, h1, h⟩ := args_cons h
 obtain rfl := args_nil h
 clear h
 obtain ⟨cs0, x0, rfl, ha, hg0⟩ := arg_struct underlying38 reads_Rpl h0
 obtain ⟨cs1, x1, rfl, hb, hg1⟩ := arg_struct underlying38 reads_Rpl h1
 exact imageSame_ok ha hb hg0.1 hg1.1
theorem imageSame_holds : Rows.ImageSameSaid :=
 OpenClaim.holds_of_wide 5 Tryz.f5 rfl rfl rfl rfl rfl rfl rfl ⟨rfl, rfl, rfl, rfl, rfl⟩ rfl rfl rfl rfl rfl (by kernel_rfl) Tryz.func5 (by kernel_rfl)
  (of_decide_eq_true (by kernel_rfl)) (by unfold Func.isWrapper; first | (rw [if_pos (by decide +kernel)]; kernel_rfl) | (rw [if_neg (by decide +kernel)]; exact ⟨rfl, rfl⟩))
  (fun os started H enc _ => imageSame_lifted os started H enc)
end Go.Proofs.YtmbpneaibmldfaaGreat
