/- What each of these functions computes, for every argument that its theorem names; a part of what the proof of NotePacks stands on. -/
import Derived.Test.YtkdoomglflikkaaGreatQac
import Derived.Test.YtkdoomglflikkaaGreatQad
import Derived.Test.YtkdoomglflikkaaGreatQag
import Derived.Test.YtkdoomglflikkaaGreatQah
import Derived.Test.YtkdoomglflikkaaGreatQaj
import Derived.Test.YtkdoomglflikkaaGreatQan
import Derived.Test.YtkdoomglflikkaaGreatQao
import Derived.Test.YtkdoomglflikkaaGreatQas
import Derived.Test.YtkdoomglflikkaaGreatQat
import Derived.Test.YtkdoomglflikkaaGreatQau
import Derived.Test.YtkdoomglflikkaaGreatQay
import Derived.Test.YtkdoomglflikkaaGreatQbe
import Derived.Test.YtkdoomglflikkaaGreatQbi
namespace Go.Proofs.YtkdoomglflikkaaGreat
open Go.RowKit Go.Eng Go.Eng _root_.Go.Proofs.Tryz
set_option maxRecDepth 100000
variable {w0 w : World} {M0 Fz : Nat → Prop} {H : List It} {A : Option Addr} {c : Nat}
theorem t0_gShow_ok {p : Prop} (h : p := by simp only [noteE, List.length_append] at hlen ⊢; omega) : p := h
theorem t1_gShow_ok {p : Prop} (h : p := by simp only [digE, List.length_append] at hbl ⊢; omega) : p := h
set_option maxHeartbeats 40000000 in
theorem gShow_ok {gw : Nat} {out : List UInt8} {pa : Addr} {cs : List Value} {x : Nte} (hp : HP w0 M0 Fz w (itB gw 89 [.slice A out.length c] :: itR 5 1 A out.length c (out.map bv) :: H)) (hatx : AtF Fz w pa cs) (hrd : noteR.rd Fz w cs x) (hok : noteOk x) (hlen : out.length + (noteE x).length ≤ 1000000) (hmb : MutF Fz w pa.block) : Ret prog 65 #[.iface 87 (.pointer (some ⟨gw, 0, none⟩)), .pointer (some pa)] w (WrP 5 89 gw w0 M0 Fz w H (out ++ noteE x)) := by
 obtain ⟨hIx, B0, d0, B1, d1, B2, d2, B3, d3, B4, d4, B5, d5, B6, d6, B7, d7, B8, d8, B9, d9, B10, d10, rfl, hx0, hx1, hx2, hx3, hx4, hx5, hx6, hx7, hx8, hx9, hx10⟩ := hrd
 refine ret_of_wk func65 rfl ntmps65 leB_ ?_
 refine so ?_
 refine Bx hp (h := fun gs2 wc1 hpc1 hEc1 => ?_)
 replace hp:=hpc1
 obtain ⟨Fzc, hpc2, hsc2, hcap⟩ := (hp.as_ (H' := itB gs2 123 [.iface 87 (pt gw 0)] :: _) rfl).frzBlk
 replace hp:=hpc2
 refine so ?_
 refine wdP 14 hp (fun wD hp hED => by refine pm ?_; exact .op rfl (wl_builtS (ps := [(0, .tmp 8), (1, .tmp 11), (2, .tmp 14), (3, .tmp 17)]) (by decide) bld137 rfl rfl (wl_nil qp)) pl) fun wD hp hED => ?_
 refine so ?_
 refine wc_unroll 5 ?_
 refine wc_unfold (so ?_)
 refine aT (so ?_)
 refine wl_indexV (by decide) ar137 sc125 rfl rfl 0 rfl (by decide) rfl (so ?_)
 refine Ci rfl (gNum_ok hp (hatx.to.sub 0 1) hok.1 t0_gShow_ok) ?_
 rintro _ w1 ⟨A1, c1, hp, hF1⟩
 refine sl ?_
 refine wc_region ?_
 refine sl ?_
 refine wc_unfold (so ?_)
 refine aT (so ?_)
 refine wl_indexV (by decide) ar137 sc125 rfl rfl 1 rfl (by decide) rfl (so ?_)
 refine Ci rfl (gNum_ok hp (hatx.to.sub 1 1) hok.2.1 t0_gShow_ok) ?_
 rintro _ w2 ⟨A2, c2, hp, hF2⟩
 refine sl ?_
 refine wc_region ?_
 refine sl ?_
 refine wc_unfold (so ?_)
 refine aT (so ?_)
 refine wl_indexV (by decide) ar137 sc125 rfl rfl 2 rfl (by decide) rfl (so ?_)
 refine Ci rfl (gNum_ok hp (hatx.to.sub 2 1) hok.2.2.1 t0_gShow_ok) ?_
 rintro _ w3 ⟨A3, c3, hp, hF3⟩
 refine sl ?_
 refine wc_region ?_
 refine sl ?_
 refine wc_unfold (so ?_)
 refine aT (so ?_)
 refine wl_indexV (by decide) ar137 sc125 rfl rfl 3 rfl (by decide) rfl (so ?_)
 refine Ci rfl (gNum_ok hp (hatx.to.sub 3 1) hok.2.2.2.1 t0_gShow_ok) ?_
 rintro _ w4 ⟨A4, c4, hp, hF4⟩
 refine sl ?_
 refine wc_region ?_
 refine sl ?_
 refine wc_unfold (so ?_)
 refine aF (so ?_)
 refine Cd ?_ ?_<;>intro hc1<;>refine so ?_
 refine Cd ?_ ?_<;>intro hc2<;>refine so ?_
 ·refine wP 7 hp (h := fun wD hp hED => ?_)
  have hbl:=hlen
  unfold noteE bodyE at hbl
  have hbk:=hok.2.2.2.2
  unfold bodyOk at hbk
  repeat (first | rw [if_neg (by omega)] at hbl | rw [if_pos (by omega)] at hbl)
  repeat (first | rw [if_neg (by omega)] at hbk | rw [if_pos (by omega)] at hbk)
  simp only [List.length_append] at hbl
  have hok5 : batchOk x.batch := by first | exact hbk.1 | exact hbk
  refine Ci rfl (gBatch_ok hp (hatx.to.sub 38 1) hx0.to hok5 t1_gShow_ok) ?_
  rintro _ w6 ⟨A6, c6, hp, hF6⟩
  refine so ?_
  refine wk_post0 (.inr rfl) results65  ?_
  have hWO : out ++ noteE x = (((((out ++ numE x.kind) ++ numE x.from_) ++ numE x.group) ++ numE x.epoch) ++ batchE x.batch) := by
    unfold noteE bodyE
    repeat (first | rw [if_neg (by omega)] | rw [if_pos (by omega)])
    simp only [← List.append_assoc]
  rw [hWO]
  have hFr:=mv (S := Fz) (w := w) (w' := w6)
  exact ⟨_, rfl, _, _, hp.less hFr.sub, hFr.chg, fun _ h => h⟩
 exact absurd hc1 hc2
 refine Cd ?_ ?_<;>intro hc3<;>refine so ?_
 refine Cd ?_ ?_<;>intro hc4<;>refine so ?_
 ·refine wP 7 hp (h := fun wD hp hED => ?_)
  have hbl:=hlen
  unfold noteE bodyE at hbl
  have hbk:=hok.2.2.2.2
  unfold bodyOk at hbk
  repeat (first | rw [if_neg (by omega)] at hbl | rw [if_pos (by omega)] at hbl)
  repeat (first | rw [if_neg (by omega)] at hbk | rw [if_pos (by omega)] at hbk)
  simp only [List.length_append] at hbl
  have hok7 : batchOk x.batch := by first | exact hbk.1 | exact hbk
  refine Ci rfl (gBatch_ok hp (hatx.to.sub 38 1) hx0.to hok7 t1_gShow_ok) ?_
  rintro _ w8 ⟨A8, c8, hp, hF8⟩
  refine so ?_
  refine wk_post0 (.inr rfl) results65  ?_
  have hWO : out ++ noteE x = (((((out ++ numE x.kind) ++ numE x.from_) ++ numE x.group) ++ numE x.epoch) ++ batchE x.batch) := by
    unfold noteE bodyE
    repeat (first | rw [if_neg (by omega)] | rw [if_pos (by omega)])
    simp only [← List.append_assoc]
  rw [hWO]
  have hFr:=mv (S := Fz) (w := w) (w' := w8)
  exact ⟨_, rfl, _, _, hp.less hFr.sub, hFr.chg, fun _ h => h⟩
 exact absurd hc3 hc4
 refine Cd ?_ ?_<;>intro hc5<;>refine so ?_
 ·refine wP 7 hp (h := fun wD hp hED => ?_)
  have hbl:=hlen
  unfold noteE bodyE at hbl
  have hbk:=hok.2.2.2.2
  unfold bodyOk at hbk
  repeat (first | rw [if_neg (by omega)] at hbl | rw [if_pos (by omega)] at hbl)
  repeat (first | rw [if_neg (by omega)] at hbk | rw [if_pos (by omega)] at hbk)
  simp only [List.length_append] at hbl
  have hok9 : batchOk x.batch := by first | exact hbk.1 | exact hbk
  refine Ci rfl (gBatch_ok hp (hatx.to.sub 38 1) hx0.to hok9 t1_gShow_ok) ?_
  rintro _ w10 ⟨A10, c10, hp, hF10⟩
  refine so ?_
  refine wk_post0 (.inr rfl) results65  ?_
  have hWO : out ++ noteE x = (((((out ++ numE x.kind) ++ numE x.from_) ++ numE x.group) ++ numE x.epoch) ++ batchE x.batch) := by
    unfold noteE bodyE
    repeat (first | rw [if_neg (by omega)] | rw [if_pos (by omega)])
    simp only [← List.append_assoc]
  rw [hWO]
  have hFr:=mv (S := Fz) (w := w) (w' := w10)
  exact ⟨_, rfl, _, _, hp.less hFr.sub, hFr.chg, fun _ h => h⟩
 refine Cd ?_ ?_<;>intro hc6<;>refine so ?_
 ·refine wP 7 hp (h := fun wD hp hED => ?_)
  have hbl:=hlen
  unfold noteE bodyE at hbl
  have hbk:=hok.2.2.2.2
  unfold bodyOk at hbk
  repeat (first | rw [if_neg (by omega)] at hbl | rw [if_pos (by omega)] at hbl)
  repeat (first | rw [if_neg (by omega)] at hbk | rw [if_pos (by omega)] at hbk)
  simp only [List.length_append] at hbl
  have hok11 : isNum x.node := by first | exact hbk.1 | exact hbk
  refine Ci rfl (gNum_ok hp (hatx.to.sub 44 1) hok11 t1_gShow_ok) ?_
  rintro _ w12 ⟨A12, c12, hp, hF12⟩
  refine so ?_
  refine wP 7 hp (h := fun wD hp hED => ?_)
  have hok13 : isNum x.stamp := by first | exact hbk.2.1 | exact hbk.2
  refine Ci rfl (gNum_ok hp (hatx.to.sub 43 1) hok13 t1_gShow_ok) ?_
  rintro _ w14 ⟨A14, c14, hp, hF14⟩
  refine so ?_
  refine wP 4 hp (h := fun wD hp hED => ?_)
  have hok15 : ansOk x.ans := by first | exact hbk.2.2.1 | exact hbk.2.2
  refine Ce (gAnswer_ok hp (hatx.to.sub 39 4) ⟨hIx.ans, _, _, _, _, rfl, hx1.to, hx2.to⟩ hok15 t1_gShow_ok (by rw [block_add]; exact hmb.to)) ?_
  rintro _ w16 ⟨A16, c16, hp, hF16⟩
  refine so ?_
  refine wk_post0 (.inr rfl) results65  ?_
  have hWO : out ++ noteE x = (((((((out ++ numE x.kind) ++ numE x.from_) ++ numE x.group) ++ numE x.epoch) ++ numE x.node) ++ numE x.stamp) ++ ansE x.ans) := by
    unfold noteE bodyE
    repeat (first | rw [if_neg (by omega)] | rw [if_pos (by omega)])
    simp only [← List.append_assoc]
  rw [hWO]
  have hFr:=mv (S := Fz) (w := w) (w' := w16)
  exact ⟨_, rfl, _, _, hp.less hFr.sub, hFr.chg, fun _ h => h⟩
 refine Cd ?_ ?_<;>intro hc7<;>refine so ?_
 ·refine wP 7 hp (h := fun wD hp hED => ?_)
  have hbl:=hlen
  unfold noteE bodyE at hbl
  have hbk:=hok.2.2.2.2
  unfold bodyOk at hbk
  repeat (first | rw [if_neg (by omega)] at hbl | rw [if_pos (by omega)] at hbl)
  repeat (first | rw [if_neg (by omega)] at hbk | rw [if_pos (by omega)] at hbk)
  simp only [List.length_append] at hbl
  have hok17 : isNum x.view := by first | exact hbk.1 | exact hbk
  refine Ci rfl (gNum_ok hp (hatx.to.sub 4 1) hok17 t1_gShow_ok) ?_
  rintro _ w18 ⟨A18, c18, hp, hF18⟩
  refine so ?_
  refine wP 7 hp (h := fun wD hp hED => ?_)
  have hok19 : isNum x.seq := by first | exact hbk.2.1 | exact hbk.2
  refine Ci rfl (gNum_ok hp (hatx.to.sub 5 1) hok19 t1_gShow_ok) ?_
  rintro _ w20 ⟨A20, c20, hp, hF20⟩
  refine so ?_
  refine wP 7 hp (h := fun wD hp hED => ?_)
  have hok21 : batchOk x.batch := by first | exact hbk.2.2.1 | exact hbk.2.2
  refine Ci rfl (gBatch_ok hp (hatx.to.sub 38 1) hx0.to hok21 t1_gShow_ok) ?_
  rintro _ w22 ⟨A22, c22, hp, hF22⟩
  refine so ?_
  refine wk_post0 (.inr rfl) results65  ?_
  have hWO : out ++ noteE x = (((((((out ++ numE x.kind) ++ numE x.from_) ++ numE x.group) ++ numE x.epoch) ++ numE x.view) ++ numE x.seq) ++ batchE x.batch) := by
    unfold noteE bodyE
    repeat (first | rw [if_neg (by omega)] | rw [if_pos (by omega)])
    simp only [← List.append_assoc]
  rw [hWO]
  have hFr:=mv (S := Fz) (w := w) (w' := w22)
  exact ⟨_, rfl, _, _, hp.less hFr.sub, hFr.chg, fun _ h => h⟩
 refine Cd ?_ ?_<;>intro hc8<;>refine so ?_
 refine Cd ?_ ?_<;>intro hc9<;>refine so ?_
 ·refine wP 7 hp (h := fun wD hp hED => ?_)
  have hbl:=hlen
  unfold noteE bodyE at hbl
  have hbk:=hok.2.2.2.2
  unfold bodyOk at hbk
  repeat (first | rw [if_neg (by omega)] at hbl | rw [if_pos (by omega)] at hbl)
  repeat (first | rw [if_neg (by omega)] at hbk | rw [if_pos (by omega)] at hbk)
  simp only [List.length_append] at hbl
  have hok23 : isNum x.view := by first | exact hbk.1 | exact hbk
  refine Ci rfl (gNum_ok hp (hatx.to.sub 4 1) hok23 t1_gShow_ok) ?_
  rintro _ w24 ⟨A24, c24, hp, hF24⟩
  refine so ?_
  refine wP 7 hp (h := fun wD hp hED => ?_)
  have hok25 : isNum x.seq := by first | exact hbk.2.1 | exact hbk.2
  refine Ci rfl (gNum_ok hp (hatx.to.sub 5 1) hok25 t1_gShow_ok) ?_
  rintro _ w26 ⟨A26, c26, hp, hF26⟩
  refine so ?_
  refine wP 7 hp (h := fun wD hp hED => ?_)
  refine Ci rfl (gDig_ok hp (hatx.to.sub 6 32) t1_gShow_ok) ?_
  rintro _ w27 ⟨A27, c27, hp, hF27⟩
  refine so ?_
  refine wk_post0 (.inr rfl) results65  ?_
  have hWO : out ++ noteE x = (((((((out ++ numE x.kind) ++ numE x.from_) ++ numE x.group) ++ numE x.epoch) ++ numE x.view) ++ numE x.seq) ++ x.dig.l) := by
    unfold noteE bodyE
    repeat (first | rw [if_neg (by omega)] | rw [if_pos (by omega)])
    simp only [digE, ← List.append_assoc]
  rw [hWO]
  have hFr:=mv (S := Fz) (w := w) (w' := w27)
  exact ⟨_, rfl, _, _, hp.less hFr.sub, hFr.chg, fun _ h => h⟩
 exact absurd hc8 hc9
 refine Cd ?_ ?_<;>intro hc10<;>refine so ?_
 ·refine wP 7 hp (h := fun wD hp hED => ?_)
  have hbl:=hlen
  unfold noteE bodyE at hbl
  have hbk:=hok.2.2.2.2
  unfold bodyOk at hbk
  repeat (first | rw [if_neg (by omega)] at hbl | rw [if_pos (by omega)] at hbl)
  repeat (first | rw [if_neg (by omega)] at hbk | rw [if_pos (by omega)] at hbk)
  simp only [List.length_append] at hbl
  have hok28 : isNum x.view := by first | exact hbk.1 | exact hbk
  refine Ci rfl (gNum_ok hp (hatx.to.sub 4 1) hok28 t1_gShow_ok) ?_
  rintro _ w29 ⟨A29, c29, hp, hF29⟩
  refine so ?_
  refine wP 7 hp (h := fun wD hp hED => ?_)
  have hok30 : isNum x.seq := by first | exact hbk.2.1 | exact hbk.2
  refine Ci rfl (gNum_ok hp (hatx.to.sub 5 1) hok30 t1_gShow_ok) ?_
  rintro _ w31 ⟨A31, c31, hp, hF31⟩
  refine so ?_
  refine wP 7 hp (h := fun wD hp hED => ?_)
  refine Ci rfl (gDig_ok hp (hatx.to.sub 6 32) t1_gShow_ok) ?_
  rintro _ w32 ⟨A32, c32, hp, hF32⟩
  refine so ?_
  refine wk_post0 (.inr rfl) results65  ?_
  have hWO : out ++ noteE x = (((((((out ++ numE x.kind) ++ numE x.from_) ++ numE x.group) ++ numE x.epoch) ++ numE x.view) ++ numE x.seq) ++ x.dig.l) := by
    unfold noteE bodyE
    repeat (first | rw [if_neg (by omega)] | rw [if_pos (by omega)])
    simp only [digE, ← List.append_assoc]
  rw [hWO]
  have hFr:=mv (S := Fz) (w := w) (w' := w32)
  exact ⟨_, rfl, _, _, hp.less hFr.sub, hFr.chg, fun _ h => h⟩
 refine Cd ?_ ?_<;>intro hc11<;>refine so ?_
 refine Cd ?_ ?_<;>intro hc12<;>refine so ?_
 ·refine wP 7 hp (h := fun wD hp hED => ?_)
  have hbl:=hlen
  unfold noteE bodyE at hbl
  have hbk:=hok.2.2.2.2
  unfold bodyOk at hbk
  repeat (first | rw [if_neg (by omega)] at hbl | rw [if_pos (by omega)] at hbl)
  repeat (first | rw [if_neg (by omega)] at hbk | rw [if_pos (by omega)] at hbk)
  simp only [List.length_append] at hbl
  have hok33 : isNum x.seq := by first | exact hbk.1 | exact hbk
  refine Ci rfl (gNum_ok hp (hatx.to.sub 5 1) hok33 t1_gShow_ok) ?_
  rintro _ w34 ⟨A34, c34, hp, hF34⟩
  refine so ?_
  refine wP 7 hp (h := fun wD hp hED => ?_)
  refine Ci rfl (gDig_ok hp (hatx.to.sub 6 32) t1_gShow_ok) ?_
  rintro _ w35 ⟨A35, c35, hp, hF35⟩
  refine so ?_
  refine wk_post0 (.inr rfl) results65  ?_
  have hWO : out ++ noteE x = ((((((out ++ numE x.kind) ++ numE x.from_) ++ numE x.group) ++ numE x.epoch) ++ numE x.seq) ++ x.dig.l) := by
    unfold noteE bodyE
    repeat (first | rw [if_neg (by omega)] | rw [if_pos (by omega)])
    simp only [digE, ← List.append_assoc]
  rw [hWO]
  have hFr:=mv (S := Fz) (w := w) (w' := w35)
  exact ⟨_, rfl, _, _, hp.less hFr.sub, hFr.chg, fun _ h => h⟩
 exact absurd hc11 hc12
 refine Cd ?_ ?_<;>intro hc13<;>refine so ?_
 ·refine wP 7 hp (h := fun wD hp hED => ?_)
  have hbl:=hlen
  unfold noteE bodyE at hbl
  have hbk:=hok.2.2.2.2
  unfold bodyOk at hbk
  repeat (first | rw [if_neg (by omega)] at hbl | rw [if_pos (by omega)] at hbl)
  repeat (first | rw [if_neg (by omega)] at hbk | rw [if_pos (by omega)] at hbk)
  simp only [List.length_append] at hbl
  have hok36 : isNum x.seq := by first | exact hbk.1 | exact hbk
  refine Ci rfl (gNum_ok hp (hatx.to.sub 5 1) hok36 t1_gShow_ok) ?_
  rintro _ w37 ⟨A37, c37, hp, hF37⟩
  refine so ?_
  refine wP 7 hp (h := fun wD hp hED => ?_)
  refine Ci rfl (gDig_ok hp (hatx.to.sub 6 32) t1_gShow_ok) ?_
  rintro _ w38 ⟨A38, c38, hp, hF38⟩
  refine so ?_
  refine wk_post0 (.inr rfl) results65  ?_
  have hWO : out ++ noteE x = ((((((out ++ numE x.kind) ++ numE x.from_) ++ numE x.group) ++ numE x.epoch) ++ numE x.seq) ++ x.dig.l) := by
    unfold noteE bodyE
    repeat (first | rw [if_neg (by omega)] | rw [if_pos (by omega)])
    simp only [digE, ← List.append_assoc]
  rw [hWO]
  have hFr:=mv (S := Fz) (w := w) (w' := w38)
  exact ⟨_, rfl, _, _, hp.less hFr.sub, hFr.chg, fun _ h => h⟩
 refine Cd ?_ ?_<;>intro hc14<;>refine so ?_
 ·refine wP 4 hp (h := fun wD hp hED => ?_)
  have hbl:=hlen
  unfold noteE bodyE at hbl
  have hbk:=hok.2.2.2.2
  unfold bodyOk at hbk
  repeat (first | rw [if_neg (by omega)] at hbl | rw [if_pos (by omega)] at hbl)
  repeat (first | rw [if_neg (by omega)] at hbk | rw [if_pos (by omega)] at hbk)
  simp only [List.length_append] at hbl
  have hok39 : changeOk x.change := by first | exact hbk.1 | exact hbk
  refine Ce (gChange_ok hp (hatx.to.sub 45 6) ⟨hIx.change, _, _, _, _, _, _, rfl, hx3.to, hx4.to, hx5.to⟩ hok39 t1_gShow_ok) ?_
  rintro _ w40 ⟨A40, c40, hp, hF40⟩
  refine so ?_
  refine wk_post0 (.inr rfl) results65  ?_
  have hWO : out ++ noteE x = (((((out ++ numE x.kind) ++ numE x.from_) ++ numE x.group) ++ numE x.epoch) ++ changeE x.change) := by
    unfold noteE bodyE
    repeat (first | rw [if_neg (by omega)] | rw [if_pos (by omega)])
    simp only [← List.append_assoc]
  rw [hWO]
  have hFr:=mv (S := Fz) (w := w) (w' := w40)
  exact ⟨_, rfl, _, _, hp.less hFr.sub, hFr.chg, fun _ h => h⟩
 refine Cd ?_ ?_<;>intro hc15<;>refine so ?_
 ·refine wP 7 hp (h := fun wD hp hED => ?_)
  have hbl:=hlen
  unfold noteE bodyE at hbl
  have hbk:=hok.2.2.2.2
  unfold bodyOk at hbk
  repeat (first | rw [if_neg (by omega)] at hbl | rw [if_pos (by omega)] at hbl)
  repeat (first | rw [if_neg (by omega)] at hbk | rw [if_pos (by omega)] at hbk)
  simp only [List.length_append] at hbl
  have hok41 : isNum x.view := by first | exact hbk.1 | exact hbk
  refine Ci rfl (gNum_ok hp (hatx.to.sub 4 1) hok41 t1_gShow_ok) ?_
  rintro _ w42 ⟨A42, c42, hp, hF42⟩
  refine so ?_
  refine wP 7 hp (h := fun wD hp hED => ?_)
  have hok43 : isNum x.node := by first | exact hbk.2.1 | exact hbk.2
  refine Ci rfl (gNum_ok hp (hatx.to.sub 44 1) hok43 t1_gShow_ok) ?_
  rintro _ w44 ⟨A44, c44, hp, hF44⟩
  refine so ?_
  refine wP 7 hp (h := fun wD hp hED => ?_)
  refine Ci rfl (gDig_ok hp (hatx.to.sub 6 32) t1_gShow_ok) ?_
  rintro _ w45 ⟨A45, c45, hp, hF45⟩
  refine so ?_
  refine wk_post0 (.inr rfl) results65  ?_
  have hWO : out ++ noteE x = (((((((out ++ numE x.kind) ++ numE x.from_) ++ numE x.group) ++ numE x.epoch) ++ numE x.view) ++ numE x.node) ++ x.dig.l) := by
    unfold noteE bodyE
    repeat (first | rw [if_neg (by omega)] | rw [if_pos (by omega)])
    simp only [digE, ← List.append_assoc]
  rw [hWO]
  have hFr:=mv (S := Fz) (w := w) (w' := w45)
  exact ⟨_, rfl, _, _, hp.less hFr.sub, hFr.chg, fun _ h => h⟩
 refine Cd ?_ ?_<;>intro hc16<;>refine so ?_
 ·refine wP 7 hp (h := fun wD hp hED => ?_)
  have hbl:=hlen
  unfold noteE bodyE at hbl
  have hbk:=hok.2.2.2.2
  unfold bodyOk at hbk
  repeat (first | rw [if_neg (by omega)] at hbl | rw [if_pos (by omega)] at hbl)
  repeat (first | rw [if_neg (by omega)] at hbk | rw [if_pos (by omega)] at hbk)
  simp only [List.length_append] at hbl
  have hok46 : isNum x.view := by first | exact hbk.1 | exact hbk
  refine Ci rfl (gNum_ok hp (hatx.to.sub 4 1) hok46 t1_gShow_ok) ?_
  rintro _ w47 ⟨A47, c47, hp, hF47⟩
  refine so ?_
  refine wP 5 hp (h := fun wD hp hED => ?_)
  have hok48 : (x.changes.length : Int) ≤ 7 ∧ ∀ y ∈ x.changes, changeOk y := by first | exact hbk.2.1 | exact hbk.2
  refine Ce (gListC_ok (E := changeE) (ok := changeOk) (FV := .func (.func 110) ([] : List Value).toArray [Value.pointer (some ⟨gs2, 0, none⟩)].toArray) (most := 7) hp (hatx.to.sub 51 1) hx6.to (hok48).2 (fun w1 H1 A c out pa cs x hF hp hat hrd hok hlen => RetV.func (first := []) (cap := [pt gs2 0]) (vs := [.pointer (some pa)]) cl110 (gShow1_ok hp hat hrd hok hlen (hcap.to.frz hF))) (by have := (hok48).1; unfold isNum; omega) t1_gShow_ok) ?_
  rintro _ w49 ⟨A49, c49, hp, hF49⟩
  refine so ?_
  refine wP 5 hp (h := fun wD hp hED => ?_)
  have hok50 : (x.picks.length : Int) ≤ 8 ∧ ∀ y ∈ x.picks, pickOk y := by first | exact hbk.2.2.1 | exact hbk.2.2
  refine Ce (gListP_ok (E := pickE) (ok := pickOk) (FV := .func (.func 112) ([] : List Value).toArray [Value.pointer (some ⟨gs2, 0, none⟩)].toArray) (most := 8) hp (hatx.to.sub 52 1) hx7.to (hok50).2 (fun w1 H1 A c out pa cs x hF hp hat hrd hok hlen => RetV.func (first := []) (cap := [pt gs2 0]) (vs := [.pointer (some pa)]) cl112 (gPick_ok hp hat hrd hok hlen (hcap.to.frz hF))) (by have := (hok50).1; unfold isNum; omega) t1_gShow_ok) ?_
  rintro _ w51 ⟨A51, c51, hp, hF51⟩
  refine so ?_
  refine wk_post0 (.inr rfl) results65  ?_
  have hWO : out ++ noteE x = (((((((out ++ numE x.kind) ++ numE x.from_) ++ numE x.group) ++ numE x.epoch) ++ numE x.view) ++ listE changeE x.changes) ++ listE pickE x.picks) := by
    unfold noteE bodyE
    repeat (first | rw [if_neg (by omega)] | rw [if_pos (by omega)])
    simp only [← List.append_assoc]
  rw [hWO]
  have hFr:=mv (S := Fz) (w := w) (w' := w51)
  exact ⟨_, rfl, _, _, hp.less hFr.sub, hFr.chg, fun _ h => h⟩
 refine Cd ?_ ?_<;>intro hc17<;>refine so ?_
 refine Cd ?_ ?_<;>intro hc18<;>refine so ?_
 ·refine wP 7 hp (h := fun wD hp hED => ?_)
  have hbl:=hlen
  unfold noteE bodyE at hbl
  have hbk:=hok.2.2.2.2
  unfold bodyOk at hbk
  repeat (first | rw [if_neg (by omega)] at hbl | rw [if_pos (by omega)] at hbl)
  repeat (first | rw [if_neg (by omega)] at hbk | rw [if_pos (by omega)] at hbk)
  simp only [List.length_append] at hbl
  have hok52 : isNum x.seq := by first | exact hbk.1 | exact hbk
  refine Ci rfl (gNum_ok hp (hatx.to.sub 5 1) hok52 t1_gShow_ok) ?_
  rintro _ w53 ⟨A53, c53, hp, hF53⟩
  refine so ?_
  refine wP 7 hp (h := fun wD hp hED => ?_)
  refine Ci rfl (gDig_ok hp (hatx.to.sub 6 32) t1_gShow_ok) ?_
  rintro _ w54 ⟨A54, c54, hp, hF54⟩
  refine so ?_
  refine wP 7 hp (h := fun wD hp hED => ?_)
  have hok55 : isNum x.level := by first | exact hbk.2.2.1 | exact hbk.2.2
  refine Ci rfl (gNum_ok hp (hatx.to.sub 53 1) hok55 t1_gShow_ok) ?_
  rintro _ w56 ⟨A56, c56, hp, hF56⟩
  refine so ?_
  refine wP 7 hp (h := fun wD hp hED => ?_)
  have hok57 : isNum x.place := by first | exact hbk.2.2.2.1 | exact hbk.2.2.2
  refine Ci rfl (gNum_ok hp (hatx.to.sub 54 1) hok57 t1_gShow_ok) ?_
  rintro _ w58 ⟨A58, c58, hp, hF58⟩
  refine so ?_
  refine Cd ?_ ?_<;>intro hc19<;>refine so ?_
  exact absurd hc19 (by omega)
  refine wk_post0 (.inr rfl) results65  ?_
  have hWO : out ++ noteE x = ((((((((out ++ numE x.kind) ++ numE x.from_) ++ numE x.group) ++ numE x.epoch) ++ numE x.seq) ++ x.dig.l) ++ numE x.level) ++ numE x.place) := by
    unfold noteE bodyE
    repeat (first | rw [if_neg (by omega)] | rw [if_pos (by omega)])
    simp only [digE, ← List.append_assoc]
  rw [hWO]
  have hFr:=mv (S := Fz) (w := w) (w' := w58)
  exact ⟨_, rfl, _, _, hp.less hFr.sub, hFr.chg, fun _ h => h⟩
 exact absurd hc17 hc18
 refine Cd ?_ ?_<;>intro hc20<;>refine so ?_
 ·refine wP 7 hp (h := fun wD hp hED => ?_)
  have hbl:=hlen
  unfold noteE bodyE at hbl
  have hbk:=hok.2.2.2.2
  unfold bodyOk at hbk
  repeat (first | rw [if_neg (by omega)] at hbl | rw [if_pos (by omega)] at hbl)
  repeat (first | rw [if_neg (by omega)] at hbk | rw [if_pos (by omega)] at hbk)
  simp only [List.length_append] at hbl
  have hok59 : isNum x.seq := by first | exact hbk.1 | exact hbk
  refine Ci rfl (gNum_ok hp (hatx.to.sub 5 1) hok59 t1_gShow_ok) ?_
  rintro _ w60 ⟨A60, c60, hp, hF60⟩
  refine so ?_
  refine wP 7 hp (h := fun wD hp hED => ?_)
  refine Ci rfl (gDig_ok hp (hatx.to.sub 6 32) t1_gShow_ok) ?_
  rintro _ w61 ⟨A61, c61, hp, hF61⟩
  refine so ?_
  refine wP 7 hp (h := fun wD hp hED => ?_)
  have hok62 : isNum x.level := by first | exact hbk.2.2.1 | exact hbk.2.2
  refine Ci rfl (gNum_ok hp (hatx.to.sub 53 1) hok62 t1_gShow_ok) ?_
  rintro _ w63 ⟨A63, c63, hp, hF63⟩
  refine so ?_
  refine wP 7 hp (h := fun wD hp hED => ?_)
  have hok64 : isNum x.place := by first | exact hbk.2.2.2.1 | exact hbk.2.2.2
  refine Ci rfl (gNum_ok hp (hatx.to.sub 54 1) hok64 t1_gShow_ok) ?_
  rintro _ w65 ⟨A65, c65, hp, hF65⟩
  refine so ?_
  refine Cd ?_ ?_<;>intro hc21<;>refine so ?_
  ·refine wdP 7 hp (fun wD hp hED => by refine pm ?_; exact .op rfl (wl_nilCheckI (by decide) rfl (wl_nil qp)) pl) fun wD hp hED => ?_
   have hok66 : (x.digs.length : Int) ≤ 8 ∧ ∀ y ∈ x.digs, (fun _ => True) y := by first | exact hbk.2.2.2.2.1 | exact hbk.2.2.2.2
   refine Ce (gListD_ok (E := digE) (ok := (fun _ => True)) (FV := .func (.method "bastide/note.digest") [Value.iface 87 (pt gw 0)].toArray ([] : List Value).toArray) (most := 8) hp (hatx.to.sub 55 1) hx8.to (hok66).2 (fun w1 H1 A c out pa cs x hF hp hat hrd hok hlen => by
     obtain rfl : _ = _ := hrd
     exact RetV.meth (vs := [.pointer (some pa)]) mt175 (gDig_ok hp hat hlen)) (by have := (hok66).1; unfold isNum; omega) t1_gShow_ok) ?_
   rintro _ w67 ⟨A67, c67, hp, hF67⟩
   refine so ?_
   refine wP 7 hp (h := fun wD hp hED => ?_)
   have hok68 : (x.data.length : Int) ≤ 1024 := by first | exact hbk.2.2.2.2.2.1 | exact hbk.2.2.2.2.2
   refine Ci rfl (gStr_ok (v9 := iv 1024) hp (hatx.to.sub 56 1) hx9.to (by have := hok68; omega) t1_gShow_ok) ?_
   rintro _ w69 ⟨A69, c69, hp, hF69⟩
   refine so ?_
   refine wk_post0 (.inr rfl) results65  ?_
   have hWO : out ++ noteE x = ((((((((((out ++ numE x.kind) ++ numE x.from_) ++ numE x.group) ++ numE x.epoch) ++ numE x.seq) ++ x.dig.l) ++ numE x.level) ++ numE x.place) ++ listE digE x.digs) ++ strE x.data) := by
     unfold noteE bodyE
     repeat (first | rw [if_neg (by omega)] | rw [if_pos (by omega)])
     simp only [digE, ← List.append_assoc]
   rw [hWO]
   have hFr:=mv (S := Fz) (w := w) (w' := w69)
   exact ⟨_, rfl, _, _, hp.less hFr.sub, hFr.chg, fun _ h => h⟩
  exact absurd hc20 hc21
 refine Cd ?_ ?_<;>intro hc22<;>refine so ?_
 ·refine wdP 7 hp (fun wD hp hED => by refine pm ?_; exact .op rfl (wl_nilCheckI (by decide) rfl (wl_nil qp)) pl) fun wD hp hED => ?_
  have hbl:=hlen
  unfold noteE bodyE at hbl
  have hbk:=hok.2.2.2.2
  unfold bodyOk at hbk
  repeat (first | rw [if_neg (by omega)] at hbl | rw [if_pos (by omega)] at hbl)
  repeat (first | rw [if_neg (by omega)] at hbk | rw [if_pos (by omega)] at hbk)
  simp only [List.length_append] at hbl
  have hok70 : (x.nodes.length : Int) ≤ 7 ∧ ∀ y ∈ x.nodes, isNum y := by first | exact hbk.1 | exact hbk
  refine Ce (gListI_ok (E := numE) (ok := isNum) (FV := .func (.method "bastide/note.num") [Value.iface 87 (pt gw 0)].toArray ([] : List Value).toArray) (most := 7) hp (hatx.to.sub 57 1) hx10.to (hok70).2 (fun w1 H1 A c out pa cs x hF hp hat hrd hok hlen => by
    obtain rfl : _ = _ := hrd
    exact RetV.meth (vs := [.pointer (some pa)]) mt177 (gNum_ok hp hat hok hlen)) (by have := (hok70).1; unfold isNum; omega) t1_gShow_ok) ?_
  rintro _ w71 ⟨A71, c71, hp, hF71⟩
  refine so ?_
  refine wk_post0 (.inr rfl) results65  ?_
  have hWO : out ++ noteE x = (((((out ++ numE x.kind) ++ numE x.from_) ++ numE x.group) ++ numE x.epoch) ++ listE numE x.nodes) := by
    unfold noteE bodyE
    repeat (first | rw [if_neg (by omega)] | rw [if_pos (by omega)])
    simp only [← List.append_assoc]
  rw [hWO]
  have hFr:=mv (S := Fz) (w := w) (w' := w71)
  exact ⟨_, rfl, _, _, hp.less hFr.sub, hFr.chg, fun _ h => h⟩
 refine Cd ?_ ?_<;>intro hc23<;>refine so ?_
 ·refine wP 7 hp (h := fun wD hp hED => ?_)
  have hbl:=hlen
  unfold noteE bodyE at hbl
  have hbk:=hok.2.2.2.2
  unfold bodyOk at hbk
  repeat (first | rw [if_neg (by omega)] at hbl | rw [if_pos (by omega)] at hbl)
  repeat (first | rw [if_neg (by omega)] at hbk | rw [if_pos (by omega)] at hbk)
  simp only [List.length_append] at hbl
  have hok72 : isNum x.seq := by first | exact hbk.1 | exact hbk
  refine Ci rfl (gNum_ok hp (hatx.to.sub 5 1) hok72 t1_gShow_ok) ?_
  rintro _ w73 ⟨A73, c73, hp, hF73⟩
  refine so ?_
  refine wP 7 hp (h := fun wD hp hED => ?_)
  have hok74 : batchOk x.batch := by first | exact hbk.2.1 | exact hbk.2
  refine Ci rfl (gBatch_ok hp (hatx.to.sub 38 1) hx0.to hok74 t1_gShow_ok) ?_
  rintro _ w75 ⟨A75, c75, hp, hF75⟩
  refine so ?_
  refine wk_post0 (.inr rfl) results65  ?_
  have hWO : out ++ noteE x = ((((((out ++ numE x.kind) ++ numE x.from_) ++ numE x.group) ++ numE x.epoch) ++ numE x.seq) ++ batchE x.batch) := by
    unfold noteE bodyE
    repeat (first | rw [if_neg (by omega)] | rw [if_pos (by omega)])
    simp only [← List.append_assoc]
  rw [hWO]
  have hFr:=mv (S := Fz) (w := w) (w' := w75)
  exact ⟨_, rfl, _, _, hp.less hFr.sub, hFr.chg, fun _ h => h⟩
 refine wk_post0 (.inr rfl) results65  ?_
 have hWO : out ++ noteE x = ((((out ++ numE x.kind) ++ numE x.from_) ++ numE x.group) ++ numE x.epoch) := by
   unfold noteE bodyE
   repeat (first | rw [if_neg (by omega)] | rw [if_pos (by omega)])
   simp only [← List.append_assoc, List.append_nil]
 rw [hWO]
 have hFr:=mv (S := Fz) (w := w) (w' := w4)
 exact ⟨_, rfl, _, _, hp.less hFr.sub, hFr.chg, fun _ h => h⟩
end Go.Proofs.YtkdoomglflikkaaGreat
