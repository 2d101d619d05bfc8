/- What each of these functions computes, for every argument that its theorem names; a part of what the proof of NotePacks stands on. -/
import Derived.Test.YtkdoomglflikkaaGreatQac
import Derived.Test.YtkdoomglflikkaaGreatQad
import Derived.Test.YtkdoomglflikkaaGreatQae
import Derived.Test.YtkdoomglflikkaaGreatQag
import Derived.Test.YtkdoomglflikkaaGreatQah
import Derived.Test.YtkdoomglflikkaaGreatQaj
import Derived.Test.YtkdoomglflikkaaGreatQak
import Derived.Test.YtkdoomglflikkaaGreatQal
import Derived.Test.YtkdoomglflikkaaGreatQan
import Derived.Test.YtkdoomglflikkaaGreatQao
import Derived.Test.YtkdoomglflikkaaGreatQap
import Derived.Test.YtkdoomglflikkaaGreatQat
import Derived.Test.YtkdoomglflikkaaGreatQau
import Derived.Test.YtkdoomglflikkaaGreatQax
import Derived.Test.YtkdoomglflikkaaGreatQay
import Derived.Test.YtkdoomglflikkaaGreatQaz
namespace Go.Proofs.YtkdoomglflikkaaGreat
open Go.RowKit Go.Eng Go.Eng _root_.Go.Proofs.Tryz
set_option maxRecDepth 100000
variable {w0 w : World} {M0 Fz : Nat → Prop} {H : List It} {A : Option Addr} {c : Nat}
set_option maxHeartbeats 4000000 in
theorem sameBatch_ok {Aa : Option Addr} {ca : Nat} {a : List Wsh} {Sa : Nat → Prop} {Ab : Option Addr} {cb : Nat} {b : List Wsh} {Sb : Nat → Prop} {w : World} (ha : GS wishR Sa w Aa ca a) (hb : GS wishR Sb w Ab cb b) : Ret Tryz.prog 69 #[.slice Aa a.length ca, .slice Ab b.length cb] w (fun v w' => v = .bool (decide (a = b)) ∧ Ext w w') := by
 have mha := ha.mx
 have mhb := hb.mx
 refine ret_of_wk Tryz.func69 rfl Tryz.ntmps69 (Nat.le_of_ble_eq_true rfl) ?_
 have hEc : Ext w w := Chg.refl _ _
 refine wc_seq ?_
 refine wc_region ?_
 refine wl_assign (by decide) rfl ?_
 refine wl_nil ?_
 refine wk_norm ?_
 refine wc_seq ?_
 refine wc_region ?_
 refine wl_move (by decide) rfl ?_
 refine wl_move (by decide) rfl ?_
 have hcl := efW_ok ha hb
 refine wl_call (by decide) Tryz.cl115 rfl hcl ?_
 clear hcl
 rintro _ w1 ⟨rfl, hE1⟩
 replace ha := ha.ext hE1
 replace hb := hb.ext hE1
 replace hEc := hEc.trans hE1
 refine wl_assign (by decide) rfl ?_
 refine wl_nil ?_
 refine wk_norm ?_
 refine wc_ret ?_
 refine wk_post1 (.inl rfl) Tryz.results69 rfl ?_
 exact ⟨_, rfl, rfl, hEc⟩
set_option maxHeartbeats 40000000 in
theorem gBatch_ok {gw : Nat} {out : List UInt8} {pa : Addr} {l : List Wsh} {B : Option Addr} {d : Nat} (hp : HP w0 M0 Fz w (itB gw 89 [.slice A out.length c] :: itR 5 1 A out.length c (out.map bv) :: H)) (hat : AtF Fz w pa [.slice B l.length d]) (hgb : GS wishR Fz w B d l) (hok : batchOk l) (hlen : out.length + (batchE l).length ≤ 1000000) : Ret prog 174 #[.pointer (some ⟨gw, 0, none⟩), .pointer (some pa)] w (WrP 5 89 gw w0 M0 Fz w H (out ++ batchE l)) := by
 have hFr:=Frz.start Fz w
 refine ret_of_wk func174 rfl ntmps174 leB_ ?_
 refine go ?_
 refine Ld_ sc24 rfl hat.head ?_
 have hcl:=wBatch_ok hgb hok
 refine Cl_ cl179 rfl hcl ?_
 clear hcl
 rintro _ w1 ⟨A1, c1, rfl, ho1, hE1⟩
 replace ho1:=ho1.bs
 have hsz2:=hp.chg.size
 obtain ⟨Fz2, hp2, hsub2, hnew2, hup2⟩ := hp.frz hE1
 replace hp:=hp2
 replace hFr:=(hFr.ext hE1).wid hsub2
 replace ho1:=ho1.frz hnew2
 refine go ?_
 refine wl_halloc (e := 26) (z := s0) (by decide) (by kernel_rfl) hp ?_
 rintro gs4 w3 hp3 hE3
 replace hFr:=hFr.ext hE3
 have q0:=hE3
 replace hp:=hp3
 replace hp:=hp.ay (itB gs4 26 ([s0]) :: _)
 refine wl_hstore1 (i := 0) rfl rfl hp rfl sz26 (Nat.lt_of_lt_of_le (Nat.lt_succ_self _) leB_) rfl ?_
 rintro w4 hp4 hC4
 replace hFr:=hFr.fz hC4
 have q1:=ho1.tk.ext q0
 replace q1:=q1.fz hC4
 replace hp:=hp4
 obtain ⟨Fz5, hp5, hs5, hatb⟩ := (hp.as_ (H' := itB gs4 26 [.slice A1 (blistE l).length c1] :: _) rfl).frzBlk
 replace hp:=hp5
 replace hFr:=hFr.wid hs5
 replace q1:=q1.wid hs5
 refine go ?_
 have hlb:=blist_len hok
 have hcl:=gStr_ok (v9 := iv 0) hp hatb (ho1.fr q1) (by omega) hlen
 refine Cl_ cl178 rfl hcl ?_
 clear hcl
 rintro _ w6 ⟨A6, c6, hp6, hF6⟩
 replace hFr:=hFr.fr hF6
 replace hp:=(hp6.ay (itB gw 89 [.slice A6 ((out ++ batchE l)).length c6] :: itR 5 1 A6 ((out ++ batchE l)).length c6 (((out ++ batchE l)).map bv) :: H))
 refine go ?_
 refine wk_post0 (.inr rfl) results174  ?_
 exact ⟨_, rfl, _, _, hp.less hFr.sub, hFr.chg, fun _ h => h⟩
set_option maxHeartbeats 40000000 in
theorem gShow1_ok {gw : Nat} {out : List UInt8} {pa : Addr} {pc : Addr} {cs : List Value} {x : Chn} (hp : HP w0 M0 Fz w (itB gw 89 [.slice A out.length c] :: itR 5 1 A out.length c (out.map bv) :: H)) (hatx : AtF Fz w pa cs) (hrd : changeR.rd Fz w cs x) (hok : changeOk x) (hlen : out.length + (changeE x).length ≤ 1000000) (hcap : AtF Fz w pc [.iface 87 (.pointer (some ⟨gw, 0, none⟩))]) : Ret prog 110 #[.pointer (some pa), .pointer (some pc)] w (WrP 5 89 gw w0 M0 Fz w H (out ++ changeE x)) := by
 obtain ⟨hIx, B0, d0, B1, d1, B2, d2, rfl, hx0, hx1, hx2⟩ := hrd
 refine ret_of_wk func110 rfl ntmps110 leB_ ?_
 refine so ?_
 refine Ce (gChange_ok hp (hatx) ⟨hIx, _, _, _, _, _, _, rfl, hx0, hx1, hx2⟩ hok hlen) ?_
 rintro _ w1 ⟨A1, c1, hp, hF1⟩
 replace hp:=(hp.ay (itB gw 89 [.slice A1 ((out ++ changeE x)).length c1] :: itR 5 1 A1 ((out ++ changeE x)).length c1 (((out ++ changeE x)).map bv) :: H))
 refine so ?_
 refine wk_post0 (.inr rfl) results110  ?_
 rw [show out ++ changeE x = (out ++ changeE x) from by simp only [changeE, ← List.append_assoc]]
 have hFr:=mv (S := Fz) (w := w) (w' := w1)
 exact ⟨_, rfl, _, _, hp.less hFr.sub, hFr.chg, fun _ h => h⟩
set_option maxHeartbeats 40000000 in
theorem nBatch_ok {gr : Nat} {l : List UInt8} {bad : Bool} {X : List Value → It} {pX : Addr} (hp : HP w0 M0 Fz w (itB gr 103 [.slice A l.length c, .bool bad] :: X ([.slice none 0 0]) :: H)) (hS : Slot X pX 1) (hl : GS byteR Fz w A c l) : Ret prog 185 #[.pointer (some ⟨gr, 0, none⟩), .pointer (some pX)] w (RdP 103 gr w0 M0 Fz w H X (sliceR wishR) batchP bad l) := by
 refine ret_of_wk func185 rfl ntmps185 leB_ ?_
 refine so ?_
 refine Alo hp (h := fun gs4 w1 hp hE1 => so ?_)
 replace hp:=((hp.up 0 rfl).up 1 rfl).as_ (H' := itB gr 103 [.slice A l.length c, .bool bad] :: itB gs4 26 ([s0]) :: X ([s0]) :: H) rfl
 refine Ce (nStr_ok (X := (fun cs => itB gs4 26 (([]) ++ (cs ++ ([]))))) (pX := ⟨gs4, 0, none⟩) (most := 65536) hp (Slot.blk ([]) ([])) hl.to) ?_
 rintro _ w2 ⟨F2, A2, c2, l2, b2, cs2, x2, hp, hF2, hl2, hrd2, hst2⟩
 obtain ⟨B2, d2, rfl, hg2⟩ := hrd2
 refine so ?_
 refine Ce (wUnb_ok hp hg2) ?_
 rintro _ w3 ⟨F3, A3, c3, x3, e3, rfl, hp, hF3, hg3, hu3⟩
 refine so ?_
 refine Gs 19 ?_ ?_<;>intro hg1<;>refine so ?_
 refine H1 0 hp (h := fun w4 hp hC4 => so ?_)
 refine aF (so ?_)
 refine wk_post0 (.inr rfl) results185  ?_
 exact ⟨_, rfl, _, A2, c2, l2, true, _, [], (((hp.up 1 rfl).tail.up 1 rfl).up 1 rfl), mv, hl2.to, sliceR_mk (GS.nil _ _ _ none 0), step_batch hst2 hu3 (by first | (simp_all; done) | rfl) (fun h => by first | rfl | (simp_all; done))⟩
 refine H1 0 hp (h := fun w5 hp hC5 => so ?_)
 refine Cd ?_ ?_<;>intro hc2<;>refine so ?_
 refine wl_sstore1 0 (i := 2) hS (by rw [add_zero']; rfl) rfl hp rfl rfl sz24 (by decide) rfl ?_
 rintro w6 hp hC6
 refine so ?_
 refine wk_post0 (.inr rfl) results185  ?_
 exact ⟨_, rfl, _, A2, c2, l2, (decide (e3 ≠ 0)), _, x3, (((hp.up 1 rfl).tail.up 1 rfl).up 1 rfl), mv, hl2.to, sliceR_mk hg3.to, step_batch hst2 hu3 (by first | (simp_all; done) | rfl) (fun h => by first | rfl | (simp_all; done))⟩
 refine wk_post0 (.inr rfl) results185  ?_
 exact ⟨_, rfl, _, A2, c2, l2, (decide (e3 ≠ 0)), _, [], (((hp.up 1 rfl).tail.up 1 rfl).up 1 rfl), mv, hl2.to, sliceR_mk (GS.nil _ _ _ none 0), step_batch hst2 hu3 (by first | (simp_all; done) | rfl) (fun h => by first | rfl | (simp_all; done))⟩
set_option maxHeartbeats 40000000 in
theorem rShow1_ok {gr : Nat} {l : List UInt8} {bad : Bool} {X : List Value → It} {pX pc : Addr} (hp : HP w0 M0 Fz w (itB gr 103 [.slice A l.length c, .bool bad] :: X ([.int .i64 0, .int .i64 0, .int .i64 0, .slice none 0 0, .slice none 0 0, .slice none 0 0]) :: H)) (hS : Slot X pX 6) (hl : GS byteR Fz w A c l) (hcap : AtF Fz w pc [.iface 101 (.pointer (some ⟨gr, 0, none⟩))]) : Ret prog 110 #[.pointer (some pX), .pointer (some pc)] w (RdP 103 gr w0 M0 Fz w H X changeR changeP bad l) := by
 refine ret_of_wk func110 rfl ntmps110 leB_ ?_
 refine so ?_
 refine Ce (rChange_ok (X := X) (pX := pX) hp hS hl) ?_
 rintro _ w1 ⟨F1, A1, c1, l1, b1, cs1, x1, hp, hF1, hl1, hrd1, hst1⟩
 obtain ⟨hI1, A1_0, c1_0, A1_1, c1_1, A1_2, c1_2, rfl, hr1_0, hr1_1, hr1_2⟩ := hrd1
 replace hp:=(hp.ay (itB gr 103 ([.slice A1 l1.length c1, .bool b1]) :: X ([iv x1.node, iv x1.view, iv x1.low, .slice A1_0 x1.marks.length c1_0, .slice A1_1 x1.p.length c1_1, .slice A1_2 x1.q.length c1_2]) :: H))
 refine so ?_
 refine wk_post0 (.inr rfl) results110  ?_
 exact ⟨_, rfl, _, A1, c1, l1, b1, _, x1, ((hp.up 1 rfl).up 1 rfl), mv, hl1, ⟨hI1, _, _, _, _, _, _, rfl, hr1_0, hr1_1, hr1_2⟩, hst1⟩
theorem kN_ch {out : List UInt8} {n : Int} (hp : HP w0 M0 Fz w (itR 5 1 A out.length c (out.map bv) :: H)) (hn : isNum n := by first | assumption | (unfold isNum; omega)) (hl : out.length + (numE n).length ≤ 1000000 := by (try simp only [List.length_append]); omega) : Ret prog 42 #[.slice A out.length c, .int .i64 n] w (RwP 5 w0 M0 Fz w H (out ++ numE n)) := qNum_ok hp hn hl
theorem rm_ch {p : Prop} (h : p := by (try simp only [List.length_append]); omega) : p := h
set_option maxHeartbeats 4000000 in
theorem qChange_ok {out : List UInt8} {csx : List Value} {x : Chn} (hp : HP w0 M0 Fz w (itR 5 1 A out.length c (out.map bv) :: H)) (hx : changeR.rd Fz w csx x) (hok : changeOk x) (hlen : out.length + (changeE x).length ≤ 1000000) : Ret prog 46 #[.slice A out.length c, .agg csx.toArray] w (RwP 5 w0 M0 Fz w H (out ++ changeE x)) := by
 obtain ⟨hI, B0, d0, B1, d1, B2, d2, rfl, h0, h1, h2⟩ := hx
 have mx := h0.mx
 obtain ⟨k0, k1, k2, ⟨hm1, hm2⟩, ⟨hp1, hp2⟩, hq1, hq2⟩ := hok
 have n0 := len_is hm1 (by decide)
 simp only [changeE, List.length_append] at hlen
 have hlm : (listE markE x.marks).length = (numE (x.marks.length : Int)).length + (flatE markE x.marks).length := by simp only [listE, List.length_append]
 refine ret_of_wk func46 rfl ntmps46 leB_ ?_
 refine so ?_
 refine Bx hp (h := fun gs w1 hp E1 => ?_)
 replace hp := hp.up 1 rfl
 refine so ?_
 refine Cr (kN_ch (n := x.node) hp) fun A1 c1 w2 hp F3 => so ?_
 refine Cr (kN_ch (n := x.view) hp) fun A1 c1 w2 hp F3 => so ?_
 refine Cr (kN_ch (n := x.low) hp) fun A1 c1 w2 hp F3 => so ?_
 refine Cr (kN_ch (n := (x.marks.length : Int)) hp) fun A1 c1 w2 hp F3 => so ?_
 refine Lp [0, 3, 5] (fun L' w' mes => ∃ (k : Nat), ∃ (A2 : Option Addr), ∃ (c2 : Nat), L' = [(0, .slice A2 (catE markE (out ++ numE x.node ++ numE x.view ++ numE x.low ++ numE (x.marks.length : Int)) x.marks k).length c2), (3, pt gs 0), (5, iv (k : Int))] ∧ k ≤ x.marks.length ∧ Frz Fz Fz w1 w' ∧ HP w0 M0 Fz w' (itR 5 1 A2 (catE markE (out ++ numE x.node ++ numE x.view ++ numE x.low ++ numE (x.marks.length : Int)) x.marks k).length c2 ((catE markE (out ++ numE x.node ++ numE x.view ++ numE x.low ++ numE (x.marks.length : Int)) x.marks k).map bv) :: itB gs 33 _ :: H) ∧ x.marks.length - k = mes) (x.marks.length - 0) ⟨0, A1, c1, by rw [catE_0]; rfl, Nat.zero_le _, mv, by rw [catE_0]; exact hp, rfl⟩ ?_
 rintro _ wr _ ⟨k, A2, c2, rfl, hk, F4, hp, rfl⟩ KL hKL
 refine so ?_
 refine Cd ?_ ?_ <;> intro hc
 · have hk9 : k < x.marks.length := by omega
   have hr := catE_room (E := markE) (o := out ++ numE x.node ++ numE x.view ++ numE x.low ++ numE (x.marks.length : Int)) mark0 hk9
   simp only [markE, digE, List.length_append] at hr
   obtain ⟨o1, _⟩ := getD_ok hm2 mark0 hk9
   obtain ⟨ae, hA, hae, hIe⟩ := markR_el (h0.to (F := Fz) (w' := wr)) k hk9
   refine so ?_
   refine Cr (kN_ch (n := (x.marks.getD k mark0).seq) hp) fun A3 c3 w3 hp F3 => so ?_
   refine wl_sliceA (by decide) ar23 rfl ?_
   have hd3 := hae.to (F := Fz) (w' := w3)
   refine Ar (l2 := (x.marks.getD k mark0).dig.l) hp (((hd3.at_.drop 1).take 32).bs rfl hd3.inS hd3.lt) rm_ch (fun A5 c5 w5 hp C5 => so ?_) (hm := by rw [Dig.h])
   have e := catE_s (E := markE) (o := out ++ numE x.node ++ numE x.view ++ numE x.low ++ numE (x.marks.length : Int)) mark0 hk9
   simp only [markE, digE, ← List.append_assoc] at e
   refine Kl [0, 3, 5] hKL (x.marks.length - (k + 1)) ⟨k + 1, A5, c5, by rw [e]; rfl, hk9, mv, by rw [e]; exact hp, rfl⟩ (by omega)
 obtain rfl : k = x.marks.length := by omega
 have hc9 := catE_le markE (out ++ numE x.node ++ numE x.view ++ numE x.low ++ numE (x.marks.length : Int)) x.marks x.marks.length
 simp only [List.length_append] at hc9
 refine so ?_
 refine Cr (qStands_ok hp (h1.to (F := Fz)) hp2 (len_is hp1 (by decide)) rm_ch) fun A1 c1 w2 hp F3 => so ?_
 refine Cr (qStands_ok hp (h2.to (F := Fz)) hq2 (len_is hq1 (by decide)) rm_ch) fun A1 c1 w2 hp F3 => so ?_
 refine Pt ?_
 exact enR (hp.up 1 rfl).tail (by rw [catE_all]; simp only [changeE, listE, List.append_assoc])
end Go.Proofs.YtkdoomglflikkaaGreat
namespace Go.Proofs.YtkdoomglflikkaaGreat
open Go.Eng Go.RowKit Go.Eng _root_.Go.Proofs.Tryz
set_option maxRecDepth 100000
variable {w0 w : World} {M0 Fz : Nat → Prop} {H : List It} {A : Option Addr} {c : Nat}
set_option maxHeartbeats 4000000 in
theorem rCopyN_ok {w : World} {csn : List Value} {n : Nte} {Sn : Nat → Prop} (hn : noteR.rd Sn w csn n) (hz : NteB n) : Ret prog 13 #[.agg csn.toArray] w (fun v w' => ∃ cs, v = .agg cs.toArray ∧ noteR.rd (fun b => w.heap.size ≤ b) w' cs n ∧ SpN (fun b => w.heap.size ≤ b) w' cs n ∧ Ext w w') := by
 obtain ⟨hIn, An0, cn0, An1, cn1, An2, cn2, An3, cn3, An4, cn4, An5, cn5, An6, cn6, An7, cn7, An8, cn8, An9, cn9, An10, cn10, rfl, hn0, hn1, hn2, hn3, hn4, hn5, hn6, hn7, hn8, hn9, hn10⟩ := hn
 refine ret_of_wk func13 rfl ntmps13 leB_ ?_
 have hp : HP w (fun _ => False) (fun _ => False) w [] := (HP.begin_ w).less (fun _ h => h.elim)
 refine so ?_
 refine Bx hp (h := fun gs1 w1 hp hE1 => so ?_)
 refine Alo hp (h := fun gs2 w2 hp hE2 => so ?_)
 refine Alo hp (h := fun gs3 w3 hp hE3 => so ?_)
 refine Hs 0 hp (h := fun w4 hp hC4 => so ?_)
 refine Ce (rCopyAll_ok (GS.keep hp.chg (fun _ _ _ h => h) hn0) hz.b hz.bw) ?_
 rintro _ w5 ⟨A5, c5, rfl, g5, m5, hE5⟩
 have z5 := hp.chg.size
 obtain ⟨F5, hp, hs5, nw5, hl5⟩ := hp.frz hE5
 refine so ?_
 refine H1 0 hp (h := fun w6 hp hC6 => so ?_)
 apply wdT 16 [.eq _, .eq _, .eq _, .eq _, .eq _, .eq _, SP.own 5 1 w6.heap.size n.ans.data.length (n.ans.data.map bv), .eq _, .eq _, .eq _, .eq _, .eq _, .eq _, SP.own 3 1 w6.heap.size n.ans.nodes.length (n.ans.nodes.map fun z => .int .i64 z), SP.ansN w6.heap.size n.ans, .eq _]
 refine ⟨?_, ?_, ?_, ?_, ?_, ?_, ?_, ?_, ?_, ?_, ?_, ?_, ?_, ?_, ?_, ?_, trivial⟩ <;> intro F wF hER hk
 exact Fd_ 39 fld38_8 (hk.qi 1) rfl qz
 exact Fd_ 39 fld29_0 (hk.qe 0) rfl qz
 exact Hl_ 2 sc25 (hk.qe 1) (hp.ext hER) rfl rfl qz
 exact Fd_ 39 fld38_8 (hk.qi 1) rfl qz
 exact Fd_ 40 fld29_1 (hk.qe 3) rfl qz
 exact Hl_ 2 sc26 (hk.qe 4) (hp.ext hER) rfl rfl qz
 ·have e18 := hk.qe 5
  refine Cl_ (ClC.h (P := prog) (f := 20)) (by simp only [evs, ev, e18]; first | done | rfl) (rCopyB_ok (GS.keep (hp.ext hER).chg (fun _ _ _ h => h) hn1)) ?_
  rintro _ w7 ⟨A7, c7, rfl, ho7, hE7⟩
  exact qz ⟨hE7, A7, c7, rfl, ho7.lower hER.size⟩
 exact Fd_ 39 fld38_8 (hk.qi 1) rfl qz
 exact Fd_ 41 fld29_2 (hk.qe 7) rfl qz
 exact Hl_ 2 sc3 (hk.qe 8) (hp.ext hER) rfl rfl qz
 exact Fd_ 39 fld38_8 (hk.qi 1) rfl qz
 exact Fd_ 42 fld29_3 (hk.qe 10) rfl qz
 exact Hl_ 2 sc27 (hk.qe 11) (hp.ext hER) rfl rfl qz
 ·have e25 := hk.qe 12
  refine Cl_ (ClC.h (P := prog) (f := 37)) (by simp only [evs, ev, e25]; first | done | rfl) (rCopyI_ok (GS.keep (hp.ext hER).chg (fun _ _ _ h => h) hn2) hz.an) ?_
  rintro _ w7 ⟨A7, c7, rfl, ho7, hE7⟩
  exact qz ⟨hE7, A7, c7, rfl, ho7.lower hER.size⟩
 ·have e15 := hk.qe 2
  have e22 := hk.qe 9
  obtain ⟨u19, e19, h19⟩ := hk.qp 6
  obtain ⟨A19, c19, rfl, h19⟩ := h19
  obtain ⟨u26, e26, h26⟩ := hk.qp 13
  obtain ⟨A26, c26, rfl, h26⟩ := h26
  refine wl_builtS (ps := [(0, .tmp 15), (1, .tmp 19), (2, .tmp 22), (3, .tmp 26)]) (by decide) bld29 (by simp only [evp, ev, e15, e19, e22, e26]; first | done | rfl) rfl ?_
  exact qz ⟨Chg.refl _ _, A19, c19, A26, c26, rfl, h19, h26⟩
 exact Fd_ 39 fld38_8 (hk.qi 3) rfl qz
 intro F wD hED hini hdo
 obtain ⟨u27, e27, h27⟩ := hdo 14 27 (Nat.lt_of_lt_of_eq (by decide) rfl) rfl
 obtain ⟨A7, c7, B7, d7, rfl, ho7, hq7⟩ := h27
 refine wl_drop [(1, _), (2, _), (3, _), (27, _), (28, _)] ⟨di hini 1, di hini 2, di hini 3, e27, dr hdo 15, trivial⟩ ?_
 clear hini hdo e27
 have z7 := hp.chg.size
 obtain ⟨F7, hp, hs7, nw7, hl7⟩ := hp.frz hED
 refine Hs 0 hp (h := fun w8 hp hC8 => so ?_)
 refine Ce (rCopyC_ok ⟨hIn.change, _, _, _, _, _, _, rfl, GS.keep hp.chg (fun _ _ _ h => h) hn3, GS.keep hp.chg (fun _ _ _ h => h) hn4, GS.keep hp.chg (fun _ _ _ h => h) hn5⟩ hz.c) ?_
 rintro _ w9 ⟨cs9, rfl, ⟨hI9, A9, c9, B9, d9, C9, e9, rfl, g9, g9', g9''⟩, hE9⟩
 have z9 := hp.chg.size
 obtain ⟨F9, hp, hs9, nw9, hl9⟩ := hp.frz hE9
 refine so ?_
 refine Hs 0 hp (h := fun w10 hp hC10 => so ?_)
 refine H1 0 hp (h := fun w11 hp hC11 => so ?_)
 have hF9 : ∀ b, F9 b → w.heap.size ≤ b := fun b hb => by
  rcases hl9 b hb with h | h
  ·rcases hl7 b h with h | h
   ·rcases hl5 b h with h | h
    ·exact h.elim
    ·omega
   ·omega
  ·omega
 replace hp := hp.noRow 33 6
 refine so ?_
 refine Lp [1, 2, 3, 4] (fun L' w' mes => ∃ (k : Nat), ∃ (F : Nat → Prop), ∃ (A3 : Option Addr), ∃ (c3 : Nat), ∃ (rows : List (List Value)), L' = [(1, pt gs1 0), (2, pt gs2 0), (3, pt gs3 0), (4, iv (k : Int))] ∧ k ≤ n.changes.length ∧ HP w (fun _ => False) F w' [itR 33 6 A3 k c3 rows.flatten, itB gs3 38 (List.set _ 51 (.slice A3 k c3)), itB gs2 38 _, itB gs1 38 _] ∧ RF changeR F w' rows (n.changes.take k) ∧ Frz F9 F w11 w' ∧ (∀ b, F b → w.heap.size ≤ b) ∧ n.changes.length - k = mes) (n.changes.length - 0)
  ⟨0, F9, none, 0, [], rfl, Nat.zero_le _, hp, RF.nil _ _ _, Frz.start _ _, hF9, rfl⟩ ?_
 rintro _ wr _ ⟨k, F, A3, c3, rows, rfl, hk, hp, hR, hf9, hlo, rfl⟩ KL1 hKL1
 refine so ?_
 refine Cd ?_ ?_<;>intro hc1
 ·have hk9 : k < n.changes.length := by omega
  have hch := hz.ch
  obtain ⟨ae, p0, q0, p1, q1, p2, q2, hAe, hate, hIe, he0, he1, he2⟩ := changeR_el hn6 k hk9
  have hmem : n.changes.getD k change0 ∈ n.changes := by rw [List.getD_eq_getElem?_getD, List.getElem?_eq_getElem hk9]; exact List.getElem_mem hk9
  refine so ?_
  have b3 := (hp.blkAt (i := 1) rfl).lt
  have b2 := (hp.blkAt (i := 2) rfl).lt
  have b1 := (hp.blkAt (i := 3) rfl).lt
  have zr := hp.chg.size
  obtain ⟨KM, ⟨hRo, hRk⟩, hKF, hKlt, hpo, hup⟩ := hp.apart (i := 0) rfl
  apply wc_drawTM 11 9 KM [.eq _, .eq _, .eq _, .eq _, .eq _, .eq _, .eq _, SP.rd changeR (fun b => wr.heap.size ≤ b) (n.changes.getD k change0), SP.oneN changeR 33 wr.heap.size (n.changes.getD k change0), SP.turnN changeR KM 33 wr.heap.size (k + 1) rows.flatten (n.changes.getD k change0), .eq (pt gs3 51)] (by kernel_rfl) (by kernel_rfl)
   ⟨.inr (fun _ _ _ _ h => h), .inr (fun _ _ _ _ h => h), .inr (fun _ _ _ _ h => h), .inr (fun _ _ _ _ h => h), .inr (fun _ _ _ _ h => h), .inr (fun _ _ _ _ h => h), .inr (fun _ _ _ _ h => h), .inr (SP.rd_st hKlt), .inr (SP.oneN_st hKlt), .inl rfl, .inr (fun _ _ _ _ h => h), trivial⟩
  refine ⟨?_, ?_, ?_, ?_, ?_, ?_, ?_, ?_, ?_, ?_, ?_, trivial⟩ <;> intro F' wF hER hEE hk'
  exact Fd_ 51 fld38_12 (hk'.qi 3) rfl qz
  exact Hl_ 0 sc34 (hk'.qe 0) (hpo _ hER) rfl rfl qz
  exact Fd_ 51 fld38_12 (hk'.qi 1) rfl qz
  exact Hl_ 2 sc34 (hk'.qe 2) (hpo _ hER) rfl rfl qz
  exact dm (hk'.qi 4)
  exact wl_idx0 (by decide) sl34 (hk'.qe 3) (hk'.qe 4) hAe k rfl (by omega) qz
  exact wl_loadA (by decide) ag33 (hk'.qe 5) (At.keep (hpo _ hER).chg (fun _ h => h) hate.at_) rfl qz
  ·have e47 := hk'.qe 6
   refine Cl_ (ClC.h (P := prog) (f := 29)) (by simp only [evs, ev, e47]; first | done | rfl) (rCopyC_ok ⟨hIe, _, _, _, _, _, _, rfl, GS.keep (hpo _ hER).chg (fun _ _ _ h => h) he0, GS.keep (hpo _ hER).chg (fun _ _ _ h => h) he1, GS.keep (hpo _ hER).chg (fun _ _ _ h => h) he2⟩ (hz.cs _ hmem)) ?_
   rintro _ w7 ⟨cs7, rfl, h7, hE7⟩
   exact qz ⟨hE7, cs7, rfl, changeR.mono (fun b _ h => Nat.le_trans hER.size h) h7⟩
  ·obtain ⟨u48, e48, h48⟩ := hk'.qp 7
   obtain ⟨cs8, rfl, h8⟩ := h48
   refine wl_bslice (size := 6) (xs := [.tmp 48]) (vs := [.agg cs8.toArray]) (by decide) sl34 rfl (by simp only [evs, ev, e48]; first | done | rfl) rfl (by intro v hv; rw [List.mem_singleton.1 hv]; show cs8.toArray.size = 6; rw [List.size_toArray]; exact changeR.len h8) leB_ 0 (Nat.zero_le _) ?_
   rintro gt wt hgt hot hEt
   exact qz ⟨hEt, gt, cs8, rfl, by rw [hgt]; exact hER.size, (show OwnRow 33 6 0 wt (some ⟨gt, 0, none⟩) 1 1 cs8 by simpa [Value.cells] using hot), changeR.keep hEt (fun _ _ _ x => x) h8⟩
  ·have hEx := hEE rfl
   have e42 := hk'.qe 1
   obtain ⟨u49, e49, h49⟩ := hk'.qp 8
   obtain ⟨gt, cs9, rfl, hgt0, hot, h9⟩ := h49
   refine wl_append (size := 6) (m := 1) (news := cs9) (by decide) sl34 e42 e49 (hRo.ext hEx) (changeR.len h9) (fun b hb => by cases hb; exact hot.at0) (by simp) (changeR.one h9) (by omega) (Nat.zero_le _) ?_
   rintro A4 c4 w4' ho4 hch4 h44
   have h9' := changeR.mono (S' := fun b => wr.heap.size ≤ b ∧ ¬ (c4 ≠ 0 ∧ blk A4 b)) (fun b hb hs => ⟨hs, fun hbl => by
    rcases h44 with ⟨rfl, rfl⟩ | rfl
    ·exact absurd (hKlt _ ((hRk b).2 hbl)) (Nat.not_lt.2 hs)
    ·obtain ⟨_, a, ha, rfl⟩ := hbl
     cases ha
     exact absurd hb (Nat.lt_irrefl _)⟩) h9
   exact qz ⟨hch4.weak (fun b _ x => (hRk b).2 ⟨x.1, x.2.2⟩), A4, c4, cs9, rfl, ho4, fun b hb => (by
    rcases h44 with ⟨rfl, rfl⟩ | rfl
    ·exact .inl ((hRk b).2 hb)
    ·obtain ⟨_, a, ha, rfl⟩ := hb
     cases ha
     exact .inr hEx.size), changeR.keep hch4 (fun b _ hs hM => absurd (hKlt _ ((hRk b).2 ⟨hM.1, hM.2.2⟩)) (Nat.not_lt.2 hs.1)) h9'⟩
  exact Fd_ 51 fld38_12 (hk'.qi 3) rfl qz
  intro F' wD hED hini hdo
  obtain ⟨u50, e50, h50⟩ := hdo 9 50 (Nat.lt_of_lt_of_eq (by decide) rfl) rfl
  obtain ⟨A4, c4, cs4, rfl, ho4, hK4, hr4⟩ := h50
  refine wl_drop [(1, _), (2, _), (3, _), (4, _), (50, _), (51, _)] ⟨di hini 1, di hini 2, di hini 3, di hini 4, e50, dr hdo 10, trivial⟩ ?_
  clear hini hdo e50
  replace hp := hup _ (itR 33 6 A4 (k + 1) c4 (rows.flatten ++ cs4)) (fun b => c4 ≠ 0 ∧ blk A4 b) hED ⟨ho4, fun _ => Iff.rfl⟩ hK4
  have hq3 := hp.frzN (fun b => wr.heap.size ≤ b ∧ b < wD.heap.size ∧ ¬ (c4 ≠ 0 ∧ blk A4 b)) (fun b h => h.2.1) (by
   intro x hx K hK b hb hN
   simp only [List.set_cons_zero, List.mem_cons, List.not_mem_nil, or_false] at hx
   rcases hx with rfl | rfl | rfl | rfl
   ·exact hN.2.2 ((hK.2 b).1 hb)
   ·have := (hK.2 b).1 hb; omega
   ·have := (hK.2 b).1 hb; omega
   ·have := (hK.2 b).1 hb; omega)
  replace hp := hq3
  have hfF : Frz F (fun b => F b ∨ (wr.heap.size ≤ b ∧ b < wD.heap.size ∧ ¬ (c4 ≠ 0 ∧ blk A4 b))) wr wD := ⟨hED.weak (fun b _ h hf => hKF b h hf), fun b h => .inl h⟩
  refine so ?_
  refine H1 1 hp (h := fun w12 hp hC12 => so ?_)
  have hf12 : Frz (fun b => F b ∨ (wr.heap.size ≤ b ∧ b < wD.heap.size ∧ ¬ (c4 ≠ 0 ∧ blk A4 b))) (fun b => F b ∨ (wr.heap.size ≤ b ∧ b < wD.heap.size ∧ ¬ (c4 ≠ 0 ∧ blk A4 b))) wD w12 := ⟨hC12, fun b h => h⟩
  have hcs : changeR.rd (fun b => F b ∨ (wr.heap.size ≤ b ∧ b < wD.heap.size ∧ ¬ (c4 ≠ 0 ∧ blk A4 b))) w12 cs4 (n.changes.getD k change0) := changeR.keep hC12 (fun b hb hs hn => hn hs) (changeR.mono (fun b hb hs => .inr ⟨hs.1, hb, hs.2⟩) hr4)
  rw [List.set_set] at hp
  refine Kl [1, 2, 3, 4] hKL1 (n.changes.length - (k + 1)) ⟨k + 1, (fun b => F b ∨ (wr.heap.size ≤ b ∧ b < wD.heap.size ∧ ¬ (c4 ≠ 0 ∧ blk A4 b))), A4, c4, rows ++ [cs4], rfl, by omega, ?_, ?_, ?_, ?_, rfl⟩ (by omega)
  ·rw [flat_snoc, List.append_nil]; exact hp
  ·rw [take_snoc change0 hk9]
   exact RF.append ((hR.to hfF).to hf12) (RF.one hcs)
  ·exact (Frz.bF hf12 (Frz.bF hfF hf9))
  ·intro b hb
   rcases hb with h | h
   ·exact hlo b h
   ·exact Nat.le_trans zr h.1
 obtain rfl : k = n.changes.length := by omega
 rw [List.take_length] at hR
 have hlr := (hp.rowLo (i := 0) rfl)
 have g12 : GS changeR (fun b => F b ∨ (c3 ≠ 0 ∧ blk A3 b)) wr A3 c3 n.changes := OwnRow.gsRF (r := changeR) (hp.rowAt (i := 0) rfl) (hR.wid (fun b h => .inl h)) (fun b hc hb => .inr ⟨hc, hb⟩)
 replace hp := hp.frzRowN
 have hs12 : ∀ b, F b → F b ∨ (c3 ≠ 0 ∧ blk A3 b) := fun b h => .inl h
 have hlo12 : ∀ b, F b ∨ (c3 ≠ 0 ∧ blk A3 b) → w.heap.size ≤ b := fun b hb => hb.elim (hlo b) (fun h => (hlr.lt h.1 b h.2).1)
 refine so ?_
 refine H1 0 hp (h := fun w13 hp hC13 => so ?_)
 replace hp := hp.noRow 66 34
 refine Lp [1, 2, 3, 5] (fun L' w' mes => ∃ (k : Nat), ∃ (F : Nat → Prop), ∃ (A3 : Option Addr), ∃ (c3 : Nat), ∃ (rows : List (List Value)), L' = [(1, pt gs1 0), (2, pt gs2 0), (3, pt gs3 0), (5, iv (k : Int))] ∧ k ≤ n.picks.length ∧ HP w (fun _ => False) F w' [itR 66 34 A3 k c3 rows.flatten, itB gs3 38 (List.set _ 52 (.slice A3 k c3)), itB gs2 38 _, itB gs1 38 _] ∧ RF pickR F w' rows (n.picks.take k) ∧ Frz _ F w13 w' ∧ (∀ b, F b → w.heap.size ≤ b) ∧ n.picks.length - k = mes) (n.picks.length - 0)
  ⟨0, _, none, 0, [], rfl, Nat.zero_le _, hp, RF.nil _ _ _, Frz.start _ _, hlo12, rfl⟩ ?_
 rintro _ wr2 _ ⟨k, F2, A4, c4, rows2, rfl, hk2, hp, hR2, hf13, hlo2, rfl⟩ KL2 hKL2
 refine so ?_
 refine Cd ?_ ?_<;>intro hc2
 ·have hk9 : k < n.picks.length := by omega
  have hpz := hz.p
  obtain ⟨ae, p0, q0, hAe, hate, hIe, he0⟩ := pickR_el hn7 k hk9
  have hmem : n.picks.getD k pick0 ∈ n.picks := by rw [List.getD_eq_getElem?_getD, List.getElem?_eq_getElem hk9]; exact List.getElem_mem hk9
  have hEw : Ext w wr2 := hp.chg
  refine so ?_
  refine Alo hp (h := fun gs6 w14 hp hE14 => so ?_)
  refine Hs 0 hp (h := fun w15 hp hC15 => so ?_)
  have b6 := (hp.blkAt (i := 0) rfl).lt
  have b3 := (hp.blkAt (i := 2) rfl).lt
  have b2 := (hp.blkAt (i := 3) rfl).lt
  have b1 := (hp.blkAt (i := 4) rfl).lt
  have zr := hp.chg.size
  have hf15 : Frz F2 F2 wr2 w15 := mv
  obtain ⟨KM, ⟨hRo, hRk⟩, hKF, hKlt, hpo, hup⟩ := hp.apart (i := 1) rfl
  apply wc_drawTM 13 11 KM [.eq _, .eq _, .eq _, .eq _, .eq _, .eq _, .eq _, .eq _, SP.gs wishR (fun b => w15.heap.size ≤ b) (n.picks.getD k pick0).batch, SP.rd pickR (fun b => w15.heap.size ≤ b) (n.picks.getD k pick0), SP.oneN pickR 66 w15.heap.size (n.picks.getD k pick0), SP.turnN pickR KM 66 w15.heap.size (k + 1) rows2.flatten (n.picks.getD k pick0), .eq (pt gs3 52)] (by kernel_rfl) (by kernel_rfl)
   ⟨.inr (fun _ _ _ _ h => h), .inr (fun _ _ _ _ h => h), .inr (fun _ _ _ _ h => h), .inr (fun _ _ _ _ h => h), .inr (fun _ _ _ _ h => h), .inr (fun _ _ _ _ h => h), .inr (fun _ _ _ _ h => h), .inr (fun _ _ _ _ h => h), .inr (SP.gs_st hKlt), .inr (SP.rd_st hKlt), .inr (SP.oneN_st hKlt), .inl rfl, .inr (fun _ _ _ _ h => h), trivial⟩
  refine ⟨?_, ?_, ?_, ?_, ?_, ?_, ?_, ?_, ?_, ?_, ?_, ?_, ?_, trivial⟩ <;> intro F' wF hER hEE hk'
  exact Fd_ 52 fld38_13 (hk'.qi 3) rfl qz
  exact Hl_ 1 sc35 (hk'.qe 0) (hpo _ hER) rfl rfl qz
  exact Fd_ 0 fld66_0 (hk'.qi 6) rfl qz
  exact Hl_ 0 sc3 (hk'.qe 2) (hpo _ hER) rfl rfl qz
  exact Fd_ 1 fld66_1 (hk'.qi 6) rfl qz
  exact Hx_ (digC (n.picks.getD k pick0).dig) 0 ag23 (hk'.qe 4) (hpo _ hER) rfl rfl rfl qz
  exact Fd_ 33 fld66_2 (hk'.qi 6) rfl qz
  exact Hl_ 0 sc24 (hk'.qe 6) (hpo _ hER) rfl rfl qz
  ·have e72 := hk'.qe 7
   refine Cl_ (ClC.h (P := prog) (f := 36)) (by simp only [evs, ev, e72]; first | done | rfl) (rCopyAll_ok (GS.keep (hpo _ hER).chg (fun _ _ _ h => h) he0) (hz.pb _ hmem) (hz.pw _ hmem)) ?_
   rintro _ w7 ⟨A7, c7, rfl, h7, _, hE7⟩
   exact qz ⟨hE7, A7, c7, rfl, h7.mono (fun b _ h => Nat.le_trans hER.size h)⟩
  ·have e68 := hk'.qe 3
   have e70 := hk'.qe 5
   obtain ⟨u73, e73, h73⟩ := hk'.qp 8
   obtain ⟨A73, c73, rfl, h73⟩ := h73
   refine wl_builtS (ps := [(0, .tmp 68), (1, .tmp 70), (2, .tmp 73)]) (by decide) bld66 (by simp only [evp, ev, e68, e70, e73]; first | done | rfl) rfl ?_
   exact qz ⟨Chg.refl _ _, _, rfl, ⟨hIe, _, _, rfl, h73⟩⟩
  ·obtain ⟨u48, e48, h48⟩ := hk'.qp 9
   obtain ⟨cs8, rfl, h8⟩ := h48
   refine wl_bslice (size := 34) (xs := [.tmp 74]) (vs := [.agg cs8.toArray]) (by decide) sl35 rfl (by simp only [evs, ev, e48]; first | done | rfl) rfl (by intro v hv; rw [List.mem_singleton.1 hv]; show cs8.toArray.size = 34; rw [List.size_toArray]; exact pickR.len h8) leB_ 0 (Nat.zero_le _) ?_
   rintro gt wt hgt hot hEt
   exact qz ⟨hEt, gt, cs8, rfl, by rw [hgt]; exact hER.size, (show OwnRow 66 34 0 wt (some ⟨gt, 0, none⟩) 1 1 cs8 by simpa [Value.cells] using hot), pickR.keep hEt (fun _ _ _ x => x) h8⟩
  ·have hEx := hEE rfl
   have e42 := hk'.qe 1
   obtain ⟨u49, e49, h49⟩ := hk'.qp 10
   obtain ⟨gt, cs9, rfl, hgt0, hot, h9⟩ := h49
   refine wl_append (size := 34) (m := 1) (news := cs9) (by decide) sl35 e42 e49 (hRo.ext hEx) (pickR.len h9) (fun b hb => by cases hb; exact hot.at0) (by simp) (pickR.one h9) (by omega) (Nat.zero_le _) ?_
   rintro A5 c5 w4' ho4 hch4 h44
   have h9' := pickR.mono (S' := fun b => w15.heap.size ≤ b ∧ ¬ (c5 ≠ 0 ∧ blk A5 b)) (fun b hb hs => ⟨hs, fun hbl => by
    rcases h44 with ⟨rfl, rfl⟩ | rfl
    ·exact absurd (hKlt _ ((hRk b).2 hbl)) (Nat.not_lt.2 hs)
    ·obtain ⟨_, a, ha, rfl⟩ := hbl
     cases ha
     exact absurd hb (Nat.lt_irrefl _)⟩) h9
   exact qz ⟨hch4.weak (fun b _ x => (hRk b).2 ⟨x.1, x.2.2⟩), A5, c5, cs9, rfl, ho4, fun b hb => (by
    rcases h44 with ⟨rfl, rfl⟩ | rfl
    ·exact .inl ((hRk b).2 hb)
    ·obtain ⟨_, a, ha, rfl⟩ := hb
     cases ha
     exact .inr hEx.size), pickR.keep hch4 (fun b _ hs hM => absurd (hKlt _ ((hRk b).2 ⟨hM.1, hM.2.2⟩)) (Nat.not_lt.2 hs.1)) h9'⟩
  exact Fd_ 52 fld38_13 (hk'.qi 3) rfl qz
  intro F' wD hED hini hdo
  obtain ⟨u76, e76, h76⟩ := hdo 11 76 (Nat.lt_of_lt_of_eq (by decide) rfl) rfl
  obtain ⟨A5, c5, cs4, rfl, ho4, hK4, hr4⟩ := h76
  refine wl_drop [(1, _), (2, _), (3, _), (5, _), (76, _), (77, _)] ⟨di hini 1, di hini 2, di hini 3, di hini 5, e76, dr hdo 12, trivial⟩ ?_
  clear hini hdo e76
  replace hp := hup _ (itR 66 34 A5 (k + 1) c5 (rows2.flatten ++ cs4)) (fun b => c5 ≠ 0 ∧ blk A5 b) hED ⟨ho4, fun _ => Iff.rfl⟩ hK4
  have hq3 := hp.frzN (fun b => w15.heap.size ≤ b ∧ b < wD.heap.size ∧ ¬ (c5 ≠ 0 ∧ blk A5 b)) (fun b h => h.2.1) (by
   intro x hx K hK b hb hN
   simp only [List.set_cons_zero, List.set_cons_succ, List.mem_cons, List.not_mem_nil, or_false] at hx
   rcases hx with rfl | rfl | rfl | rfl | rfl
   ·have := (hK.2 b).1 hb; omega
   ·exact hN.2.2 ((hK.2 b).1 hb)
   ·have := (hK.2 b).1 hb; omega
   ·have := (hK.2 b).1 hb; omega
   ·have := (hK.2 b).1 hb; omega)
  replace hp := hq3
  have hfF : Frz F2 (fun b => F2 b ∨ (w15.heap.size ≤ b ∧ b < wD.heap.size ∧ ¬ (c5 ≠ 0 ∧ blk A5 b))) w15 wD := ⟨hED.weak (fun b _ h hf => hKF b h hf), fun b h => .inl h⟩
  refine so ?_
  refine H1 2 hp (h := fun w16 hp hC16 => so ?_)
  have hf16 : Frz (fun b => F2 b ∨ (w15.heap.size ≤ b ∧ b < wD.heap.size ∧ ¬ (c5 ≠ 0 ∧ blk A5 b))) (fun b => F2 b ∨ (w15.heap.size ≤ b ∧ b < wD.heap.size ∧ ¬ (c5 ≠ 0 ∧ blk A5 b))) wD w16 := ⟨hC16, fun b h => h⟩
  have hcs : pickR.rd (fun b => F2 b ∨ (w15.heap.size ≤ b ∧ b < wD.heap.size ∧ ¬ (c5 ≠ 0 ∧ blk A5 b))) w16 cs4 (n.picks.getD k pick0) := pickR.keep hC16 (fun b hb hs hn => hn hs) (pickR.mono (fun b hb hs => .inr ⟨hs.1, hb, hs.2⟩) hr4)
  rw [List.set_set] at hp
  refine Kl [1, 2, 3, 5] hKL2 (n.picks.length - (k + 1)) ⟨k + 1, (fun b => F2 b ∨ (w15.heap.size ≤ b ∧ b < wD.heap.size ∧ ¬ (c5 ≠ 0 ∧ blk A5 b))), A5, c5, rows2 ++ [cs4], rfl, by omega, ?_, ?_, ?_, ?_, rfl⟩ (by omega)
  ·rw [flat_snoc, List.append_nil]; exact hp.tail
  ·rw [take_snoc pick0 hk9]
   exact RF.append (((hR2.to hf15).to hfF).to hf16) (RF.one hcs)
  ·exact (Frz.bF hf16 (Frz.bF hfF (Frz.bF hf15 hf13)))
  ·intro b hb
   rcases hb with h | h
   ·exact hlo2 b h
   ·exact Nat.le_trans zr h.1
 obtain rfl : k = n.picks.length := by omega
 rw [List.take_length] at hR2
 have hlr2 := (hp.rowLo (i := 0) rfl)
 have g13 : GS pickR (fun b => F2 b ∨ (c4 ≠ 0 ∧ blk A4 b)) wr2 A4 c4 n.picks := OwnRow.gsRF (r := pickR) (hp.rowAt (i := 0) rfl) (hR2.wid (fun b h => .inl h)) (fun b hc hb => .inr ⟨hc, hb⟩)
 replace hp := hp.frzRowN
 have hs13 : ∀ b, F2 b → F2 b ∨ (c4 ≠ 0 ∧ blk A4 b) := fun b h => .inl h
 have hlo13 : ∀ b, F2 b ∨ (c4 ≠ 0 ∧ blk A4 b) → w.heap.size ≤ b := fun b hb => hb.elim (hlo2 b) (fun h => (hlr2.lt h.1 b h.2).1)
 refine so ?_
 refine wl_appN (r := digR) (lo := wr2.heap.size) (by decide) sl36 rfl rfl (GS.keep hp.chg (fun _ _ _ h => h) hn8) (fun {_ _ _ _ _ _} h => h) hz.d (Nat.le_refl _) ?_
 intro A17 c17 w17 g17 hE17
 have z17 := hp.chg.size
 obtain ⟨F17, hp, hs17, nw17, hl17⟩ := hp.frz hE17
 refine so ?_
 refine H1 0 hp (h := fun w18 hp hC18 => so ?_)
 refine Ce (rCopyB_ok (GS.keep hp.chg (fun _ _ _ h => h) hn9)) ?_
 rintro _ w19 ⟨A19, c19, rfl, ho19, hE19⟩
 have z19 := hp.chg.size
 obtain ⟨F19, hp, hs19, nw19, hl19⟩ := hp.frz hE19
 refine so ?_
 refine H1 0 hp (h := fun w20 hp hC20 => so ?_)
 refine Ce (rCopyI_ok (GS.keep hp.chg (fun _ _ _ h => h) hn10) hz.k) ?_
 rintro _ w21 ⟨A21, c21, rfl, ho21, hE21⟩
 have z21 := hp.chg.size
 obtain ⟨F21, hp, hs21, nw21, hl21⟩ := hp.frz hE21
 refine so ?_
 refine H1 0 hp (h := fun w22 hp hC22 => ?_)
 replace hp := hp.as_ (H' := [itB gs3 38 ([iv n.kind, iv n.from_, iv n.group, iv n.epoch, iv n.view, iv n.seq] ++ (digC n.dig ++ [.slice A5 n.batch.length c5, iv n.ans.err, .slice A7 n.ans.data.length c7, iv n.ans.epoch, .slice B7 n.ans.nodes.length d7, iv n.stamp, iv n.node, iv n.change.node, iv n.change.view, iv n.change.low, .slice A9 n.change.marks.length c9, .slice B9 n.change.p.length d9, .slice C9 n.change.q.length e9, .slice A3 n.changes.length c3, .slice A4 n.picks.length c4, iv n.level, iv n.place, .slice A17 n.digs.length c17, .slice A19 n.data.length c19, .slice A21 n.nodes.length c21])), itB gs2 38 _, itB gs1 38 _]) rfl
 refine so ?_
 refine Hs 1 hp (h := fun w23 hp hC23 => so ?_)
 refine wk_postR (rs := [.cell 2 38]) (.inl rfl) results13 ⟨_, _, _, rfl, rfl, loadVar_agg ag38 (hp.blkAt (i := 1) rfl).at0 rfl, rfl⟩ ?_
 have k5 := (mv : Frz F5 F21 w5 w23).chg
 have k7 := (mv : Frz F7 F21 wD w23).chg
 have k9 := (mv : Frz F9 F21 w9 w23).chg
 have k12 := (mv : Frz (fun b => F b ∨ (c3 ≠ 0 ∧ blk A3 b)) F21 wr w23).chg
 have k13 := (mv : Frz (fun b => F2 b ∨ (c4 ≠ 0 ∧ blk A4 b)) F21 wr2 w23).chg
 have k17 := (mv : Frz F17 F21 w17 w23).chg
 have k19 := (mv : Frz F19 F21 w19 w23).chg
 have k21 := (mv : Frz F21 F21 w21 w23).chg
 have q0 : GS wishR (fun b => w.heap.size ≤ b) w23 A5 c5 n.batch := (GS.keep k5 (fun b hb hs hn => hn (nw5 b hs hb)) g5).mono (fun b _ h => Nat.le_trans z5 h)
 have q1 : GS byteR (fun b => w.heap.size ≤ b) w23 A7 c7 n.ans.data := (GS.keep k7 (fun b hb hs hn => hn (nw7 b hs hb)) ho7.bs).mono (fun b _ h => Nat.le_trans z7 h)
 have q2 : GS intR (fun b => w.heap.size ≤ b) w23 B7 d7 n.ans.nodes := (GS.keep k7 (fun b hb hs hn => hn (nw7 b hs hb)) (OwnRow.gs1 (he := fun _ => rfl) hq7)).mono (fun b _ h => Nat.le_trans z7 h)
 have q3 := (GS.keep k9 (fun b hb hs hn => hn (nw9 b hs hb)) g9).mono (S' := fun b => w.heap.size ≤ b) (fun b _ h => Nat.le_trans z9 h)
 have q4 := (GS.keep k9 (fun b hb hs hn => hn (nw9 b hs hb)) g9').mono (S' := fun b => w.heap.size ≤ b) (fun b _ h => Nat.le_trans z9 h)
 have q5 := (GS.keep k9 (fun b hb hs hn => hn (nw9 b hs hb)) g9'').mono (S' := fun b => w.heap.size ≤ b) (fun b _ h => Nat.le_trans z9 h)
 have q6 := (GS.keep k12 (fun b _ hs hn => hn hs) g12).mono (S' := fun b => w.heap.size ≤ b) (fun b _ h => hlo12 b h)
 have q7 := (GS.keep k13 (fun b _ hs hn => hn hs) g13).mono (S' := fun b => w.heap.size ≤ b) (fun b _ h => hlo13 b h)
 have q8 := (GS.keep k17 (fun b hb hs hn => hn (nw17 b hs hb)) g17).mono (S' := fun b => w.heap.size ≤ b) (fun b _ h => Nat.le_trans z17 h)
 have q9 : GS byteR (fun b => w.heap.size ≤ b) w23 A19 c19 n.data := (GS.keep k19 (fun b hb hs hn => hn (nw19 b hs hb)) ho19.bs).mono (fun b _ h => Nat.le_trans z19 h)
 have q10 : GS intR (fun b => w.heap.size ≤ b) w23 A21 c21 n.nodes := (GS.keep k21 (fun b hb hs hn => hn (nw21 b hs hb)) (OwnRow.gs1 (he := fun _ => rfl) ho21)).mono (fun b _ h => Nat.le_trans z21 h)
 refine ⟨_, rfl, _, rfl, ⟨hIn, _, _, _, _, _, _, _, _, _, _, _, _, _, _, _, _, _, _, _, _, _, _, rfl, q0, q1, q2, q3, q4, q5, q6, q7, q8, q9, q10⟩, ⟨?_, ?_, ?_, ?_⟩, hp.chg⟩
 ·intro A c e
  cases (show some (Value.slice A5 n.batch.length c5) = some (.slice A n.batch.length c) from e)
  exact WshAt.mono (WshAt.keep m5 k5 (fun b hb hs hn => hn (nw5 b hs hb))) (fun b _ h => Nat.le_trans z5 h)
 ·intro A c e
  cases (show some (Value.slice A19 n.data.length c19) = some (.slice A n.data.length c) from e)
  exact IntsAt.mono (IntsAt.keep ho19.bytesI k19 (fun b hb hs hn => hn (nw19 b hs hb))) (fun b _ h => Nat.le_trans z19 h)
 ·intro A c e
  cases (show some (Value.slice A21 n.nodes.length c21) = some (.slice A n.nodes.length c) from e)
  exact IntsAt.mono (IntsAt.keep ho21.intsI k21 (fun b hb hs hn => hn (nw21 b hs hb))) (fun b _ h => Nat.le_trans z21 h)
 ·intro A c e
  cases (show some (Value.slice A3 n.changes.length c3) = some (.slice A n.changes.length c) from e)
  intro i hi
  obtain ⟨cs, h1, h2⟩ := hR.2 i hi
  obtain ⟨_, _, _, _, _, _, _, rfl, _⟩ := h2
  obtain ⟨a, hA, hI⟩ := hlr.cellI ((flat_get hR.lens h1 (o := 2) (by decide)).trans rfl)
  have h4 : IntAt (fun b => F b ∨ (c3 ≠ 0 ∧ blk A3 b)) wr .i64 (a.add (i * 6 + 2)) := ⟨.inr ⟨by have := hlr.le; omega, a, hA, by rw [block_add]⟩, hI.ex, hI.nf⟩
  have h5 := h4.keep k12 (fun b _ hs hn => hn hs)
  exact ⟨a, hA, hlo12 _ h5.inS, h5.ex, h5.nf⟩
end Go.Proofs.YtkdoomglflikkaaGreat
namespace Go.Proofs.YtkdoomglflikkaaGreat
open Go.ChangeShapes Go.WideShapes Go.ChangeAt Go.RowKit Go.Eng Go.Eng _root_.Go.Proofs.Tryz
set_option maxRecDepth 100000
variable {w0 w : World} {M0 Fz : Nat → Prop} {H : List It} {A : Option Addr} {c : Nat}
theorem reads_NteB : ReadsR Tryz.prog 38 noteR NteB := by
  intro H enc w base sp held fuel cs x h hlt hw
  have hlen := trod_structLen Tryz.underlying38 h
  rw [Tryz.ce38] at hlen
  obtain ⟨v0, h0, g0⟩ := reads_field Tryz.underlying38 (i := 0) rfl (reads_int Tryz.underlying3) h hlt hw
  replace h0 : intR.rd _ _ ((cs.drop 0).take (Tryz.prog.cellsOf 3)) v0 := h0
  rw [Tryz.ce3] at h0
  have e0 : (cs.drop 0).take 1 = [.int .i64 v0] := h0
  obtain ⟨v1, h1, g1⟩ := reads_field Tryz.underlying38 (i := 1) rfl (reads_int Tryz.underlying3) h hlt hw
  replace h1 : intR.rd _ _ ((cs.drop 1).take (Tryz.prog.cellsOf 3)) v1 := h1
  rw [Tryz.ce3] at h1
  have e1 : (cs.drop 1).take 1 = [.int .i64 v1] := h1
  obtain ⟨v2, h2, g2⟩ := reads_field Tryz.underlying38 (i := 2) rfl (reads_int Tryz.underlying3) h hlt hw
  replace h2 : intR.rd _ _ ((cs.drop 2).take (Tryz.prog.cellsOf 3)) v2 := h2
  rw [Tryz.ce3] at h2
  have e2 : (cs.drop 2).take 1 = [.int .i64 v2] := h2
  obtain ⟨v3, h3, g3⟩ := reads_field Tryz.underlying38 (i := 3) rfl (reads_int Tryz.underlying3) h hlt hw
  replace h3 : intR.rd _ _ ((cs.drop 3).take (Tryz.prog.cellsOf 3)) v3 := h3
  rw [Tryz.ce3] at h3
  have e3 : (cs.drop 3).take 1 = [.int .i64 v3] := h3
  obtain ⟨v4, h4, g4⟩ := reads_field Tryz.underlying38 (i := 4) rfl (reads_int Tryz.underlying3) h hlt hw
  replace h4 : intR.rd _ _ ((cs.drop 4).take (Tryz.prog.cellsOf 3)) v4 := h4
  rw [Tryz.ce3] at h4
  have e4 : (cs.drop 4).take 1 = [.int .i64 v4] := h4
  obtain ⟨v5, h5, g5⟩ := reads_field Tryz.underlying38 (i := 5) rfl (reads_int Tryz.underlying3) h hlt hw
  replace h5 : intR.rd _ _ ((cs.drop 5).take (Tryz.prog.cellsOf 3)) v5 := h5
  rw [Tryz.ce3] at h5
  have e5 : (cs.drop 5).take 1 = [.int .i64 v5] := h5
  obtain ⟨v6, h6, g6⟩ := reads_field Tryz.underlying38 (i := 6) rfl reads_t23 h hlt hw
  replace h6 : digR.rd _ _ ((cs.drop 6).take (Tryz.prog.cellsOf 23)) v6 := h6
  rw [Tryz.ce23] at h6
  have e6 : (cs.drop 6).take 32 = digC v6 := h6
  obtain ⟨v7, h7, g7⟩ := reads_field Tryz.underlying38 (i := 7) rfl reads_t24B h hlt hw
  replace h7 : (sliceR wishR).rd _ _ ((cs.drop 38).take (Tryz.prog.cellsOf 24)) v7 := h7
  rw [Tryz.ce24] at h7
  obtain ⟨A7, c7, e7, k7⟩ := h7
  obtain ⟨v8, h8, g8⟩ := reads_field Tryz.underlying38 (i := 8) rfl reads_AnsB h hlt hw
  replace h8 : ansR.rd _ _ ((cs.drop 39).take (Tryz.prog.cellsOf 29)) v8 := h8
  rw [Tryz.ce29] at h8
  obtain ⟨I8, A8_0, c8_0, A8_1, c8_1, e8, k8_0, k8_1⟩ := h8
  unfold AnsI i64 at I8
  obtain ⟨v9, h9, g9⟩ := reads_field Tryz.underlying38 (i := 9) rfl (reads_int Tryz.underlying3) h hlt hw
  replace h9 : intR.rd _ _ ((cs.drop 43).take (Tryz.prog.cellsOf 3)) v9 := h9
  rw [Tryz.ce3] at h9
  have e9 : (cs.drop 43).take 1 = [.int .i64 v9] := h9
  obtain ⟨v10, h10, g10⟩ := reads_field Tryz.underlying38 (i := 10) rfl (reads_int Tryz.underlying3) h hlt hw
  replace h10 : intR.rd _ _ ((cs.drop 44).take (Tryz.prog.cellsOf 3)) v10 := h10
  rw [Tryz.ce3] at h10
  have e10 : (cs.drop 44).take 1 = [.int .i64 v10] := h10
  obtain ⟨v11, h11, g11⟩ := reads_field Tryz.underlying38 (i := 11) rfl reads_ChnB h hlt hw
  replace h11 : changeR.rd _ _ ((cs.drop 45).take (Tryz.prog.cellsOf 33)) v11 := h11
  rw [Tryz.ce33] at h11
  obtain ⟨I11, A11_0, c11_0, A11_1, c11_1, A11_2, c11_2, e11, k11_0, k11_1, k11_2⟩ := h11
  unfold ChnI i64 at I11
  obtain ⟨v12, h12, g12⟩ := reads_field Tryz.underlying38 (i := 12) rfl reads_t34B h hlt hw
  replace h12 : (sliceR changeR).rd _ _ ((cs.drop 51).take (Tryz.prog.cellsOf 34)) v12 := h12
  rw [Tryz.ce34] at h12
  obtain ⟨A12, c12, e12, k12⟩ := h12
  obtain ⟨v13, h13, g13⟩ := reads_field Tryz.underlying38 (i := 13) rfl reads_t35B h hlt hw
  replace h13 : (sliceR pickR).rd _ _ ((cs.drop 52).take (Tryz.prog.cellsOf 35)) v13 := h13
  rw [Tryz.ce35] at h13
  obtain ⟨A13, c13, e13, k13⟩ := h13
  obtain ⟨v14, h14, g14⟩ := reads_field Tryz.underlying38 (i := 14) rfl (reads_int Tryz.underlying3) h hlt hw
  replace h14 : intR.rd _ _ ((cs.drop 53).take (Tryz.prog.cellsOf 3)) v14 := h14
  rw [Tryz.ce3] at h14
  have e14 : (cs.drop 53).take 1 = [.int .i64 v14] := h14
  obtain ⟨v15, h15, g15⟩ := reads_field Tryz.underlying38 (i := 15) rfl (reads_int Tryz.underlying3) h hlt hw
  replace h15 : intR.rd _ _ ((cs.drop 54).take (Tryz.prog.cellsOf 3)) v15 := h15
  rw [Tryz.ce3] at h15
  have e15 : (cs.drop 54).take 1 = [.int .i64 v15] := h15
  obtain ⟨v16, h16, g16⟩ := reads_field Tryz.underlying38 (i := 16) rfl reads_t36 h hlt hw
  replace h16 : (sliceR digR).rd _ _ ((cs.drop 55).take (Tryz.prog.cellsOf 36)) v16 := h16
  rw [Tryz.ce36] at h16
  obtain ⟨A16, c16, e16, k16⟩ := h16
  obtain ⟨v17, h17, g17⟩ := reads_field Tryz.underlying38 (i := 17) rfl reads_t26 h hlt hw
  replace h17 : (sliceR byteR).rd _ _ ((cs.drop 56).take (Tryz.prog.cellsOf 26)) v17 := h17
  rw [Tryz.ce26] at h17
  obtain ⟨A17, c17, e17, k17⟩ := h17
  obtain ⟨v18, h18, g18⟩ := reads_field Tryz.underlying38 (i := 18) rfl reads_t27 h hlt hw
  replace h18 : (sliceR intR).rd _ _ ((cs.drop 57).take (Tryz.prog.cellsOf 27)) v18 := h18
  rw [Tryz.ce27] at h18
  obtain ⟨A18, c18, e18, k18⟩ := h18
  have e := (List.drop_zero (l := cs)).symm
  rw [seg_cons (m := 1) rfl e0] at e
  rw [seg_cons (m := 2) rfl e1] at e
  rw [seg_cons (m := 3) rfl e2] at e
  rw [seg_cons (m := 4) rfl e3] at e
  rw [seg_cons (m := 5) rfl e4] at e
  rw [seg_cons (m := 6) rfl e5] at e
  rw [seg_cons (m := 38) rfl e6] at e
  rw [seg_cons (m := 39) rfl e7] at e
  rw [seg_cons (m := 43) rfl e8] at e
  rw [seg_cons (m := 44) rfl e9] at e
  rw [seg_cons (m := 45) rfl e10] at e
  rw [seg_cons (m := 51) rfl e11] at e
  rw [seg_cons (m := 52) rfl e12] at e
  rw [seg_cons (m := 53) rfl e13] at e
  rw [seg_cons (m := 54) rfl e14] at e
  rw [seg_cons (m := 55) rfl e15] at e
  rw [seg_cons (m := 56) rfl e16] at e
  rw [seg_cons (m := 57) rfl e17] at e
  rw [seg_cons (m := 58) rfl e18] at e
  rw [List.drop_eq_nil_of_le (by rw [hlen]; exact Nat.le_refl _)] at e
  refine ⟨{ kind := v0, from_ := v1, group := v2, epoch := v3, view := v4, seq := v5, dig := v6, batch := v7, ans := v8, stamp := v9, node := v10, change := v11, changes := v12, picks := v13, level := v14, place := v15, digs := v16, data := v17, nodes := v18 }, ?_, ⟨g7.2, g7.1, g8, g11, g12.2, g12.1, g16, g18, g13.2, fun x hx => (g13.1 x hx).2, fun x hx => (g13.1 x hx).1⟩⟩
  refine ⟨by unfold NteI i64; dsimp only; omega, _, _, _, _, _, _, _, _, _, _, _, _, _, _, _, _, _, _, _, _, _, _, e.trans (by (try simp only [List.cons_append, List.nil_append, List.append_nil]); try rfl), k7, k8_0, k8_1, k11_0, k11_1, k11_2, k12, k13, k16, k17, k18⟩
end Go.Proofs.YtkdoomglflikkaaGreat
namespace Go.Proofs.YtkdoomglflikkaaGreat
open Go.RowKit Go.Eng Go.Eng _root_.Go.Proofs.Tryz
set_option maxRecDepth 100000
variable {w0 w : World} {M0 Fz : Nat → Prop} {H : List It} {A : Option Addr} {c : Nat}
theorem chapL_getD {i : Nat} (h : i < 16) : (chapL 16).getD i note0 = chapN ((i : Int) + 1) := by
 rw [List.getD_eq_getElem?_getD, chapL_get h]; rfl
set_option maxHeartbeats 40000000 in
theorem r11Bytes_ok {csx : List Value} {x : Wsh} {Sx : Nat → Prop} (hx : wishR.rd Sx w csx x) (hm : WishMay x) : Ret prog 121 #[.agg csx.toArray] w (fun v w' => ∃ A' c', v = .tuple #[.slice A' (wishE x).length c', .int .i64 0] ∧ OwnB 5 w.heap.size w' A' c' (wishE x) ∧ Ext w w') := by
 have qhx:=hx
 obtain ⟨hIx, Ax0, cx0, Ax1, cx1, rfl, hx0, hx1⟩ := hx
 obtain ⟨⟨q0, q1, q2, q3, q4, q5, q6, q7, q8, q9⟩, hwl⟩ := wish_fine hm
 have hnl : isNum (x.next.length : Int) := by have := q9.1; unfold isNum; omega
 have hokn : ∀ y ∈ x.next, isNum y := q9.2
 have hn7:=q9.1
 have hwl2:=hwl
 rw [wish_body, List.length_append] at hwl2
 have hwl3:=hwl2
 unfold bodyW at hwl3
 rw [List.length_append] at hwl3
 refine ret_of_wk func121 rfl ntmps121 leB_ ?_
 have hp:=HP.begin_ w
 refine so ?_
 refine Bx hp (h := fun gs1 w1 hp hE1 => so ?_)
 refine Cx hp (r11Check_ok (w0 := x) (rdTn qhx)) fun w2 hp hE2 => so ?_
 refine Cd ?_ ?_<;>intro hc<;>refine so ?_
 exact absurd (by rw [if_pos hm]) hc
 apply wdL [.eq _,.eq _,SP.gs byteR (fun _ => True) (numE x.kind),.eq _,.eq _,SP.gs byteR (fun _ => True) (numE x.client),.eq _,.eq _,SP.gs byteR (fun _ => True) (numE x.stamp),.eq _,.eq _,SP.gs byteR (fun _ => True) (numE x.group),.eq _,.eq _,SP.gs byteR (fun _ => True) (numE x.epoch),.eq _,.eq _,SP.gs byteR (fun _ => True) (numE x.block),SP.gs (sliceR byteR) (fun _ => True) [numE x.kind,numE x.client,numE x.stamp,numE x.group,numE x.epoch,numE x.block],SP.gs byteR (fun _ => True) (headE x),SP.gs byteR (fun _ => True) (headE x)]
 refine ⟨?_,?_,?_,?_,?_,?_,?_,?_,?_,?_,?_,?_,?_,?_,?_,?_,?_,?_,?_,?_,?_,trivial⟩<;>intro F wF hER hk
 exact Fd_ 4 fld68_4 (hk.pi 1) rfl qz
 exact Hl_ 0 sc3 (hk.pe 0) (hp.ext hER) rfl rfl qz
 have e11:=hk.pe 1
 have hcl:=fun w => r11NumW_ok (w := w) (n := x.kind) q0
 refine Cl_ cl120 (by simp only [evs, ev, e11]; first | done | rfl) (hcl _) ?_
 clear hcl
 rintro _ w7 ⟨A7, c7, rfl, ho7, hE7⟩
 exact qz ⟨hE7, _, _, rfl, ho7.bs.mono (fun _ _ _ => trivial)⟩
 exact Fd_ 0 fld68_0 (hk.pi 1) rfl qz
 exact Hl_ 0 sc3 (hk.pe 3) (hp.ext hER) rfl rfl qz
 have e14:=hk.pe 4
 have hcl:=fun w => r11NumW_ok (w := w) (n := x.client) q1
 refine Cl_ cl120 (by simp only [evs, ev, e14]; first | done | rfl) (hcl _) ?_
 clear hcl
 rintro _ w7 ⟨A7, c7, rfl, ho7, hE7⟩
 exact qz ⟨hE7, _, _, rfl, ho7.bs.mono (fun _ _ _ => trivial)⟩
 exact Fd_ 1 fld68_1 (hk.pi 1) rfl qz
 exact Hl_ 0 sc3 (hk.pe 6) (hp.ext hER) rfl rfl qz
 have e17:=hk.pe 7
 have hcl:=fun w => r11NumW_ok (w := w) (n := x.stamp) q2
 refine Cl_ cl120 (by simp only [evs, ev, e17]; first | done | rfl) (hcl _) ?_
 clear hcl
 rintro _ w7 ⟨A7, c7, rfl, ho7, hE7⟩
 exact qz ⟨hE7, _, _, rfl, ho7.bs.mono (fun _ _ _ => trivial)⟩
 exact Fd_ 2 fld68_2 (hk.pi 1) rfl qz
 exact Hl_ 0 sc3 (hk.pe 9) (hp.ext hER) rfl rfl qz
 have e20:=hk.pe 10
 have hcl:=fun w => r11NumW_ok (w := w) (n := x.group) q3
 refine Cl_ cl120 (by simp only [evs, ev, e20]; first | done | rfl) (hcl _) ?_
 clear hcl
 rintro _ w7 ⟨A7, c7, rfl, ho7, hE7⟩
 exact qz ⟨hE7, _, _, rfl, ho7.bs.mono (fun _ _ _ => trivial)⟩
 exact Fd_ 3 fld68_3 (hk.pi 1) rfl qz
 exact Hl_ 0 sc3 (hk.pe 12) (hp.ext hER) rfl rfl qz
 have e23:=hk.pe 13
 have hcl:=fun w => r11NumW_ok (w := w) (n := x.epoch) q4
 refine Cl_ cl120 (by simp only [evs, ev, e23]; first | done | rfl) (hcl _) ?_
 clear hcl
 rintro _ w7 ⟨A7, c7, rfl, ho7, hE7⟩
 exact qz ⟨hE7, _, _, rfl, ho7.bs.mono (fun _ _ _ => trivial)⟩
 exact Fd_ 5 fld68_5 (hk.pi 1) rfl qz
 exact Hl_ 0 sc3 (hk.pe 15) (hp.ext hER) rfl rfl qz
 have e26:=hk.pe 16
 have hcl:=fun w => r11NumW_ok (w := w) (n := x.block) q5
 refine Cl_ cl120 (by simp only [evs, ev, e26]; first | done | rfl) (hcl _) ?_
 clear hcl
 rintro _ w7 ⟨A7, c7, rfl, ho7, hE7⟩
 exact qz ⟨hE7, _, _, rfl, ho7.bs.mono (fun _ _ _ => trivial)⟩
 obtain ⟨u12, e12, h12⟩:=hk.pp 2
 obtain ⟨A12, c12, rfl, h12⟩ := h12
 obtain ⟨u15, e15, h15⟩:=hk.pp 5
 obtain ⟨A15, c15, rfl, h15⟩ := h15
 obtain ⟨u18, e18, h18⟩:=hk.pp 8
 obtain ⟨A18, c18, rfl, h18⟩ := h18
 obtain ⟨u21, e21, h21⟩:=hk.pp 11
 obtain ⟨A21, c21, rfl, h21⟩ := h21
 obtain ⟨u24, e24, h24⟩:=hk.pp 14
 obtain ⟨A24, c24, rfl, h24⟩ := h24
 obtain ⟨u27, e27, h27⟩:=hk.pp 17
 obtain ⟨A27, c27, rfl, h27⟩ := h27
 refine wl_bsliceS (r := byteR) (xs := [.tmp 12, .tmp 15, .tmp 18, .tmp 21, .tmp 24, .tmp 27]) (ls := [numE x.kind, numE x.client, numE x.stamp, numE x.group, numE x.epoch, numE x.block]) (by decide) sl187 rfl (by simp only [evs, ev, e12, e15, e18, e21, e24, e27]; first | done | rfl) rfl (by decide) (SlicesOf.cons h12 (SlicesOf.cons h15 (SlicesOf.cons h18 (SlicesOf.cons h21 (SlicesOf.cons h24 (SlicesOf.cons h27 SlicesOf.nil)))))) ?_
 intro g7 w7 hg7 hE7
 exact qz ⟨hE7, _, _, rfl, hg7⟩
 obtain ⟨u28, e28, h28⟩:=hk.pp 18
 obtain ⟨A28, c28, rfl, h28⟩ := h28
 have hcl:=rjoin_ok h28 (by rw [head_flat]; omega)
 refine Cl_ cl140 (by simp only [evs, ev, e28]; first | done | rfl) hcl ?_
 clear hcl
 rintro _ w7 ⟨A7, c7, rfl, ho7, hE7⟩
 rw [head_flat] at ho7 ⊢
 exact qz ⟨hE7, _, _, rfl, ho7.bs.mono (fun _ _ _ => trivial)⟩
 obtain ⟨u29, e29, h29⟩:=hk.pp 19
 obtain ⟨A29, c29, rfl, h29⟩ := h29
 refine wl_assign (by decide) e29 ?_
 exact qz ⟨Chg.refl _ _, _, _, rfl, h29⟩
 intro F w3 hED hini hdo
 have e1:=di hini 1
 obtain ⟨u4, e4, h4⟩ := hdo 20 4 rfl
 obtain ⟨A4, c4, rfl, h4⟩ := h4
 refine wk_drop [(1, _), (4, _)] ⟨e1, e4, trivial⟩ ?_
 clear e1 e4 hini hdo
 replace hp:=hp.ext hED
 refine so ?_
 have hpO:=hp
 have hdat:=(hx0.tn (w' := w3))
 apply wdL [SP.gs byteR (fun _ => True) (headE x),.eq _,.eq _,SP.gs byteR (fun _ => True) (strE x.data),.eq _,.eq _,SP.gs byteR (fun _ => True) (numE x.old),.eq _,.eq _,SP.gs byteR (fun _ => True) (numE x.new),.eq _,.eq _,.eq _,SP.gs byteR (fun _ => True) (numE (x.next.length : Int)),SP.gs (sliceR byteR) (fun _ => True) [headE x,strE x.data,numE x.old,numE x.new,numE (x.next.length : Int)],SP.own 5 1 w3.heap.size (bodyW x).length ((bodyW x).map bv),SP.own 5 1 w3.heap.size (bodyW x).length ((bodyW x).map bv)]
 refine ⟨?_,?_,?_,?_,?_,?_,?_,?_,?_,?_,?_,?_,?_,?_,?_,?_,?_,trivial⟩<;>intro F wF hER hk
 have e4:=hk.qi 4
 refine Mv_ e4 ?_
 exact qz ⟨Chg.refl _ _, _, _, rfl, h4.ext hER⟩
 exact Fd_ 6 fld68_6 (hk.qi 1) rfl qz
 exact Hl_ 0 sc26 (hk.qe 1) (hp.ext hER) rfl rfl qz
 have e32:=hk.qe 2
 have hcl:=r11StrW_ok (hdat.ext hER) (by omega)
 refine Cl_ cl122 (by simp only [evs, ev, e32]; first | done | rfl) hcl ?_
 clear hcl
 rintro _ w7 ⟨A7, c7, rfl, ho7, hE7⟩
 exact qz ⟨hE7, _, _, rfl, ho7.bs.mono (fun _ _ _ => trivial)⟩
 exact Fd_ 7 fld68_7 (hk.qi 1) rfl qz
 exact Hl_ 0 sc3 (hk.qe 4) (hp.ext hER) rfl rfl qz
 have e35:=hk.qe 5
 have hcl:=fun w => r11NumW_ok (w := w) (n := x.old) q7
 refine Cl_ cl120 (by simp only [evs, ev, e35]; first | done | rfl) (hcl _) ?_
 clear hcl
 rintro _ w7 ⟨A7, c7, rfl, ho7, hE7⟩
 exact qz ⟨hE7, _, _, rfl, ho7.bs.mono (fun _ _ _ => trivial)⟩
 exact Fd_ 8 fld68_8 (hk.qi 1) rfl qz
 exact Hl_ 0 sc3 (hk.qe 7) (hp.ext hER) rfl rfl qz
 have e38:=hk.qe 8
 have hcl:=fun w => r11NumW_ok (w := w) (n := x.new) q8
 refine Cl_ cl120 (by simp only [evs, ev, e38]; first | done | rfl) (hcl _) ?_
 clear hcl
 rintro _ w7 ⟨A7, c7, rfl, ho7, hE7⟩
 exact qz ⟨hE7, _, _, rfl, ho7.bs.mono (fun _ _ _ => trivial)⟩
 exact Fd_ 9 fld68_9 (hk.qi 1) rfl qz
 exact Hl_ 0 sc27 (hk.qe 10) (hp.ext hER) rfl rfl qz
 exact Ln_ underlying27 (hk.qe 11) qz
 have e42:=hk.qe 12
 have hcl:=fun w => r11NumW_ok (w := w) (n := (x.next.length : Int)) hnl
 refine Cl_ cl120 (by simp only [evs, ev, e42]; first | done | rfl) (hcl _) ?_
 clear hcl
 rintro _ w7 ⟨A7, c7, rfl, ho7, hE7⟩
 exact qz ⟨hE7, _, _, rfl, ho7.bs.mono (fun _ _ _ => trivial)⟩
 obtain ⟨u30, e30, h30⟩:=hk.qp 0
 obtain ⟨A30, c30, rfl, h30⟩ := h30
 obtain ⟨u33, e33, h33⟩:=hk.qp 3
 obtain ⟨A33, c33, rfl, h33⟩ := h33
 obtain ⟨u36, e36, h36⟩:=hk.qp 6
 obtain ⟨A36, c36, rfl, h36⟩ := h36
 obtain ⟨u39, e39, h39⟩:=hk.qp 9
 obtain ⟨A39, c39, rfl, h39⟩ := h39
 obtain ⟨u43, e43, h43⟩:=hk.qp 13
 obtain ⟨A43, c43, rfl, h43⟩ := h43
 refine wl_bsliceS (r := byteR) (xs := [.tmp 30, .tmp 33, .tmp 36, .tmp 39, .tmp 43]) (ls := [headE x, strE x.data, numE x.old, numE x.new, numE (x.next.length : Int)]) (by decide) sl187 rfl (by simp only [evs, ev, e30, e33, e36, e39, e43]; first | done | rfl) rfl (by decide) (SlicesOf.cons h30 (SlicesOf.cons h33 (SlicesOf.cons h36 (SlicesOf.cons h39 (SlicesOf.cons h43 SlicesOf.nil))))) ?_
 intro g7 w7 hg7 hE7
 exact qz ⟨hE7, _, _, rfl, hg7⟩
 obtain ⟨u44, e44, h44⟩:=hk.qp 14
 obtain ⟨A44, c44, rfl, h44⟩ := h44
 have hcl:=rjoin_ok h44 (by rw [body_flat]; omega)
 refine Cl_ cl140 (by simp only [evs, ev, e44]; first | done | rfl) hcl ?_
 clear hcl
 rintro _ w7 ⟨A7, c7, rfl, ho7, hE7⟩
 rw [body_flat] at ho7 ⊢
 exact qz ⟨hE7, _, _, rfl, ho7.lower hER.size⟩
 obtain ⟨u45, e45, h45⟩:=hk.qp 15
 obtain ⟨A45, c45, rfl, h45⟩ := h45
 refine wl_assign (by decide) e45 ?_
 exact qz ⟨Chg.refl _ _, _, _, rfl, h45⟩
 intro F w4 hED hini hdo
 have e1:=di hini 1
 obtain ⟨u5, e5, h5⟩ := hdo 16 5 rfl
 obtain ⟨A5, c5, rfl, h5⟩ := h5
 refine wk_drop [(1, _), (5, _)] ⟨e1, e5, trivial⟩ ?_
 clear e1 e5 hini hdo
 replace hp:=hp.ext hED
 replace hp:=(HP.ownRow hpO hED h5).as_ (H' := itR 5 1 A5 (bodyW x).length c5 ((bodyW x).map bv) :: itB gs1 68 ([iv x.client, iv x.stamp, iv x.group, iv x.epoch, iv x.kind, iv x.block, .slice Ax0 x.data.length cx0, iv x.old, iv x.new, .slice Ax1 x.next.length cx1]) :: []) rfl
 refine so ?_
 refine wc_loop (fun L' w' mes => ∃ (k : Nat), ∃ (A2 : Option Addr), ∃ (c2 : Nat), L' = [(1, pt gs1 0), (5, .slice A2 ((bodyW x) ++ flatE numE (x.next.take k)).length c2), (6, iv (k : Int))] ∧ (k ≤ x.next.length) ∧ (GS byteR (fun b => b < w.heap.size) w' Ax0 cx0 x.data) ∧ (GS intR (fun b => b < w.heap.size) w' Ax1 cx1 x.next) ∧ (HP w (fun _ => False) (fun b => b < w.heap.size) w' (itR 5 1 A2 ((bodyW x) ++ flatE numE (x.next.take k)).length c2 (((bodyW x) ++ flatE numE (x.next.take k)).map bv) :: itB gs1 68 ([iv x.client, iv x.stamp, iv x.group, iv x.epoch, iv x.kind, iv x.block, .slice Ax0 x.data.length cx0, iv x.old, iv x.new, .slice Ax1 x.next.length cx1]) :: [])) ∧ x.next.length - k = mes) [(1, pt gs1 0), (5, .slice A5 ((bodyW x) ++ flatE numE (x.next.take 0)).length c5), (6, iv (0 : Int))] (x.next.length - 0) (by
     refine ⟨0, A5, c5, rfl, ?_, ?_, ?_, ?_, rfl⟩
     · exact Nat.zero_le _
     · exact hx0.tn
     · exact hx1.tn
     · rw [List.take_zero, flatE_nil, List.append_nil]; exact hp) ⟨rfl, (by rw [List.take_zero, flatE_nil, List.append_nil]; rfl), rfl, trivial⟩ ?_
 rintro _ wr _ ⟨k, A2, c2, rfl, hk, hx0, hx1, hp, rfl⟩ KL1 hKL1
 refine so ?_
 refine Cd ?_ ?_<;>intro hlt
 have hk9 : k < x.next.length := by omega
 have hrm:=flat_roomD numE x.next k 0 hk9
 have hko:=getD_ok hokn 0 hk9
 refine so ?_
 obtain ⟨ae3, hAe3, hate3⟩ := GS.elI hx1 k (by omega)
 refine so ?_
 refine Ce ((fun w => r11NumW_ok (w := w) (n := (x.next.getD k 0)) (by first | assumption | (unfold isNum; omega))) _) ?_
 rintro _ w4 ⟨A4, c4, rfl, ho4, hE4⟩
 replace hp:=hp.ext hE4
 refine wl_happendB (i := 0) (l2 := (numE (x.next.getD k 0))) (by decide) sl26 rfl rfl hp rfl ho4.bs (by (try simp only [List.length_append]); omega) ?_
 rintro A5 c5 w5 hp hC5
 refine so ?_
 have hnx : ((bodyW x) ++ flatE numE (x.next.take (k + 1))) = (((bodyW x) ++ flatE numE (x.next.take k)) ++ (numE (x.next.getD k 0))) := by
   rw [flat_takeD numE x.next k 0 hk9]
   simp only [← List.append_assoc]
 refine wk_drop [(1, pt gs1 0), (5, .slice A5 ((bodyW x) ++ flatE numE (x.next.take (k + 1))).length c5), (6, iv ((k + 1) : Int))] ⟨rfl, (by rw [hnx]; rfl), rfl, trivial⟩ (hKL1 _ _ (m2 := x.next.length - (k + 1)) ?_ ?_)
 refine ⟨(k + 1), A5, c5, rfl, by omega, hx0.to, hx1.to, ?_, rfl⟩
 rw [hnx]; exact hp
 omega
 obtain rfl : k = x.next.length := by omega
 refine so ?_
 refine P2 results121 ?_
 rw [List.take_length, ← wish_body] at hp
 exact ⟨_, rfl, A2, c2, by rw [List.take_length, ← wish_body], hp.rowLo (i := 0) rfl, hp.chg⟩
theorem kN_pi {out : List UInt8} {n : Int} (hp : HP w0 M0 Fz w (itR 5 1 A out.length c (out.map bv) :: H)) (hn : isNum n := by first | assumption | (unfold isNum; omega)) (hl : out.length + (numE n).length ≤ 1000000 := by (try simp only [List.length_append]); omega) : Ret prog 42 #[.slice A out.length c, .int .i64 n] w (RwP 5 w0 M0 Fz w H (out ++ numE n)) := qNum_ok hp hn hl
theorem rm_pi {p : Prop} (h : p := by (try simp only [List.length_append]); omega) : p := h
set_option maxHeartbeats 4000000 in
theorem qPiece_ok {out : List UInt8} {csx : List Value} {x : Nte} (hp : HP w0 M0 Fz w (itR 5 1 A out.length c (out.map bv) :: H)) (hx : noteR.rd Fz w csx x) (hok : PieceOk x) (hlen : out.length + (pieceE x).length ≤ 1000000) : Ret prog 48 #[.slice A out.length c, .agg csx.toArray] w (RwP 5 w0 M0 Fz w H (out ++ pieceE x)) := by
 obtain ⟨hIx, Ax0, cx0, Ax1, cx1, Ax2, cx2, Ax3, cx3, Ax4, cx4, Ax5, cx5, Ax6, cx6, Ax7, cx7, Ax8, cx8, Ax9, cx9, Ax10, cx10, rfl, hx0, hx1, hx2, hx3, hx4, hx5, hx6, hx7, hx8, hx9, hx10⟩ := hx
 have mx := hx8.mx
 obtain ⟨k1, k2, k3, k4⟩ := hok
 simp only [pieceE, digE, List.length_append] at hlen
 refine ret_of_wk func48 rfl ntmps48 leB_ ?_
 refine so ?_
 refine Bx hp (h := fun gs w1 hp E1 => ?_)
 replace hp := hp.up 1 rfl
 refine so ?_
 refine Cr (kN_pi (n := x.seq) hp) fun A1 c1 w2 hp F3 => so ?_
 refine wl_sliceA (by decide) ar23 rfl ?_
 have hb := hp.blkAt (i := 1) rfl
 refine Ar (l2 := x.dig.l) (S := fun _ => True) hp (((hb.at_ 6).take 32).bs rfl trivial hb.lt) rm_pi (fun A5 c5 w5 hp C5 => so ?_) (hm := by rw [Dig.h])
 refine Cr (kN_pi (n := x.level) hp) fun A1 c1 w2 hp F3 => so ?_
 refine Cr (kN_pi (n := x.place) hp) fun A1 c1 w2 hp F3 => so ?_
 refine Cd ?_ ?_ <;> intro h10
 · have hk10 : x.kind = 10 := by simpa using h10
   refine so ?_
   refine Pt ?_
   exact enR (hp.up 1 rfl).tail (by unfold pieceE; rw [if_pos hk10]; simp only [digE, List.append_assoc, List.append_nil])
 have hk10 : x.kind ≠ 10 := by simpa using h10
 rw [if_neg hk10] at hlen
 simp only [listE, List.length_append] at hlen
 obtain ⟨hnd, hdl⟩ := k4 hk10
 refine so ?_
 refine Cr (kN_pi (n := (x.digs.length : Int)) hp) fun A1 c1 w2 hp F3 => so ?_
 refine Lp [0, 3, 5] (fun L' w' mes => ∃ (k : Nat), ∃ (A2 : Option Addr), ∃ (c2 : Nat), L' = [(0, .slice A2 (catE digE (out ++ numE x.seq ++ x.dig.l ++ numE x.level ++ numE x.place ++ numE (x.digs.length : Int)) x.digs k).length c2), (3, pt gs 0), (5, iv (k : Int))] ∧ k ≤ x.digs.length ∧ Frz Fz Fz w1 w' ∧ HP w0 M0 Fz w' (itR 5 1 A2 (catE digE (out ++ numE x.seq ++ x.dig.l ++ numE x.level ++ numE x.place ++ numE (x.digs.length : Int)) x.digs k).length c2 ((catE digE (out ++ numE x.seq ++ x.dig.l ++ numE x.level ++ numE x.place ++ numE (x.digs.length : Int)) x.digs k).map bv) :: itB gs 38 _ :: H) ∧ x.digs.length - k = mes) (x.digs.length - 0) ⟨0, A1, c1, by rw [catE_0]; rfl, Nat.zero_le _, mv, by rw [catE_0]; exact hp, rfl⟩ ?_
 rintro _ wr _ ⟨k, A2, c2, rfl, hk, F4, hp, rfl⟩ KL hKL
 refine so ?_
 refine Cd ?_ ?_ <;> intro hc
 · have hk9 : k < x.digs.length := by omega
   have hr := catE_room (E := digE) (o := out ++ numE x.seq ++ x.dig.l ++ numE x.level ++ numE x.place ++ numE (x.digs.length : Int)) dig0 hk9
   simp only [digE, List.length_append] at hr
   obtain ⟨ae, hA, hae⟩ := GS.elD (hx8.to (F := Fz) (w' := wr)) k hk9
   refine so ?_
   refine wl_sliceA (by decide) ar23 rfl ?_
   refine Ar (l2 := (x.digs.getD k dig0).l) hp ((hae.at_.take 32).bs rfl hae.inS hae.lt) rm_pi (fun A5 c5 w5 hp C5 => so ?_) (hm := by rw [Dig.h])
   have e := catE_s (E := digE) (o := out ++ numE x.seq ++ x.dig.l ++ numE x.level ++ numE x.place ++ numE (x.digs.length : Int)) dig0 hk9
   simp only [digE] at e
   refine Kl [0, 3, 5] hKL (x.digs.length - (k + 1)) ⟨k + 1, A5, c5, by rw [e]; rfl, hk9, mv, by rw [e]; exact hp, rfl⟩ (by omega)
 obtain rfl : k = x.digs.length := by omega
 have hc9 := catE_le digE (out ++ numE x.seq ++ x.dig.l ++ numE x.level ++ numE x.place ++ numE (x.digs.length : Int)) x.digs x.digs.length
 simp only [List.length_append] at hc9
 refine so ?_
 refine Cr (qStr_ok hp (hx9.to (F := Fz)) hdl rm_pi) fun A1 c1 w2 hp F3 => so ?_
 refine Pt ?_
 exact enR (hp.up 1 rfl).tail (by rw [catE_all]; unfold pieceE; rw [if_neg hk10]; simp only [digE, listE, List.append_assoc])
end Go.Proofs.YtkdoomglflikkaaGreat
